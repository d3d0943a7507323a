import Derived.Shelf.Strings.Builder1
import Derived.Shelf.Strings.Builder2
import Derived.Shelf.Strings.OnBuilder
import Derived.Shelf.Small.Utf8
import Derived.Shelf.Small.Strs
import Derived.Shelf.Utf8.RuneCount
import Derived.Shelf.Strconv.Atoi
import Derived.Shelf.Strconv.Itoa0
import Derived.Shelf.Strconv.Itoa1
import Derived.Shelf.LaysM
import Derived.Shelf.Strconv.Itoa2
import Derived.Shelf.Strconv.Itoa3
import Derived.Shelf.Strconv.Itoa4
import Derived.Shelf.Strings.Search1
import Derived.Shelf.Strings.Search2
import Derived.Shelf.Strings.Search3
import Derived.Shelf.Strings.Count
import Derived.Shelf.Strings.Shaped
import Derived.Shelf.Strings.Split
import Derived.Shelf.Strings.SplitShaped
import Derived.Shelf.Unicode.Decode
import Derived.Shelf.Strings.Runes
import Derived.Shelf.Strings.RuneCount
import Derived.Shelf.Strings.Explode
import Derived.Shelf.Unicode.DecodeSlow
import Derived.Shelf.Unicode.DecodeAny
import Derived.WalkMore
import Derived.Outline
import Derived.RegionTactic
import Derived.Deep.RegionWith
import Derived.Scope
import Derived.DataElems
import Derived.Test.YtbnolaiklhbkkaaGreatDoorG02
set_option linter.unusedVariables false
set_option maxRecDepth 100000
namespace Go.Proofs.YtbnolaiklhbkkaaGreatDoor
open Go Go.Vc _root_.Go.Proofs.Tryz
theorem Qi{p:UInt8->Bool}:∀ {l:List UInt8} {k:Nat},(l.take k).all p=true->k<=l.length->(k=l.length\/∃ c,l[k]?=some c/\p c=false)->l.take k=l.takeWhile p
 | [],k,_,hk,_=>by simp
 | c :: l,0,_,_,he=>by
  rcases he with h|⟨d,hd,hp⟩
  ·simp at h
  ·simp at hd; subst hd; simp[hp]
 | c :: l,k+1,h,hk,he=>by
  simp only[List.take_succ_cons,List.all_cons,Bool.and_eq_true] at h;rw[List.take_succ_cons,List.takeWhile_cons,if_pos h.1,Qi h.2 (by simpa using hk) (he.imp (λ h=>by simpa using h) (λ h=>by simpa using h))]
theorem L8(w:World){l:List UInt8}(hl:l.length<=9223372036854775806){v:Value}{p:UInt8->Bool}(hv:∀ (w' : World) (c:UInt8) (R:Ending->World->Prop),R (.returned (.bool (p c))) w'->cU prog v #[.int .i32 (un c)] w' R){n:Nat}(hn:n<=l.length) :
  CP 157 #[sv l,iv n,v] w (λ r w'=>r=sv ((l.drop n).takeWhile p)/\w' = w):=by
 refine Ey ?_;unfold LM;refine⟨λ i w1 m=>∃ k:Nat,i=((n+k:Nat):Int)/\k<=(l.drop n).length/\m=(l.drop n).length-k/\((l.drop n).take k).all p=true/\w1=w,⟨(l.drop n).length,0,rfl,by omega,by omega,by simp,rfl⟩,?_⟩;rintro w1 m i ⟨k,rfl,hk,hm,ha,rfl⟩ -;have hd:(l.drop n).length=l.length-n:=List.length_drop;refine⟨λ b w2=>w2=w1/\((b=true/\∃ c,(l.drop n)[k]?=some c/\p c=true)\/(b=false/\(k=(l.drop n).length\/∃ c,(l.drop n)[k]?=some c/\p c=false))),?_,?_⟩
 ·rintro w2 b ⟨rfl,h⟩ -;rcases h with⟨rfl,c,hc,hp⟩|⟨rfl,he⟩
  ·have hlt:=(List.getElem?_eq_some_iff.1 hc).1;exact cT rfl ⟨(l.drop n).length-(k+1),by omega,k+1,by rw[aB ⟨by omega,by omega⟩]; omega,by omega,rfl,Dq (p:=p) ha hc hp,rfl⟩
  ·refine cF rfl ⟨by omega,by rw[eH]; omega,by omega,by omega,?_,rfl⟩;show Value.string ((bs l).extract ((n:Int)).toNat (((n+k:Nat):Int)).toNat)=_;rw[Int.toNat_natCast,Int.toNat_natCast,BX,Nat.add_sub_cancel_left,Qi ha hk he]
 ·by_cases hlt:k<(l.drop n).length
  ·have hc:(l.drop n)[k]?=some ((l.drop n)[k]'hlt):=gE hlt;generalize(l.drop n)[k]'hlt=c at hc;refine cT (by rw[eH]; exact dT (by omega)) ⟨by omega,?_⟩;rw[Int.toNat_natCast,lZ,<- List.getElem?_drop,hc];show an (some c) _;rw[an,wrap32];refine hv _ _ _ ⟨_,rfl,rfl,?_⟩
   cases hp:p c with
   | true=>exact .inl ⟨rfl,c,rfl,hp⟩
   | false=>exact .inr ⟨rfl,.inr ⟨c,rfl,hp⟩⟩
  ·exact cF (by rw[eH]; exact dF (by omega)) ⟨rfl,.inr ⟨rfl,.inl (by omega)⟩⟩
theorem N7(w' : World)(c:UInt8)(R:Ending->World->Prop)(h:R (.returned (.bool (inr (un c)))) w'):cU prog (.func (.func 158) #[] #[]) #[.int .i32 (un c)] w' R:=by
 refine bx (by kernel_rfl) (ak (Ht w' (un c)) ?_);rintro v w3 ⟨rfl,rfl⟩; exact h
theorem NJ(w' : World)(c:UInt8)(R:Ending->World->Prop)(h:R (.returned (.bool (vJ (un c)))) w'):cU prog (.func (.func 190) #[] #[]) #[.int .i32 (un c)] w' R:=by
 refine bx (by kernel_rfl) (ak (B3 w' (un c)) ?_);rintro v w3 ⟨rfl,rfl⟩; exact h
def Em(l:List UInt8):Int:=l.foldl (λ n c=>10*n+(un c-48)) 0
theorem Bh(l:List UInt8)(c:UInt8):Em (l++[c])=10*Em l+(un c-48):=by simp[Em]
theorem OD:∀ (k:Nat) (l:List UInt8),l.length<=k->(l.all λ c=>vJ (un c))=true->0<=Em l/\Em l<10 ^ k:=by
 intro k
 induction k with
 | zero=>intro l hl _; obtain rfl:=List.length_eq_zero_iff.1 (by omega:l.length=0); exact⟨by decide,by decide⟩
 | succ k ih =>
  intro l hl ha;rcases List.eq_nil_or_concat l with rfl|⟨l',c,rfl⟩
  ·refine⟨by decide,?_⟩;show(0:Int)<10 ^ (k+1);exact Int.pow_pos (by decide)
  ·rw[List.concat_eq_append] at hl ha ⊢;rw[List.all_append,Bool.and_eq_true] at ha;rw[List.length_append,List.length_singleton] at hl;have h1:=ih l' (by omega) ha.1;have h2:vJ (un c)=true:=by simpa using ha.2
   simp only[vJ,Bool.and_eq_true,decide_eq_true_eq] at h2;rw[Bh,Int.pow_succ];omega
def wU(l:List UInt8):Int×Int:=if 1<l.length/\l.head? = some 48 then (0,2) else if 9<l.length then (0,4) else (Em l,0)
theorem Ly(w:World){l:List UInt8}(hd:(l.all λ c=>vJ (un c))=true)(hl:l.length<=10000):CP 232 #[sv l] w (λ r w'=>r=.tuple #[iv (wU l).1,iv (wU l).2]/\w' = w):=by
 refine wS ?_;unfold tu;refine⟨λ b w1=>b=decide (1<l.length/\l.head? = some 48)/\w1=w,?_,?_⟩
 ·rintro w1 b ⟨rfl,rfl⟩ -
  by_cases h:1<l.length/\l.head? = some 48
  ·exact cT (dT h) ⟨by rw[wU,if_pos h],rfl⟩
  refine cF (dF h) ?_
  by_cases h9:9<l.length
  ·exact cT (by rw[eH]; exact dT (by omega)) ⟨by rw[wU,if_neg h,if_pos h9],rfl⟩
  refine cF (by rw[eH]; exact dF (by omega)) ?_;refine⟨λ n i w2 m=>∃ k:Nat,i=k/\k<=l.length/\m=l.length-k/\n=Em (l.take k)/\w2=w1,⟨l.length,0,rfl,by omega,by omega,rfl,rfl⟩,?_⟩;rintro w2 m n i ⟨k,rfl,hk,hm,rfl,rfl⟩ -
  by_cases hlt:k<l.length
  ·have hc:l[k]?=some (l[k]'hlt):=gE hlt;generalize l[k]'hlt=c at hc;have h1:vJ (un c)=true:=List.all_eq_true.1 hd c (List.mem_of_getElem? hc);have h2:=OD 9 (l.take k) (by rw[List.length_take]; omega) (by
    rw[List.all_eq_true] at hd ⊢;exact λ x hx=>hd x (List.mem_of_mem_take hx))
   have h1:48<=un c/\un c<=57:=by simpa[vJ] using h1
   unfold un at h1;have hlt8:=c.toNat_lt;refine cT (by rw[eH]; exact dT (by omega)) ⟨by omega,?_⟩;rw[Int.toNat_natCast,lZ,hc];refine⟨l.length-(k+1),by omega,k+1,aB ⟨by omega,by omega⟩,by omega,rfl,?_,rfl⟩;have e8:IntKind.u8.wrap ((c.toNat:Int)-48)=(c.toNat:Int)-48:=by
    simp only[IntKind.wrap,IntKind.signed,IntKind.bits]
    simp
    omega
   rw[e8,aG hc,Bh,un,aB (n:=10*Em (l.take k)) ⟨by omega,by omega⟩,aB (n:=(c.toNat:Int)-48) ⟨by omega,by omega⟩,aB ⟨by omega,by omega⟩]
  ·obtain rfl:k=l.length:=by omega
   refine cF (by rw[eH]; exact dF (by omega)) ⟨?_,rfl⟩;rw[List.take_length,wU,if_neg h,if_neg h9]
 ·cases l with
  | nil=>exact cF (by rw[eH]; rfl) ⟨rfl,rfl⟩
  | cons c l =>
   by_cases h1:1<(c :: l).length
   ·refine cT (by rw[eH]; exact dT (by omega)) ⟨by omega,?_⟩;rw[show(0:Int).toNat=0 from rfl,lZ];refine⟨?_,rfl⟩
    by_cases h2:c=48
    ·subst h2; rw[dT (p:=1<(48 :: l).length/\(48 :: l).head? = some 48) ⟨h1,rfl⟩]; rfl
    ·rw[dF (λ h=>h2 (by simpa using h.2))];have:(c.toNat:Int)≠48:=λ h=>h2 (UInt8.toNat_inj.1 (by have:(48:UInt8).toNat=48:=rfl; omega));simpa using this
   ·exact cF (by rw[eH]; exact dF (by omega)) ⟨by rw[dF (λ h=>h1 h.1)],rfl⟩
end Go.Proofs.YtbnolaiklhbkkaaGreatDoor
namespace Go.Proofs
open Go.Shelf
def Tryz.Ea:Go.Shelf.Ren:=⟨fun|221=>179|268=>199|138=>200|143=>201|195=>227|197=>228|218=>229|219=>230|260=>244|217=>245|225=>246|224=>247|267=>248|266=>254|314=>255|n=>n,fun|9=>9|3=>3|31=>155|4=>4|0=>0|105=>302|21=>21|5=>5|46=>222|119=>318|139=>321|138=>320|146=>322|51=>242|n=>n,fun|1=>1|3=>4|4=>5|n=>n⟩
theorem Tryz.Oi:Go.Proofs.Lays.n221 Tryz.prog Tryz.Ea:={
 mixed:=by kernel_rfl
 f138:=Tryz.func200.trans (congrArg some (by kernel_rfl))
 f143:=Tryz.func201.trans (congrArg some (by kernel_rfl))
 f195:=Tryz.func227.trans (congrArg some (by kernel_rfl))
 f197:=Tryz.func228.trans (congrArg some (by kernel_rfl))
 f217:=Tryz.func245.trans (congrArg some (by kernel_rfl))
 f218:=Tryz.func229.trans (congrArg some (by kernel_rfl))
 f219:=Tryz.func230.trans (congrArg some (by kernel_rfl))
 f221:=Tryz.func179.trans (congrArg some (by kernel_rfl))
 f224:=Tryz.func247.trans (congrArg some (by kernel_rfl))
 f225:=Tryz.func246.trans (congrArg some (by kernel_rfl))
 f260:=Tryz.func244.trans (congrArg some (by kernel_rfl))
 f266:=Tryz.func254.trans (congrArg some (by kernel_rfl))
 f267:=Tryz.func248.trans (congrArg some (by kernel_rfl))
 f268:=Tryz.func199.trans (congrArg some (by kernel_rfl))
 f314:=Tryz.func255.trans (congrArg some (by kernel_rfl))
 t0:=Tryz.underlying0
 a0:=Tryz.isAgg0
 z0:=Tryz.sizeOf0
 v0:=Tryz.zeroValue0
 t3:=Tryz.underlying3
 a3:=Tryz.isAgg3
 z3:=Tryz.sizeOf3
 v3:=Tryz.zeroValue3
 t4:=Tryz.underlying4
 a4:=Tryz.isAgg4
 z4:=Tryz.sizeOf4
 v4:=Tryz.zeroValue4
 t5:=Tryz.underlying5
 a5:=Tryz.isAgg5
 z5:=Tryz.sizeOf5
 v5:=Tryz.zeroValue5
 t9:=Tryz.underlying9
 a9:=Tryz.isAgg9
 z9:=Tryz.sizeOf9
 v9:=Tryz.zeroValue9
 t21:=Tryz.underlying21
 a21:=Tryz.isAgg21
 z21:=Tryz.sizeOf21
 v21:=Tryz.zeroValue21
 t31:=Tryz.underlying155
 a31:=Tryz.isAgg155
 z31:=Tryz.sizeOf155
 v31:=Tryz.zeroValue155
 t46:=Tryz.underlying222
 a46:=Tryz.isAgg222
 z46:=Tryz.sizeOf222
 v46:=Tryz.zeroValue222
 t51:=Tryz.underlying242
 a51:=Tryz.isAgg242
 z51:=Tryz.sizeOf242
 v51:=Tryz.zeroValue242
 t105:=Tryz.underlying302
 a105:=Tryz.isAgg302
 z105:=Tryz.sizeOf302
 v105:=Tryz.zeroValue302
 t119:=Tryz.underlying318
 a119:=Tryz.isAgg318
 z119:=Tryz.sizeOf318
 t138:=Tryz.underlying320
 a138:=Tryz.isAgg320
 z138:=Tryz.sizeOf320
 v138:=Tryz.zeroValue320
 t139:=Tryz.underlying321
 a139:=Tryz.isAgg321
 z139:=Tryz.sizeOf321
 v139:=Tryz.zeroValue321
 t146:=Tryz.underlying322
 a146:=Tryz.isAgg322
 z146:=Tryz.sizeOf322
 v146:=Tryz.zeroValue322
 g1:=by kernel_rfl
 g3:=by kernel_rfl
 g4:=by kernel_rfl }
def Tryz.D9:Go.Shelf.Ren:=⟨fun|172=>231|244=>249|245=>250|247=>256|279=>257|280=>258|281=>259|282=>260|287=>264|316=>265|171=>53|205=>266|321=>267|322=>268|243=>99|246=>100|283=>133|284=>134|285=>135|286=>136|129=>170|317=>169|318=>171|319=>172|320=>173|337=>194|338=>195|n=>n,fun|9=>9|3=>3|75=>201|76=>202|4=>4|5=>5|167=>324|37=>175|0=>0|85=>325|2=>2|168=>327|53=>45|175=>330|46=>222|210=>333|127=>239|145=>338|143=>336|21=>21|171=>205|173=>208|212=>241|51=>242|20=>20|213=>243|232=>299|233=>300|80=>204|n=>n,fun|15=>6|16=>7|17=>0|18=>2|19=>3|n=>n⟩
theorem Tryz.Oh:Go.Proofs.Lays.n172 Tryz.prog Tryz.D9:={
 mixed:=by kernel_rfl
 f129:=Tryz.func170.trans (congrArg some (by kernel_rfl))
 f171:=Tryz.func53.trans (congrArg some (by kernel_rfl))
 f172:=Tryz.func231.trans (congrArg some (by kernel_rfl))
 f205:=Tryz.func266.trans (congrArg some (by kernel_rfl))
 f243:=Tryz.func99.trans (congrArg some (by kernel_rfl))
 f244:=Tryz.func249.trans (congrArg some (by kernel_rfl))
 f245:=Tryz.func250.trans (congrArg some (by kernel_rfl))
 f246:=Tryz.func100.trans (congrArg some (by kernel_rfl))
 f247:=Tryz.func256.trans (congrArg some (by kernel_rfl))
 f279:=Tryz.func257.trans (congrArg some (by kernel_rfl))
 f280:=Tryz.func258.trans (congrArg some (by kernel_rfl))
 f281:=Tryz.func259.trans (congrArg some (by kernel_rfl))
 f282:=Tryz.func260.trans (congrArg some (by kernel_rfl))
 f283:=Tryz.func133.trans (congrArg some (by kernel_rfl))
 f284:=Tryz.func134.trans (congrArg some (by kernel_rfl))
 f285:=Tryz.func135.trans (congrArg some (by kernel_rfl))
 f286:=Tryz.func136.trans (congrArg some (by kernel_rfl))
 f287:=Tryz.func264.trans (congrArg some (by kernel_rfl))
 f316:=Tryz.func265.trans (congrArg some (by kernel_rfl))
 f317:=Tryz.func169.trans (congrArg some (by kernel_rfl))
 f318:=Tryz.func171.trans (congrArg some (by kernel_rfl))
 f319:=Tryz.func172.trans (congrArg some (by kernel_rfl))
 f320:=Tryz.func173.trans (congrArg some (by kernel_rfl))
 f321:=Tryz.func267.trans (congrArg some (by kernel_rfl))
 f322:=Tryz.func268.trans (congrArg some (by kernel_rfl))
 f337:=Tryz.func194.trans (congrArg some (by kernel_rfl))
 f338:=Tryz.func195.trans (congrArg some (by kernel_rfl))
 t0:=Tryz.underlying0
 a0:=Tryz.isAgg0
 z0:=Tryz.sizeOf0
 v0:=Tryz.zeroValue0
 t2:=Tryz.underlying2
 a2:=Tryz.isAgg2
 z2:=Tryz.sizeOf2
 v2:=Tryz.zeroValue2
 t3:=Tryz.underlying3
 a3:=Tryz.isAgg3
 z3:=Tryz.sizeOf3
 v3:=Tryz.zeroValue3
 t4:=Tryz.underlying4
 a4:=Tryz.isAgg4
 z4:=Tryz.sizeOf4
 v4:=Tryz.zeroValue4
 t5:=Tryz.underlying5
 a5:=Tryz.isAgg5
 z5:=Tryz.sizeOf5
 v5:=Tryz.zeroValue5
 t9:=Tryz.underlying9
 a9:=Tryz.isAgg9
 z9:=Tryz.sizeOf9
 v9:=Tryz.zeroValue9
 t20:=Tryz.underlying20
 a20:=Tryz.isAgg20
 z20:=Tryz.sizeOf20
 v20:=Tryz.zeroValue20
 t21:=Tryz.underlying21
 a21:=Tryz.isAgg21
 z21:=Tryz.sizeOf21
 v21:=Tryz.zeroValue21
 t37:=Tryz.underlying175
 a37:=Tryz.isAgg175
 z37:=Tryz.sizeOf175
 v37:=Tryz.zeroValue175
 t46:=Tryz.underlying222
 a46:=Tryz.isAgg222
 z46:=Tryz.sizeOf222
 v46:=Tryz.zeroValue222
 t51:=Tryz.underlying242
 a51:=Tryz.isAgg242
 z51:=Tryz.sizeOf242
 v51:=Tryz.zeroValue242
 t53:=Tryz.underlying45
 a53:=Tryz.isAgg45
 z53:=Tryz.sizeOf45
 v53:=Tryz.zeroValue45
 t75:=Tryz.underlying201
 a75:=Tryz.isAgg201
 z75:=Tryz.sizeOf201
 v75:=Tryz.zeroValue201
 t76:=Tryz.underlying202
 a76:=Tryz.isAgg202
 z76:=Tryz.sizeOf202
 v76:=Tryz.zeroValue202
 t85:=Tryz.underlying325
 a85:=Tryz.isAgg325
 z85:=Tryz.sizeOf325
 v85:=Tryz.zeroValue325
 t127:=Tryz.underlying239
 a127:=Tryz.isAgg239
 z127:=Tryz.sizeOf239
 v127:=Tryz.zeroValue239
 t143:=Tryz.underlying336
 a143:=Tryz.isAgg336
 z143:=Tryz.sizeOf336
 v143:=Tryz.zeroValue336
 t145:=Tryz.underlying338
 a145:=Tryz.isAgg338
 z145:=Tryz.sizeOf338
 v145:=Tryz.zeroValue338
 t167:=Tryz.underlying324
 a167:=Tryz.isAgg324
 z167:=Tryz.sizeOf324
 v167:=Tryz.zeroValue324
 t168:=Tryz.underlying327
 a168:=Tryz.isAgg327
 z168:=Tryz.sizeOf327
 v168:=Tryz.zeroValue327
 t171:=Tryz.underlying205
 a171:=Tryz.isAgg205
 z171:=Tryz.sizeOf205
 v171:=Tryz.zeroValue205
 t173:=Tryz.underlying208
 a173:=Tryz.isAgg208
 z173:=Tryz.sizeOf208
 v173:=Tryz.zeroValue208
 t175:=Tryz.underlying330
 a175:=Tryz.isAgg330
 z175:=Tryz.sizeOf330
 v175:=Tryz.zeroValue330
 t210:=Tryz.underlying333
 a210:=Tryz.isAgg333
 z210:=Tryz.sizeOf333
 v210:=Tryz.zeroValue333
 t212:=Tryz.underlying241
 a212:=Tryz.isAgg241
 z212:=Tryz.sizeOf241
 v212:=Tryz.zeroValue241
 t213:=Tryz.underlying243
 a213:=Tryz.isAgg243
 z213:=Tryz.sizeOf243
 t232:=Tryz.underlying299
 a232:=Tryz.isAgg299
 z232:=Tryz.sizeOf299
 v232:=Tryz.zeroValue299
 t233:=Tryz.underlying300
 a233:=Tryz.isAgg300
 z233:=Tryz.sizeOf300
 v233:=Tryz.zeroValue300
 g15:=by kernel_rfl
 g16:=by kernel_rfl
 g17:=by kernel_rfl
 g18:=by kernel_rfl
 g19:=by kernel_rfl }
open Go.RowKit in
theorem Tryz.strconv_Atoi(s:ByteArray)(n:Int)(hl:s.size<=18)(h:Lib.atoi s.data.toList=some n)(w:World) :
  Calls Tryz.prog 231 #[.string s] w λ e w'=>e=.returned (.tuple #[.int .i64 n,.nilIface])/\∃ t,w' = Lib.bytesWorld w 5 t:=Any.strconv_Atoi Tryz.Oh s n hl h w
def Tryz.Cq:Go.Shelf.Ren:=⟨fun|173=>54|246=>100|283=>133|284=>134|285=>135|286=>136|129=>170|317=>169|318=>171|319=>172|320=>173|337=>194|338=>195|n=>n,fun|2=>2|3=>3|9=>9|4=>4|171=>205|0=>0|53=>45|37=>175|5=>5|173=>208|212=>241|51=>242|20=>20|213=>243|46=>222|232=>299|233=>300|n=>n,fun|17=>0|18=>2|19=>3|n=>n⟩
theorem Tryz.Lf:Go.Proofs.LaysM.n173 Tryz.prog Tryz.Cq:={
 mixed:=by kernel_rfl
 f129:=Tryz.func170.trans (congrArg some (by kernel_rfl))
 f173:=Tryz.func54.trans (congrArg some (by kernel_rfl))
 f246:=Tryz.func100.trans (congrArg some (by kernel_rfl))
 f283:=Tryz.func133.trans (congrArg some (by kernel_rfl))
 f284:=Tryz.func134.trans (congrArg some (by kernel_rfl))
 f285:=Tryz.func135.trans (congrArg some (by kernel_rfl))
 f286:=Tryz.func136.trans (congrArg some (by kernel_rfl))
 f317:=Tryz.func169.trans (congrArg some (by kernel_rfl))
 f318:=Tryz.func171.trans (congrArg some (by kernel_rfl))
 f319:=Tryz.func172.trans (congrArg some (by kernel_rfl))
 f320:=Tryz.func173.trans (congrArg some (by kernel_rfl))
 f337:=Tryz.func194.trans (congrArg some (by kernel_rfl))
 f338:=Tryz.func195.trans (congrArg some (by kernel_rfl))
 t0:=Tryz.underlying0
 a0:=Tryz.isAgg0
 z0:=Tryz.sizeOf0
 v0:=Tryz.zeroValue0
 t2:=Tryz.underlying2
 a2:=Tryz.isAgg2
 z2:=Tryz.sizeOf2
 v2:=Tryz.zeroValue2
 t3:=Tryz.underlying3
 a3:=Tryz.isAgg3
 z3:=Tryz.sizeOf3
 v3:=Tryz.zeroValue3
 t4:=Tryz.underlying4
 a4:=Tryz.isAgg4
 z4:=Tryz.sizeOf4
 v4:=Tryz.zeroValue4
 t5:=Tryz.underlying5
 a5:=Tryz.isAgg5
 z5:=Tryz.sizeOf5
 v5:=Tryz.zeroValue5
 t9:=Tryz.underlying9
 a9:=Tryz.isAgg9
 z9:=Tryz.sizeOf9
 v9:=Tryz.zeroValue9
 t20:=Tryz.underlying20
 a20:=Tryz.isAgg20
 z20:=Tryz.sizeOf20
 v20:=Tryz.zeroValue20
 t37:=Tryz.underlying175
 a37:=Tryz.isAgg175
 z37:=Tryz.sizeOf175
 v37:=Tryz.zeroValue175
 t46:=Tryz.underlying222
 a46:=Tryz.isAgg222
 z46:=Tryz.sizeOf222
 v46:=Tryz.zeroValue222
 t51:=Tryz.underlying242
 a51:=Tryz.isAgg242
 z51:=Tryz.sizeOf242
 v51:=Tryz.zeroValue242
 t53:=Tryz.underlying45
 a53:=Tryz.isAgg45
 z53:=Tryz.sizeOf45
 v53:=Tryz.zeroValue45
 t171:=Tryz.underlying205
 a171:=Tryz.isAgg205
 z171:=Tryz.sizeOf205
 v171:=Tryz.zeroValue205
 t173:=Tryz.underlying208
 a173:=Tryz.isAgg208
 z173:=Tryz.sizeOf208
 v173:=Tryz.zeroValue208
 t212:=Tryz.underlying241
 a212:=Tryz.isAgg241
 z212:=Tryz.sizeOf241
 v212:=Tryz.zeroValue241
 t213:=Tryz.underlying243
 a213:=Tryz.isAgg243
 z213:=Tryz.sizeOf243
 t232:=Tryz.underlying299
 a232:=Tryz.isAgg299
 z232:=Tryz.sizeOf299
 v232:=Tryz.zeroValue299
 t233:=Tryz.underlying300
 a233:=Tryz.isAgg300
 z233:=Tryz.sizeOf300
 v233:=Tryz.zeroValue300
 g17:=by kernel_rfl
 g18:=by kernel_rfl
 g19:=by kernel_rfl
 i0:=by kernel_rfl
 i2:=by kernel_rfl
 i3:=by kernel_rfl
 i4:=by kernel_rfl
 i5:=by kernel_rfl
 i9:=by kernel_rfl
 i20:=by kernel_rfl
 i37:=by kernel_rfl
 i46:=by kernel_rfl
 i51:=by kernel_rfl
 i53:=by kernel_rfl
 i171:=by kernel_rfl
 i173:=by kernel_rfl
 i212:=by kernel_rfl
 i232:=by kernel_rfl
 i233:=by kernel_rfl
 m17:=by kernel_rfl
 m18:=by kernel_rfl
 m19:=by kernel_rfl }
open Go.RowKit Go.Sort Go.Lib in
theorem Tryz.strconv_FormatInt_10(n:Int)(h0 : -9223372036854775808<=n)(h1:n<=9223372036854775807)(w:World) (htab:Lib.TabIs Tryz.prog w "internal/strconv.uint64pow10" .u64 Lib.pow10Tab) :
  Calls Tryz.prog 54 #[.int .i64 n,.int .i64 10] w λ e w'=>e=.returned (.string ⟨(Lib.itoa n).toArray⟩)/\∃ k os,w' = grow (w.drewN k) os:=Any.strconv_FormatInt_10 Tryz.Lf n h0 h1 w htab
def Tryz.Cp:Go.Shelf.Ren:=⟨fun|171=>53|243=>99|246=>100|283=>133|284=>134|285=>135|286=>136|129=>170|317=>169|318=>171|319=>172|320=>173|337=>194|338=>195|n=>n,fun|3=>3|9=>9|2=>2|4=>4|171=>205|0=>0|53=>45|37=>175|5=>5|173=>208|212=>241|51=>242|20=>20|213=>243|46=>222|232=>299|233=>300|n=>n,fun|17=>0|18=>2|19=>3|n=>n⟩
theorem Tryz.Ld:Go.Proofs.LaysM.n171 Tryz.prog Tryz.Cp:={
 mixed:=by kernel_rfl
 f129:=Tryz.func170.trans (congrArg some (by kernel_rfl))
 f171:=Tryz.func53.trans (congrArg some (by kernel_rfl))
 f243:=Tryz.func99.trans (congrArg some (by kernel_rfl))
 f246:=Tryz.func100.trans (congrArg some (by kernel_rfl))
 f283:=Tryz.func133.trans (congrArg some (by kernel_rfl))
 f284:=Tryz.func134.trans (congrArg some (by kernel_rfl))
 f285:=Tryz.func135.trans (congrArg some (by kernel_rfl))
 f286:=Tryz.func136.trans (congrArg some (by kernel_rfl))
 f317:=Tryz.func169.trans (congrArg some (by kernel_rfl))
 f318:=Tryz.func171.trans (congrArg some (by kernel_rfl))
 f319:=Tryz.func172.trans (congrArg some (by kernel_rfl))
 f320:=Tryz.func173.trans (congrArg some (by kernel_rfl))
 f337:=Tryz.func194.trans (congrArg some (by kernel_rfl))
 f338:=Tryz.func195.trans (congrArg some (by kernel_rfl))
 t0:=Tryz.underlying0
 a0:=Tryz.isAgg0
 z0:=Tryz.sizeOf0
 v0:=Tryz.zeroValue0
 t2:=Tryz.underlying2
 a2:=Tryz.isAgg2
 z2:=Tryz.sizeOf2
 v2:=Tryz.zeroValue2
 t3:=Tryz.underlying3
 a3:=Tryz.isAgg3
 z3:=Tryz.sizeOf3
 v3:=Tryz.zeroValue3
 t4:=Tryz.underlying4
 a4:=Tryz.isAgg4
 z4:=Tryz.sizeOf4
 v4:=Tryz.zeroValue4
 t5:=Tryz.underlying5
 a5:=Tryz.isAgg5
 z5:=Tryz.sizeOf5
 v5:=Tryz.zeroValue5
 t9:=Tryz.underlying9
 a9:=Tryz.isAgg9
 z9:=Tryz.sizeOf9
 v9:=Tryz.zeroValue9
 t20:=Tryz.underlying20
 a20:=Tryz.isAgg20
 z20:=Tryz.sizeOf20
 v20:=Tryz.zeroValue20
 t37:=Tryz.underlying175
 a37:=Tryz.isAgg175
 z37:=Tryz.sizeOf175
 v37:=Tryz.zeroValue175
 t46:=Tryz.underlying222
 a46:=Tryz.isAgg222
 z46:=Tryz.sizeOf222
 v46:=Tryz.zeroValue222
 t51:=Tryz.underlying242
 a51:=Tryz.isAgg242
 z51:=Tryz.sizeOf242
 v51:=Tryz.zeroValue242
 t53:=Tryz.underlying45
 a53:=Tryz.isAgg45
 z53:=Tryz.sizeOf45
 v53:=Tryz.zeroValue45
 t171:=Tryz.underlying205
 a171:=Tryz.isAgg205
 z171:=Tryz.sizeOf205
 v171:=Tryz.zeroValue205
 t173:=Tryz.underlying208
 a173:=Tryz.isAgg208
 z173:=Tryz.sizeOf208
 v173:=Tryz.zeroValue208
 t212:=Tryz.underlying241
 a212:=Tryz.isAgg241
 z212:=Tryz.sizeOf241
 v212:=Tryz.zeroValue241
 t213:=Tryz.underlying243
 a213:=Tryz.isAgg243
 z213:=Tryz.sizeOf243
 t232:=Tryz.underlying299
 a232:=Tryz.isAgg299
 z232:=Tryz.sizeOf299
 v232:=Tryz.zeroValue299
 t233:=Tryz.underlying300
 a233:=Tryz.isAgg300
 z233:=Tryz.sizeOf300
 v233:=Tryz.zeroValue300
 g17:=by kernel_rfl
 g18:=by kernel_rfl
 g19:=by kernel_rfl
 i0:=by kernel_rfl
 i2:=by kernel_rfl
 i3:=by kernel_rfl
 i4:=by kernel_rfl
 i5:=by kernel_rfl
 i9:=by kernel_rfl
 i20:=by kernel_rfl
 i37:=by kernel_rfl
 i46:=by kernel_rfl
 i51:=by kernel_rfl
 i53:=by kernel_rfl
 i171:=by kernel_rfl
 i173:=by kernel_rfl
 i212:=by kernel_rfl
 i232:=by kernel_rfl
 i233:=by kernel_rfl
 m17:=by kernel_rfl
 m18:=by kernel_rfl
 m19:=by kernel_rfl }
open Go.RowKit Go.Sort Go.Lib in
theorem Tryz.strconv_Itoa(n:Int)(h0 : -9223372036854775808<=n)(h1:n<=9223372036854775807)(w:World) (htab:Lib.TabIs Tryz.prog w "internal/strconv.uint64pow10" .u64 Lib.pow10Tab) :
  Calls Tryz.prog 53 #[.int .i64 n] w λ e w'=>e=.returned (.string ⟨(Lib.itoa n).toArray⟩)/\∃ k os,w' = grow (w.drewN k) os:=Any.strconv_Itoa Tryz.Ld n h0 h1 w htab
def Tryz.D8:Go.Shelf.Ren:=⟨fun|151=>233|152=>251|137=>261|119=>262|224=>247|225=>246|217=>245|266=>254|n=>n,fun|9=>9|21=>21|4=>4|3=>3|5=>5|0=>0|46=>222|n=>n,fun|n=>n⟩
theorem Tryz.Oe:Go.Proofs.Lays.n151 Tryz.prog Tryz.D8:={
 mixed:=by kernel_rfl
 f119:=Tryz.func262.trans (congrArg some (by kernel_rfl))
 f137:=Tryz.func261.trans (congrArg some (by kernel_rfl))
 f151:=Tryz.func233.trans (congrArg some (by kernel_rfl))
 f152:=Tryz.func251.trans (congrArg some (by kernel_rfl))
 f217:=Tryz.func245.trans (congrArg some (by kernel_rfl))
 f224:=Tryz.func247.trans (congrArg some (by kernel_rfl))
 f225:=Tryz.func246.trans (congrArg some (by kernel_rfl))
 f266:=Tryz.func254.trans (congrArg some (by kernel_rfl))
 t0:=Tryz.underlying0
 a0:=Tryz.isAgg0
 z0:=Tryz.sizeOf0
 v0:=Tryz.zeroValue0
 t3:=Tryz.underlying3
 a3:=Tryz.isAgg3
 z3:=Tryz.sizeOf3
 v3:=Tryz.zeroValue3
 t4:=Tryz.underlying4
 a4:=Tryz.isAgg4
 z4:=Tryz.sizeOf4
 v4:=Tryz.zeroValue4
 t5:=Tryz.underlying5
 a5:=Tryz.isAgg5
 z5:=Tryz.sizeOf5
 v5:=Tryz.zeroValue5
 t9:=Tryz.underlying9
 a9:=Tryz.isAgg9
 z9:=Tryz.sizeOf9
 v9:=Tryz.zeroValue9
 t21:=Tryz.underlying21
 a21:=Tryz.isAgg21
 z21:=Tryz.sizeOf21
 v21:=Tryz.zeroValue21
 t46:=Tryz.underlying222
 a46:=Tryz.isAgg222
 z46:=Tryz.sizeOf222
 v46:=Tryz.zeroValue222 }
open Go.RowKit Go.Lib in
theorem Tryz.strings_ContainsRune_ascii(s:ByteArray)(r:Int)(w:World)(h0:0<=r)(h1:r<128) :
  Calls Tryz.prog 233 #[.string s,.int .i32 r] w λ e w'=>e=.returned (.bool (decide (0<=Lib.indexByte s.data.toList r.toNat.toUInt8)))/\w' = w:=Any.strings_ContainsRune_ascii Tryz.Oe s r w h0 h1
def Tryz.D6:Go.Shelf.Ren:=⟨fun|138=>200|195=>227|218=>229|143=>201|219=>230|217=>245|225=>246|224=>247|267=>248|266=>254|314=>255|n=>n,fun|9=>9|3=>3|4=>4|5=>5|0=>0|46=>222|146=>322|51=>242|n=>n,fun|1=>1|n=>n⟩
theorem Tryz.Oc:Go.Proofs.Lays.n138 Tryz.prog Tryz.D6:={
 mixed:=by kernel_rfl
 f138:=Tryz.func200.trans (congrArg some (by kernel_rfl))
 f143:=Tryz.func201.trans (congrArg some (by kernel_rfl))
 f195:=Tryz.func227.trans (congrArg some (by kernel_rfl))
 f217:=Tryz.func245.trans (congrArg some (by kernel_rfl))
 f218:=Tryz.func229.trans (congrArg some (by kernel_rfl))
 f219:=Tryz.func230.trans (congrArg some (by kernel_rfl))
 f224:=Tryz.func247.trans (congrArg some (by kernel_rfl))
 f225:=Tryz.func246.trans (congrArg some (by kernel_rfl))
 f266:=Tryz.func254.trans (congrArg some (by kernel_rfl))
 f267:=Tryz.func248.trans (congrArg some (by kernel_rfl))
 f314:=Tryz.func255.trans (congrArg some (by kernel_rfl))
 t0:=Tryz.underlying0
 a0:=Tryz.isAgg0
 z0:=Tryz.sizeOf0
 v0:=Tryz.zeroValue0
 t3:=Tryz.underlying3
 a3:=Tryz.isAgg3
 z3:=Tryz.sizeOf3
 v3:=Tryz.zeroValue3
 t4:=Tryz.underlying4
 a4:=Tryz.isAgg4
 z4:=Tryz.sizeOf4
 v4:=Tryz.zeroValue4
 t5:=Tryz.underlying5
 a5:=Tryz.isAgg5
 z5:=Tryz.sizeOf5
 v5:=Tryz.zeroValue5
 t9:=Tryz.underlying9
 a9:=Tryz.isAgg9
 z9:=Tryz.sizeOf9
 v9:=Tryz.zeroValue9
 t46:=Tryz.underlying222
 a46:=Tryz.isAgg222
 z46:=Tryz.sizeOf222
 v46:=Tryz.zeroValue222
 t51:=Tryz.underlying242
 a51:=Tryz.isAgg242
 z51:=Tryz.sizeOf242
 v51:=Tryz.zeroValue242
 t146:=Tryz.underlying322
 a146:=Tryz.isAgg322
 z146:=Tryz.sizeOf322
 v146:=Tryz.zeroValue322
 g1:=by kernel_rfl }
open Go.RowKit Go.Lib in
theorem Tryz.strings_Count_one(s:ByteArray)(c:UInt8)(w:World) :
  Calls Tryz.prog 200 #[.string s,.string ⟨#[c]⟩] w λ e w'=>e=.returned (.int .i64 (Lib.countByte s.data.toList c))/\w' = w:=Any.strings_Count_one Tryz.Oc s c w
def Tryz.D5:Go.Shelf.Ren:=⟨fun|137=>261|217=>245|266=>254|n=>n,fun|9=>9|5=>5|3=>3|n=>n,fun|n=>n⟩
theorem Tryz.Ob:Go.Proofs.Lays.n137 Tryz.prog Tryz.D5:={
 mixed:=by kernel_rfl
 f137:=Tryz.func261.trans (congrArg some (by kernel_rfl))
 f217:=Tryz.func245.trans (congrArg some (by kernel_rfl))
 f266:=Tryz.func254.trans (congrArg some (by kernel_rfl))
 t3:=Tryz.underlying3
 a3:=Tryz.isAgg3
 z3:=Tryz.sizeOf3
 v3:=Tryz.zeroValue3
 t5:=Tryz.underlying5
 a5:=Tryz.isAgg5
 z5:=Tryz.sizeOf5
 v5:=Tryz.zeroValue5
 t9:=Tryz.underlying9
 a9:=Tryz.isAgg9
 z9:=Tryz.sizeOf9
 v9:=Tryz.zeroValue9 }
open Go.RowKit in
theorem Tryz.strings_IndexByte(s:ByteArray)(c:Int)(w:World) :
  Calls Tryz.prog 261 #[.string s,.int .u8 c] w λ e w'=>e=.returned (.int .i64 (Lib.indexByte s.data.toList c.toNat.toUInt8))/\w' = w:=Any.strings_IndexByte Tryz.Ob s c w
def Tryz.D7:Go.Shelf.Ren:=⟨fun|143=>201|219=>230|217=>245|225=>246|224=>247|267=>248|266=>254|314=>255|n=>n,fun|9=>9|3=>3|4=>4|5=>5|46=>222|146=>322|51=>242|n=>n,fun|1=>1|n=>n⟩
theorem Tryz.Od:Go.Proofs.Lays.n143 Tryz.prog Tryz.D7:={
 mixed:=by kernel_rfl
 f143:=Tryz.func201.trans (congrArg some (by kernel_rfl))
 f217:=Tryz.func245.trans (congrArg some (by kernel_rfl))
 f219:=Tryz.func230.trans (congrArg some (by kernel_rfl))
 f224:=Tryz.func247.trans (congrArg some (by kernel_rfl))
 f225:=Tryz.func246.trans (congrArg some (by kernel_rfl))
 f266:=Tryz.func254.trans (congrArg some (by kernel_rfl))
 f267:=Tryz.func248.trans (congrArg some (by kernel_rfl))
 f314:=Tryz.func255.trans (congrArg some (by kernel_rfl))
 t3:=Tryz.underlying3
 a3:=Tryz.isAgg3
 z3:=Tryz.sizeOf3
 v3:=Tryz.zeroValue3
 t4:=Tryz.underlying4
 a4:=Tryz.isAgg4
 z4:=Tryz.sizeOf4
 v4:=Tryz.zeroValue4
 t5:=Tryz.underlying5
 a5:=Tryz.isAgg5
 z5:=Tryz.sizeOf5
 v5:=Tryz.zeroValue5
 t9:=Tryz.underlying9
 a9:=Tryz.isAgg9
 z9:=Tryz.sizeOf9
 v9:=Tryz.zeroValue9
 t46:=Tryz.underlying222
 a46:=Tryz.isAgg222
 z46:=Tryz.sizeOf222
 v46:=Tryz.zeroValue222
 t51:=Tryz.underlying242
 a51:=Tryz.isAgg242
 z51:=Tryz.sizeOf242
 v51:=Tryz.zeroValue242
 t146:=Tryz.underlying322
 a146:=Tryz.isAgg322
 z146:=Tryz.sizeOf322
 v146:=Tryz.zeroValue322
 g1:=by kernel_rfl }
open Go.RowKit Go.Lib in
theorem Tryz.strings_Index_one(s:ByteArray)(c:UInt8)(w:World) :
  Calls Tryz.prog 201 #[.string s,.string ⟨#[c]⟩] w λ e w'=>e=.returned (.int .i64 (Lib.indexByte s.data.toList c))/\w' = w:=Any.strings_Index_one Tryz.Od s c w
def Tryz.vT:Go.Shelf.Ren:=⟨fun|156=>98|165=>130|166=>131|169=>132|240=>167|241=>168|276=>192|277=>193|n=>n,fun|31=>155|9=>9|3=>3|4=>4|0=>0|20=>20|72=>199|76=>202|70=>197|37=>175|75=>201|127=>239|164=>268|5=>5|80=>204|n=>n,fun|n=>n⟩
theorem Tryz.Og:Go.Proofs.Lays.n156 Tryz.prog Tryz.vT:={
 mixed:=by kernel_rfl
 f156:=Tryz.func98.trans (congrArg some (by kernel_rfl))
 f165:=Tryz.func130.trans (congrArg some (by kernel_rfl))
 f166:=Tryz.func131.trans (congrArg some (by kernel_rfl))
 f169:=Tryz.func132.trans (congrArg some (by kernel_rfl))
 f240:=Tryz.func167.trans (congrArg some (by kernel_rfl))
 f241:=Tryz.func168.trans (congrArg some (by kernel_rfl))
 f276:=Tryz.func192.trans (congrArg some (by kernel_rfl))
 f277:=Tryz.func193.trans (congrArg some (by kernel_rfl))
 t0:=Tryz.underlying0
 a0:=Tryz.isAgg0
 z0:=Tryz.sizeOf0
 v0:=Tryz.zeroValue0
 t3:=Tryz.underlying3
 a3:=Tryz.isAgg3
 z3:=Tryz.sizeOf3
 v3:=Tryz.zeroValue3
 t4:=Tryz.underlying4
 a4:=Tryz.isAgg4
 z4:=Tryz.sizeOf4
 v4:=Tryz.zeroValue4
 t9:=Tryz.underlying9
 a9:=Tryz.isAgg9
 z9:=Tryz.sizeOf9
 v9:=Tryz.zeroValue9
 t20:=Tryz.underlying20
 a20:=Tryz.isAgg20
 z20:=Tryz.sizeOf20
 v20:=Tryz.zeroValue20
 t31:=Tryz.underlying155
 a31:=Tryz.isAgg155
 z31:=Tryz.sizeOf155
 v31:=Tryz.zeroValue155
 t37:=Tryz.underlying175
 a37:=Tryz.isAgg175
 z37:=Tryz.sizeOf175
 v37:=Tryz.zeroValue175
 t70:=Tryz.underlying197
 a70:=Tryz.isAgg197
 z70:=Tryz.sizeOf197
 v70:=Tryz.zeroValue197
 t72:=Tryz.underlying199
 a72:=Tryz.isAgg199
 z72:=Tryz.sizeOf199
 v72:=Tryz.zeroValue199
 t75:=Tryz.underlying201
 a75:=Tryz.isAgg201
 z75:=Tryz.sizeOf201
 v75:=Tryz.zeroValue201
 t76:=Tryz.underlying202
 a76:=Tryz.isAgg202
 z76:=Tryz.sizeOf202
 v76:=Tryz.zeroValue202
 t127:=Tryz.underlying239
 a127:=Tryz.isAgg239
 z127:=Tryz.sizeOf239
 v127:=Tryz.zeroValue239
 t164:=Tryz.underlying268
 a164:=Tryz.isAgg268
 z164:=Tryz.sizeOf268
 v164:=Tryz.zeroValue268 }
theorem Tryz.sj:Builder.Extra Tryz.prog Tryz.vT:={
 sizeBuilder:=by kernel_rfl
 liesBuilder:=by kernel_rfl
 t5:=Tryz.underlying5
 a5:=Tryz.isAgg5
 z5:=Tryz.sizeOf5
 v5:=Tryz.zeroValue5
 infoByte:=by kernel_rfl
 cellsByte:=by kernel_rfl
 sizeByte:=by kernel_rfl
 neB5:=by decide }
open Go.RowKit in
theorem Tryz.strings_Join(bk o c:Nat)(xs:List ByteArray)(sep:ByteArray)(w:World)(hcells:∀ (j:Nat) x,xs[j]?=some x->w.cell? ⟨bk,o+j,none⟩=some (.string x))(hbk:bk<w.heap.size)(hN:xs.length<=140737488355328)(hcap:xs.length<=c)(hlen:(Lib.join (xs.map (·.data.toList)) sep.data.toList).length<=140737488355328) :
  Calls Tryz.prog 98 #[.slice (some ⟨bk,o,none⟩) xs.length c,.string sep] w λ e w'=>e=.returned (.string ⟨(Lib.join (xs.map (·.data.toList)) sep.data.toList).toArray⟩)/\Below w.heap.size w w':=Any.strings_Join Tryz.Og Tryz.sj bk o c xs sep w hcells hbk hN hcap hlen
def Tryz.D4:Go.Shelf.Ren:=⟨fun|119=>262|n=>n,fun|21=>21|4=>4|n=>n,fun|n=>n⟩
theorem Tryz.Oa:Go.Proofs.Lays.n119 Tryz.prog Tryz.D4:={
 mixed:=by kernel_rfl
 f119:=Tryz.func262.trans (congrArg some (by kernel_rfl))
 t4:=Tryz.underlying4
 a4:=Tryz.isAgg4
 z4:=Tryz.sizeOf4
 v4:=Tryz.zeroValue4
 t21:=Tryz.underlying21
 a21:=Tryz.isAgg21
 z21:=Tryz.sizeOf21
 v21:=Tryz.zeroValue21 }
theorem Tryz.utf8_ValidRune(r:Int)(w:World) :
  Calls Tryz.prog 262 #[.int .i32 r] w λ e w'=>e=.returned (.bool (Lib.validRune r))/\w' = w:=Any.utf8_ValidRune Tryz.Oa r w
end Go.Proofs
namespace Go.Proofs.YtbnolaiklhbkkaaGreatDoor
open Go Go.Vc _root_.Go.Proofs.Tryz
def gO(a:ByteArray)(b:Int)(w:World)(K:KP):=CC 251 #[.string a,.int .i32 b] w λ a b=>∃ c,a=.returned (iv c)/\K (.bool (decide (c>=0))) b
theorem lM{s1 n1 w K}(h:gO s1 n1 w K):CP 233 #[.string s1,.int .i32 n1] w K:=ah (aA []) func233 (by kernel_rfl) (by kernel_rfl) h
def marks:List UInt8:=[123,125,40,41,44,58,64,43,45,61]
theorem Ue(c:UInt8)(h:128<=c.toNat):∃ a b:UInt8,Utf8.encode (un c)=bs [a,b]/\128<=b.toNat:=by
 have hc:=c.toNat_lt;refine⟨UInt8.ofNat (0xC0+c.toNat / 64),UInt8.ofNat (0x80+c.toNat%64),?_,?_⟩
 ·have hv:Utf8.valid (un c)=true:=by
   unfold Utf8.valid un
   simp
   omega
  have h1:(un c).toNat=c.toNat:=by unfold un; exact Int.toNat_natCast _
  unfold Utf8.encode;simp only[hv,if_true,h1];rw[if_neg (by omega),if_pos (by omega)];rfl
 ·rw[UInt8.toNat_ofNat'];omega
open Go.Shelf Go.RowKit Go.Lib in
set_option maxHeartbeats 2000000 in
set_option maxRecDepth 1000000 in
theorem ir(w:World)(n:Int)(h0:0<=n)(h1 : ¬ n<128)(h2:n<256)(h3:(n==65533)=false)(a b:UInt8)(he:Utf8.encode n=⟨#[a,b]⟩)(hv:Lib.validRune n=true)(hb:128<=b.toNat) :
  Calls prog 251 #[.string ⟨#[123,125,40,41,44,58,64,43,45,61]⟩,.int .i32 n] w λ e w'=>e=.returned (.int .i64 (-1))/\ay w w' []:=by
 have e289:∀ args w,(callFunc 261 args).run prog w=.ok (.enter 261 args) w:=enters_of func261 (by kernel_rfl) rfl;have e290:∀ args w,(callFunc 262 args).run prog w=.ok (.enter 262 args) w:=enters_of func262 (by kernel_rfl) rfl
 go_enter func251,Tryz.ntmps251
 go_wp2_with (first
  | (go_at_fn 262; refine(Tryz.utf8_ValidRune _ _).mono ?_; rintro e w' ⟨rfl,hw⟩; rw[hw,hv])
  | (go_at_fn 261; refine(Tryz.strings_IndexByte _ _ _).mono ?_; rintro e w' ⟨rfl,hw⟩; rw[hw]))
 have hcv:∀ w,(convert 21 9 (.int .i32 n)).run prog w=.ok (.string ⟨#[a,b]⟩) w:=λ w=>by
  rw[<- he];simp[convert,aH (P:=prog) underlying21,aH (P:=prog) underlying9,Conv.intToString]
 go_step3
 go_wp2_with (first
  | (go_at_fn 261; refine(Tryz.strings_IndexByte _ _ _).mono ?_; rintro e w' ⟨rfl,hw⟩; rw[hw]))
 refine wp_loop_once ?_;have hb2:((125:Int) !=(b.toNat:Int))=true:=by rw[bne_iff_ne]; omega
 have hne:∀ x:UInt8,x.toNat<128->(x==b)=false:=λ x hx=>by rw[beq_eq_false_iff_ne]; rintro rfl; omega
 go_wp2_with (first
  | (go_at_fn 261; refine(Tryz.strings_IndexByte _ _ _).mono ?_; rintro e w' ⟨rfl,hw⟩; rw[hw]))
 all_goals (try go_step3)
 go_wp2_with (first
  | (go_at_fn 261; refine(Tryz.strings_IndexByte _ _ _).mono ?_; rintro e w' ⟨rfl,hw⟩; rw[hw]))
 all_goals go_region
 all_goals go_wp2
 ·have hi:Lib.indexByte [40,41,44,58,64,43,45,61] ((⟨#[a,b]⟩:ByteArray)[1]'(by show 1<2; decide))=-1:=by
   show Lib.indexByte [40,41,44,58,64,43,45,61] b=-1;simp[Lib.indexByte,hne 40 (by decide),hne 41 (by decide),hne 44 (by decide),hne 58 (by decide),hne 64 (by decide),hne 43 (by decide),hne 45 (by decide),hne 61 (by decide)]
  have c2:ay w w.drew.drew []:=(ay.drew w []).trans (ay.drew _ []) (by simp)
  go_region_with (go_at_call 261; refine(Tryz.strings_IndexByte _ _ _).mono ?_; rintro e w' ⟨rfl,hw⟩; rw[hw])
  all_goals go_wp2
  all_goals (rw[Exit.noGoto_ret]; show bodyPost prog Tryz.f251 (λ e w'=>e=Ending.returned (Value.int IntKind.i64 (-1))/\ay w w' []) Exit.ret _ _; go_ret; exact⟨rfl,c2⟩)
 ·exfalso
  first
   | exact absurd hb2 (show ¬ ((125:Int) !=(b.toNat:Int))=true by assumption)
   | exact absurd hb2 (by rw[show((125:Int) !=(b.toNat:Int))=false by assumption]; decide)
   | exact absurd (show(125:Int)=(b.toNat:Int) by assumption) (by omega)
theorem D3(w:World)(c:UInt8)(h:128<=c.toNat):CP 251 #[sv marks,.int .i32 (un c)] w (λ r w'=>r=iv (-1)/\ay w w' []):=by
 obtain⟨a,b,he,hb⟩:=Ue c h;have hc:=c.toNat_lt;have hu:un c=(c.toNat:Int):=rfl;refine Calls.mono (ir w (un c) (by omega) (by omega) (by omega) (by rw[beq_eq_false_iff_ne]; omega) a b he (dT (.inl (by omega))) hb) ?_;rintro e w' ⟨rfl,h⟩;exact⟨_,rfl,rfl,h⟩
theorem I7:∀ n:Nat,n<128->decide (0<=Lib.indexByte marks n.toUInt8)=marks.contains n.toUInt8:=by decide
theorem FL{c:UInt8}(h:128<=c.toNat):marks.contains c=false:=by
 cases hm:marks.contains c with
 | false=>rfl
 | true =>
  have:c∈marks:=by simpa using hm
  simp only[marks,List.mem_cons,List.mem_nil_iff,or_false] at this;rcases this with rfl|rfl|rfl|rfl|rfl|rfl|rfl|rfl|rfl|rfl<;>revert h<;>decide
theorem Fo(w:World)(c:UInt8):CP 233 #[sv marks,.int .i32 (un c)] w (λ r w'=>r=.bool (marks.contains c)/\ay w w' []):=by
 rcases Nat.lt_or_ge c.toNat 128 with h|h
 ·refine(Tryz.strings_ContainsRune_ascii (bs marks) (un c) w (by unfold un; omega) (by unfold un; omega)).mono ?_;rintro e w1 ⟨rfl,rfl⟩;refine⟨_,rfl,?_,ay.refl _ _⟩;have e1:(un c).toNat.toUInt8=c:=by unfold un; rw[Int.toNat_natCast]; exact UInt8.ofNat_toNat
  have:=I7 c.toNat h;have e2:c.toNat.toUInt8=c:=UInt8.ofNat_toNat;rw[e2] at this;rw[e1,<- this]; rfl
 ·refine lM ?_;unfold gO;refine ak (D3 w c h) ?_;rintro v w1 ⟨rfl,c1⟩;exact⟨_,rfl,by rw[FL h]; rfl,c1⟩
structure Tk where
 k:Int
 t:List UInt8
 v:Int
 a:Int
def Tk.cells(x:Tk):List Value:=[iv x.k,sv x.t,iv x.v,iv x.a]
theorem Tk.len(x:Tk):x.cells.length=4:=rfl
theorem Tk.one(x:Tk):∀ v∈x.cells,v.oneCell' = true:=by
 intro v hv; simp[Tk.cells] at hv; rcases hv with rfl|rfl|rfl|rfl<;>rfl
def Tk.val(x:Tk):Value:=.agg x.cells.toArray
def ur:Tk:=⟨0,[],0,0⟩
theorem TB:gV prog 256 280 ur.val 4 40:=gV.mk' underlying256 (by kernel_rfl) rfl (by decide)
def digits(l:List UInt8):List UInt8:=l.takeWhile λ c=>vJ (un c)
def word(l:List UInt8):List UInt8:=l.takeWhile λ c=>inr (un c)
def eX(l:List UInt8)(n:Nat)(c:UInt8):Tk×Int :=
 if Oq (un c) then (if 12<(word (l.drop n)).length then (ur,3) else (⟨1,word (l.drop n),0,n⟩,0))
 else if vJ (un c) then (if (wU (digits (l.drop n))).2≠0 then (ur,(wU (digits (l.drop n))).2) else (⟨2,digits (l.drop n),(wU (digits (l.drop n))).1,n⟩,0))
 else if marks.contains c then (⟨3,[c],0,n⟩,0) else (ur,2)
theorem MH{p:UInt8->Bool}:∀ (l:List UInt8),(l.takeWhile p).all p=true
 | []=>rfl
 | c :: l=>by
  rw[List.takeWhile_cons]
  split
  ·rename_i h; rw[List.all_cons,h,MH l]; rfl
  ·rfl
theorem Rh(w:World){l:List UInt8}(hl:l.length<=4000){n:Nat}{c:UInt8}(hc:l[n]?=some c) :
  CP 203 #[sv l,iv n] w (λ r w'=>r=.tuple #[(eX l n c).1.val,iv (eX l n c).2]/\ay w w' []):=by
 refine Cs ?_;unfold A6;have hn:=(List.getElem?_eq_some_iff.1 hc).1;refine(St.start w).one.ax ur.cells.toArray λ r1 w1 s1=>s1.ax ur.cells.toArray λ r2 w2 s2=>s2.az 0 rfl (Tk.mk 0 [] 0 n).cells rfl (Tk.one _) λ w3 s3=>?_;refine⟨λ w4=>(eX l n c).2=0/\St w w4 (Sep [ai r2 (eX l n c).1.cells.toArray 280,ai r1 ur.cells.toArray 280,emp]),?_,by omega,?_⟩
 ·rintro w4 ⟨h0,s4⟩ -;exact⟨_,_,_,_,s4.cellsIn 0 rfl,s4.az 1 rfl (eX l n c).1.cells rfl (Tk.one _) λ w5 s5=>⟨_,_,_,_,s5.cellsIn 1 rfl,by rw[h0]; rfl,s5.au⟩⟩
 rw[Int.toNat_natCast,lZ,hc];show an (some c) _;rw[an,wrap32];refine ak (yS w3 (un c)) ?_;rintro v _ ⟨rfl,rfl⟩;refine⟨_,rfl,?_⟩;have fail:∀ {e:Int} {w' : World},St w w' (Sep [ai r2 (Tk.mk 0 [] 0 n).cells.toArray 280,ai r1 ur.cells.toArray 280,emp])->True:=λ _=>trivial;clear fail
 cases h1:Oq (un c) with
 | true =>
  have e1:eX l n c=if 12<(word (l.drop n)).length then (ur,3) else (⟨1,word (l.drop n),0,n⟩,0):=by rw[eX,if_pos h1]
  refine cT rfl (ak (L8 _ (by omega) (p:=λ c=>inr (un c)) N7 (by omega)) ?_);rintro v w7 ⟨rfl,rfl⟩;refine⟨_,rfl,s3.aK 0 rfl (j:=0) (show 0<4 by decide) rfl λ w8 s8=>s8.aK 0 rfl (j:=1) (show 1<4 by decide) rfl λ w9 s9=>⟨_,s9.ag 0 rfl 1,?_⟩⟩;show cond (decide ((((bs (word (l.drop n))).size:Nat):Int)>12)) _ _;rw[eH]
  by_cases h12:12<(word (l.drop n)).length
  ·rw[if_pos h12] at e1;exact cT (dT (by omega)) (s9.az 1 rfl ur.cells rfl (Tk.one _) λ w10 s10=>⟨0,bs [],0,0,s10.cellsIn 1 rfl,by rw[e1]; rfl,s10.au⟩)
  ·rw[if_neg h12] at e1;exact cF (dF (by omega)) ⟨by rw[e1],by rw[e1]; exact s9⟩
 | false =>
 refine cF rfl (ak (B3 _ (un c)) ?_);rintro v _ ⟨rfl,rfl⟩;refine⟨_,rfl,?_⟩
 cases h2:vJ (un c) with
 | true =>
  have e1:eX l n c=if (wU (digits (l.drop n))).2≠0 then (ur,(wU (digits (l.drop n))).2) else (⟨2,digits (l.drop n),(wU (digits (l.drop n))).1,n⟩,0):=by rw[eX,if_neg (by rw[h1]; decide),if_pos h2]
  refine cT rfl (ak (L8 _ (by omega) (p:=λ c=>vJ (un c)) NJ (by omega)) ?_);rintro v w7 ⟨rfl,rfl⟩;refine⟨_,rfl,s3.aK 0 rfl (j:=0) (show 0<4 by decide) rfl λ w8 s8=>s8.aK 0 rfl (j:=1) (show 1<4 by decide) rfl λ w9 s9=>⟨_,s9.ag 0 rfl 1,?_⟩⟩;have hdl:(digits (l.drop n)).length<=4000:=Nat.le_trans (List.takeWhile_prefix _).length_le (by rw[List.length_drop]; omega);refine ak (Ly w9 (l:=digits (l.drop n)) (MH _) (by omega)) ?_;rintro v _ ⟨rfl,rfl⟩;refine⟨_,_,rfl,?_⟩
  by_cases h3:(wU (digits (l.drop n))).2=0
  ·rw[if_neg (by simpa using h3)] at e1;exact cF (by rw[h3]; rfl) (s9.aK 0 rfl (j:=2) (show 2<4 by decide) rfl λ w10 s10=>⟨by rw[e1],by rw[e1]; exact s10⟩)
  ·rw[if_pos h3] at e1;exact cT (by simpa using h3) (s9.az 1 rfl ur.cells rfl (Tk.one _) λ w10 s10=>⟨0,bs [],0,0,s10.cellsIn 1 rfl,by rw[e1]; rfl,s10.au⟩)
 | false =>
 refine cF rfl (ak (Fo _ c) ?_);rintro v w18 ⟨rfl,c18⟩;have s18:=s3.quiet c18;refine⟨_,rfl,?_⟩
 cases h3:marks.contains c with
 | true =>
  have e1:eX l n c=(⟨3,[c],0,n⟩,0):=by rw[eX,if_neg (by rw[h1]; decide),if_neg (by rw[h2]; decide),if_pos h3]
  have e2:IntKind.i64.wrap ((n:Int)+1)=((n+1:Nat):Int):=by rw[aB ⟨by omega,by omega⟩]; omega
  have e3:(bs l).extract n (n+1)=bs [c]:=by
   rw[BX,Nat.add_sub_cancel_left]
   congr 1
   rw[List.take_one,List.head?_drop,hc]; rfl
  rw[e2,eH];simp only[Int.toNat_natCast];rw[e3];refine cT rfl ⟨by omega,by omega,by omega,by omega,?_⟩;exact(s18.quiet (ay.drew w18 [])).aK 0 rfl (j:=0) (show 0<4 by decide) rfl λ w8 s8=>s8.aK 0 rfl (j:=1) (show 1<4 by decide) rfl λ w9 s9=>⟨by rw[e1],by rw[e1]; exact s9⟩
 | false =>
  have e1:eX l n c=(ur,2):=by rw[eX,if_neg (by rw[h1]; decide),if_neg (by rw[h2]; decide),if_neg (by rw[h3]; decide)]
  exact cF rfl (s18.az 1 rfl ur.cells rfl (Tk.one _) λ w10 s10=>⟨0,bs [],0,0,s10.cellsIn 1 rfl,by rw[e1]; rfl,s10.au⟩)
theorem Ll{l:List UInt8}{n:Nat}{c:UInt8}(hc:l[n]?=some c)(h0:(eX l n c).2=0):1<=(eX l n c).1.t.length/\n+(eX l n c).1.t.length<=l.length:=by
 have hn:=(List.getElem?_eq_some_iff.1 hc).1;have hd:l.drop n=c :: l.drop (n+1):=by rw[List.drop_eq_getElem_cons hn]; congr 1; exact Option.some.inj ((gE hn).symm.trans hc)
 have tw:∀ {p:UInt8->Bool},p c=true->1<=((l.drop n).takeWhile p).length/\n+((l.drop n).takeWhile p).length<=l.length:=λ {p} hp=>by
  have h1:((l.drop n).takeWhile p).length<=(l.drop n).length:=(List.takeWhile_prefix _).length_le;rw[List.length_drop] at h1;refine⟨?_,by omega⟩;rw[hd,List.takeWhile_cons,if_pos hp]; simp
 unfold eX at h0 ⊢
 split
 ·rename_i h;rw[if_pos h] at h0
  split
  ·rename_i h2; rw[if_pos h2] at h0; cases h0
  ·exact tw (p:=λ c=>inr (un c)) (by simp[inr,h])
 ·rename_i h;rw[if_neg h] at h0
  split
  ·rename_i h2;rw[if_pos h2] at h0
   split
   ·rename_i h3; rw[if_pos h3] at h0; exact absurd h0 h3
   ·exact tw (p:=λ c=>vJ (un c)) h2
  ·rename_i h2;rw[if_neg h2] at h0
   split
   ·exact⟨Nat.le_refl _,by simp; omega⟩
   ·rename_i h3; rw[if_neg h3] at h0; cases h0
def AE(l:List UInt8):Nat->Nat->List Tk->List Tk×Int
 | 0,_,acc=>(acc,0)
 | f+1,n,acc=>match l[n]? with
  | none=>(acc,0)
  | some c=>if c=32 then AE l f (n+1) acc else if (eX l n c).2≠0 then ([],(eX l n c).2) else AE l f (n+(eX l n c).1.t.length) (acc++[(eX l n c).1])
def bF(l:List UInt8):List Tk×Int:=if 4000<l.length then ([],3) else AE l l.length 0 []
theorem ME{w:World}(l:List UInt8) :
  CP 183 #[sv l] w (λ r w'=>∃ a c,r=.tuple #[.slice a (bF l).1.length c,iv (bF l).2]/\St w w' (bR 280 4 Tk.cells a c (bF l).1)):=by
 refine wR ?_;unfold tr;rw[eH]
 by_cases hl:4000<l.length
 ·refine cT (dT (by omega)) ⟨none,0,?_⟩;rw[bF,if_pos hl];exact⟨rfl,(St.start w).dP.first⟩
 refine cF (dF (by omega)) ?_;have e0:bF l=AE l l.length 0 []:=by rw[bF,if_neg hl]
 refine⟨λ a l1 c n w1 m=>∃ (k:Nat) (acc:List Tk),n=k/\k<=l.length/\m=l.length-k/\l1=acc.length/\acc.length<=k/\(∃ f,l.length-k<=f/\AE l f k acc=bF l)/\St w w1 (star (bR 280 4 Tk.cells a c acc) emp),⟨l.length,0,[],rfl,by omega,by omega,rfl,by simp,⟨l.length,by omega,e0.symm⟩,(St.start w).dP⟩,?_⟩;rintro w1 m a l1 c n ⟨k,acc,rfl,hk,hm,rfl,hac,⟨f,hf,ht⟩,s1⟩ -
 by_cases hlt:k<l.length
 ·have hc:l[k]?=some (l[k]'hlt):=gE hlt;generalize l[k]'hlt=x at hc;obtain⟨f,rfl⟩:∃ g,f=g+1:=⟨f-1,by omega⟩;rw[AE,hc] at ht;simp only at ht;refine cT (dT (by omega)) ⟨by omega,?_⟩;rw[Int.toNat_natCast,lZ,hc];show cond ((x.toNat:Int)==32) _ _
  by_cases h32:x=32
  ·rw[if_pos h32] at ht;exact cT (by rw[h32]; rfl) ⟨l.length-(k+1),by omega,k+1,acc,aB ⟨by omega,by omega⟩,by omega,rfl,rfl,by omega,⟨f,by omega,ht⟩,s1⟩
  rw[if_neg h32] at ht;have hne:(x.toNat:Int)≠32:=λ h=>h32 (UInt8.toNat_inj.1 (by have:(32:UInt8).toNat=32:=rfl; omega));refine cF (by simpa using hne) (ak (Rh w1 (by omega) hc) ?_);rintro v w2 ⟨rfl,c2⟩;have s2:St w w2 (Sep [_]):=s1.quiet c2;refine⟨_,_,_,_,_,rfl,s2.ax ur.cells.toArray λ r1 w3 s3=>s3.az 0 rfl (eX l k x).1.cells rfl (Tk.one _) λ w4 s4=>?_⟩
  by_cases he:(eX l k x).2=0
  ·rw[if_neg (by simpa using he)] at ht;have hol:=Ll hc he;refine cF (by rw[he]; rfl) ⟨_,_,_,_,s4.cellsIn 0 rfl,ob TB Tk.len (x:=(eX l k x).1) (Tk.one _) (s4.out 1 rfl) (by omega) (by omega) (λ a' c' w5 s5=>?_) rfl⟩;have s6:St w w5 (Sep [_,_]):=s5;refine⟨_,s6.ag 1 rfl 1,l.length-(k+(eX l k x).1.t.length),by omega,k+(eX l k x).1.t.length,acc++[(eX l k x).1],?_,hol.2,rfl,rfl,?_,⟨f,by omega,ht⟩,s6.av [0]⟩
   ·rw[eH,aB ⟨by omega,by omega⟩]; omega
   ·rw[List.length_append,List.length_singleton]; omega
  ·rw[if_pos he] at ht;refine cT (by simpa using he) ⟨none,0,?_⟩;rw[<- ht];exact⟨rfl,(St.start' s4.au).dP.first⟩
 ·have hc:l[k]?=none:=List.getElem?_eq_none (by omega);have e:AE l f k acc=(acc,0):=by
   cases f with
   | zero=>rfl
   | succ f=>rw[AE,hc]
  rw[e] at ht;refine cF (dF (by omega)) ⟨a,c,?_⟩;rw[<- ht];exact⟨rfl,s1.first⟩
def T5(b:Nat)(a:OA)(c:Nat)(l:List Tk)(e:Int):List aC:=[ai b #[.slice a l.length c,iv e] 284,held λ w=>cG 4 Tk.cells w a l]
def kf(w0 w:World)(b:Nat)(l:List Tk)(e:Int)(B:aC):Prop:=∃ a c,l.length<=c/\l.length<=4000/\St w0 w (Sep (T5 b a c l e++[B]))
abbrev pt (b:Nat):Value:=.pointer (some ⟨b,0,none⟩)
section
variable {w0 w:World} {b:Nat} {l:List Tk} {e:Int} {B:aC}
theorem kf.quiet{w' : World}(h:kf w0 w b l e B)(hc:ay w w' []):kf w0 w' b l e B:=let ⟨a,c,h1,h2,s⟩:=h; ⟨a,c,h1,h2,s.quiet hc⟩
theorem kf.au(h:kf w0 w b l e B):ay w0 w []:=let ⟨_,_,_,_,s⟩:=h; s.au
theorem kf.add(h:kf w0 w b l e B){w' : World}{A:aC}(k:St w w' A):kf w0 w' b l e (star A B):=by
 obtain⟨a,c,h1,h2,s⟩:=h;have s1:St w0 w' (Sep [A,_,_,B]):=s.and k;exact⟨a,c,h1,h2,(s1.av [1,2,0,3]).eqv (bf.right (bf.right bf.assoc'))⟩
theorem kf.drop{A:aC}(h:kf w0 w b l e (star A B)):kf w0 w b l e B:=by
 obtain⟨a,c,h1,h2,s⟩:=h;exact⟨a,c,h1,h2,s.weak (bC.right (bC.right (bC.left ((bC.left (bC.none A)).trans (bf.swap.trans (bf.unit' B)).weak))))⟩
theorem kf.out{m:List aC}(h:kf w0 w b l e (star (Sep m) B)):∃ B',St w0 w (Sep (m++[B']))/\∀ {w' : World} {m' : List aC},St w0 w' (Sep (m'++[B']))->kf w0 w' b l e (star (Sep m') B):=by
 obtain⟨a,c,h1,h2,s⟩:=h;refine⟨star (Sep (T5 b a c l e)) B,St.open (((s.split (T5 b a c l e)).eqv (bf.right (bf.unit' _))).Jv),λ k=>⟨a,c,h1,h2,?_⟩⟩;exact St.cat ((k.shut.Jv).eqv (bf.right (bf.unit _)))
theorem kf.frame(h:kf w0 w b l e B):St w0 w B:=by
 obtain⟨a,c,h1,h2,s⟩:=h;exact(s.split [_,_]).second.single
def aN(l:List Tk)(e:Int):Tk:=if e=0 then l.headD ur else ur
def fC(l:List Tk)(e:Int):List Tk:=if e=0 then l.tail else l
def ng(e k:Int):Int:=if e=0 then k else e
def sg(l:List Tk)(e:Int):Int:=ng e (if l.length=0 then 1 else 2)
def nE(m:List UInt8)(l:List Tk)(e:Int):Bool:=decide ((aN l e).k=3)&&(aN l e).t==m
def sw(m:List UInt8)(l:List Tk)(e:Int):List Tk:=if nE m l e then fC l e else l
theorem Px{w:World}{a:OA}{c:Nat}{l:List Tk}(h:cG 4 Tk.cells w a l)(hc:l.length<=c):cG 4 Tk.cells w (if c=1 then a else Option.map (λ x=>Addr.add x (1*4)) a) l.tail:=λ i x hx=>by
 rw[List.getElem?_tail] at hx;have hi:=(List.getElem?_eq_some_iff.1 hx).1;obtain⟨q,hq,hcl⟩:=h.at hx;refine⟨q.add (1*4),_,by rw[if_neg (by omega),hq]; rfl,?_,rfl,rfl⟩;rw[Addr.add_add,<- Nat.add_mul,Nat.add_comm 1 i]; exact hcl
def KI(m:List UInt8)(l:List Tk)(e:Int):Int:=if nE m l e then e else sg l e
theorem qf(h:kf w0 w b l e B):CP 204 #[pt b] w (λ r w'=>r=(aN l e).val/\ay w w' []):=by
 obtain⟨a,c,h1,h2,s⟩:=h;refine nP ?_;unfold iZ;have rd:cG 4 Tk.cells w a l:=s.cv 1 rfl;have g0:=s.ag 0 rfl 0; have g1:=s.ag 0 rfl 1;refine(St.start w).one.ax ur.cells.toArray λ r1 w1 s1=>?_;have k0:=bO g0 s1.au; have k1:=bO g1 s1.au;refine⟨λ x w2=>x = !(decide (e=0)&&decide (l.length≠0))/\w2=w1,?_,_,k1,?_⟩
 ·rintro w2 x ⟨rfl,rfl⟩ -
  by_cases he:e=0
  ·cases l with
   | nil=>exact cT (by simp) (s1.az 0 rfl ur.cells rfl (Tk.one _) λ w3 s3=>⟨_,_,_,_,s3.cellsIn 0 rfl,by rw[aN,if_pos he]; rfl,s3.au⟩)
   | cons x l =>
    obtain⟨q,hq,hcl⟩:=(rd.au s1.au).at (i:=0) (x:=x) rfl;refine cF (by simp[he]) ⟨_,_,_,k0,aj hq ⟨by omega,by simp,_,_,_,_,hcl,s1.az 0 rfl x.cells rfl (Tk.one _) λ w3 s3=>⟨_,_,_,_,s3.cellsIn 0 rfl,by rw[aN,if_pos he]; rfl,s3.au⟩⟩⟩
  ·exact cT (by simp[he]) (s1.az 0 rfl ur.cells rfl (Tk.one _) λ w3 s3=>⟨_,_,_,_,s3.cellsIn 0 rfl,by rw[aN,if_neg he]; rfl,s3.au⟩)
 ·by_cases he:e=0
  ·refine cF (by simp[he]) ⟨_,_,_,k0,?_,rfl⟩;rw[dT he]
   cases l with
   | nil=>rfl
   | cons x l=>simp; omega
  ·exact cT (by simpa using he) ⟨by simp[he],rfl⟩
theorem iA(h:kf w0 w b l e B)(k:Int):CP 206 #[pt b,iv k] w (λ r w'=>r=.tuple #[]/\kf w0 w' b l (ng e k) B):=by
 obtain⟨a,c,h1,h2,s⟩:=h;refine nM ?_;unfold iW;refine⟨λ x w1=>x=(e==0)/\w1=w,?_,_,s.ag 0 rfl 1,rfl,rfl⟩;rintro w1 x ⟨rfl,rfl⟩ -
 by_cases he:e=0
 ·exact cT (by simpa using he) (s.aK 0 rfl (j:=1) (show 1<2 by decide) rfl λ w2 s2=>⟨rfl,a,c,h1,h2,by rw[ng,if_pos he]; exact s2⟩)
 ·exact cF (by simpa using he) ⟨rfl,a,c,h1,h2,by rw[ng,if_neg he]; exact s⟩
theorem zP(h:kf w0 w b l e B):CP 235 #[pt b] w (λ r w'=>r=.tuple #[]/\kf w0 w' b l (sg l e) B):=by
 refine mD ?_;unfold gZ;refine⟨λ w1=>kf w0 w1 b l (if l.length=0 then ng e 1 else e) B,?_,?_⟩
 ·rintro w1 h1 -;refine ak (iA h1 2) ?_;rintro v w2 ⟨rfl,h2⟩;refine⟨rfl,rfl,?_⟩;have:sg l e=ng (if l.length=0 then ng e 1 else e) 2:=by
   unfold sg ng
   split<;>split<;>simp_all
  rw[this]; exact h2
 ·have h':=h;obtain⟨a,c,h1,h2,s⟩:=h';refine⟨_,_,_,s.ag 0 rfl 0,?_⟩
  by_cases hl:l.length=0
  ·refine cT (by simpa using hl) (ak (iA h 1) ?_);rintro v w3 ⟨rfl,h3⟩;exact⟨rfl,by rw[if_pos hl]; exact h3⟩
  ·exact cF (by simpa using hl) (by rw[if_neg hl]; exact h)
theorem xP(h:kf w0 w b l e B):CP 208 #[pt b] w (λ r w'=>r=(aN l e).val/\kf w0 w' b (fC l e) e B):=by
 have h':=h;obtain⟨a,c,h1,h2,s⟩:=h';refine nO ?_;unfold iY;refine s.ax ur.cells.toArray λ r1 w1 s1=>?_;refine ak (qf (⟨a,c,h1,h2,s1.av [1,2,3]⟩:kf w0 w1 b l e B)) ?_;rintro v w2 ⟨rfl,c2⟩;refine⟨_,_,_,_,rfl,(s1.quiet c2).ax ur.cells.toArray λ r2 w3 s3=>s3.az 0 rfl (aN l e).cells rfl (Tk.one _) λ w4 s4=>?_⟩;refine⟨λ w5=>∃ a' c',(fC l e).length<=c'/\St w0 w5 (Sep (ai r2 (aN l e).cells.toArray 280 :: ai r1 ur.cells.toArray 280 :: (T5 b a' c' (fC l e) e++[B]))),?_,?_⟩
 ·rintro w5 ⟨a',c',hc',s5⟩ -;have hle:(fC l e).length<=4000:=by
   unfold fC; split
   ·rw[List.length_tail]; omega
   ·exact h2
  exact⟨_,_,_,_,s5.cellsIn 0 rfl,s5.az 1 rfl (aN l e).cells rfl (Tk.one _) λ w6 s6=>⟨_,_,_,_,s6.cellsIn 1 rfl,rfl,a',c',hc',hle,s6.av [2,3,4]⟩⟩
 refine⟨λ x w7=>x=(decide (e=0)&&decide (l.length≠0))/\w7=w4,?_,_,s4.ag 2 rfl 1,?_⟩
 ·rintro w7 x ⟨rfl,rfl⟩ -
  by_cases g:e=0/\l.length≠0
  ·have en:fC l e=l.tail:=by rw[fC,if_pos g.1]
   refine cT (by simp[g.1]; intro h; exact g.2 (by rw[h]; rfl)) ⟨_,_,_,s4.ag 2 rfl 0,by omega,by omega,?_⟩;refine s4.aK 2 rfl (j:=0) (show 0<2 by decide) rfl λ w8 s8=>⟨if c=1 then a else Option.map (λ x=>Addr.add x (1*4)) a,c-1,by rw[en,List.length_tail]; omega,?_⟩;have s9:=(s8.av [3,0,1,2,4]).D0 ((aZ _).mono λ w hr=>Px hr h1);rw[en];have el:l.tail.length=l.length-1:=List.length_tail;show St w0 w8 (Sep [_,_,ai b #[.slice (if c=1 then a else Option.map (λ x=>Addr.add x (1*4)) a) l.tail.length (c-1),iv e] _,_,_]);rw[el];exact s9.av [1,2,3,0,4]
  ·have en:fC l e=l:=by
    unfold fC
    split
    ·rename_i he
     cases l with
     | nil=>rfl
     | cons x l=>exact absurd ⟨he,by simp⟩ g
    ·rfl
   refine cF (by simp only[Bool.and_eq_false_iff,decide_eq_false_iff_not]; by_cases he:e=0; exact .inr λ h=>g ⟨he,h⟩; exact .inl he) ⟨a,c,by rw[en]; exact h1,by rw[en]; exact s4⟩
 ·by_cases he:e=0
  ·refine cT (by simpa using he) ⟨_,_,_,s4.ag 2 rfl 0,?_,rfl⟩;rw[dT he,Bool.true_and]
   by_cases hl:l.length=0
   ·rw[dF (by omega),dF (by omega)]
   ·rw[dT (by omega),dT hl]
  ·exact cF (by simpa using he) ⟨by rw[dF he]; rfl,rfl⟩
theorem qe(h:kf w0 w b l e B)(m:List UInt8):CP 211 #[pt b,sv m] w (λ r w'=>r=.bool (nE m l e)/\kf w0 w' b (sw m l e) e B):=by
 refine kV ?_;unfold gA;refine ak (qf h) ?_;rintro v w1 ⟨rfl,c1⟩;refine⟨_,_,_,_,rfl,(St.start w1).one.ax ur.cells.toArray λ r1 w2 s2=>s2.az 0 rfl (aN l e).cells rfl (Tk.one _) λ w3 s3=>?_⟩;have h3:=(h.quiet c1).quiet s3.au;refine⟨λ x w4=>x=(!nE m l e)/\w4=w3,?_,_,s3.ag 0 rfl 0,?_⟩
 ·rintro w4 x ⟨rfl,rfl⟩ -
  cases ha:nE m l e with
  | false=>exact cT rfl ⟨rfl,by rw[sw,ha]; exact h3⟩
  | true =>
   refine cF rfl (ak (xP h3) ?_);rintro v w5 ⟨rfl,h5⟩;exact⟨_,_,_,_,rfl,rfl,by rw[sw,ha]; exact h5⟩
 ·by_cases hk:(aN l e).k=3
  ·refine cF (by simpa using hk) ⟨_,s3.ag 0 rfl 1,?_,rfl⟩;rw[nE,dT hk,Bool.true_and,iI,iI]
  ·exact cT (by simpa using hk) ⟨by rw[nE,dF hk]; rfl,rfl⟩
theorem eG(h:kf w0 w b l e B)(m:List UInt8):CP 209 #[pt b,sv m] w (λ r w'=>r=.tuple #[]/\kf w0 w' b (sw m l e) (KI m l e) B):=by
 refine kX ?_;unfold gC;refine ak (qe h m) ?_;rintro v w1 ⟨rfl,h1⟩;refine⟨_,rfl,?_⟩
 cases ha:nE m l e with
 | true=>exact cF rfl ⟨rfl,by rw[KI,ha]; exact h1⟩
 | false =>
  have el:sw m l e=l:=by rw[sw,ha]; rfl
  rw[el] at h1;refine cT rfl (ak (zP h1) ?_);rintro v w2 ⟨rfl,h2⟩;exact⟨rfl,rfl,by rw[el,KI,ha]; exact h2⟩
def tV(l:List Tk)(e:Int):List UInt8:=if (aN l e).k=1 then (aN l e).t else []
def Bw(l:List Tk)(e:Int):List Tk:=if (aN l e).k=1 then fC l e else l
def HX(l:List Tk)(e:Int):Int:=if (aN l e).k=1 then e else sg l e
theorem Pj(h:kf w0 w b l e B):CP 263 #[pt b] w (λ r w'=>r=sv (tV l e)/\kf w0 w' b (Bw l e) (HX l e) B):=by
 refine nN ?_;unfold iX;refine ak (qf h) ?_;rintro v w1 ⟨rfl,c1⟩;refine⟨_,_,_,_,rfl,(St.start w1).one.ax ur.cells.toArray λ r1 w2 s2=>s2.az 0 rfl (aN l e).cells rfl (Tk.one _) λ w3 s3=>⟨_,s3.ag 0 rfl 0,?_⟩⟩;have h3:=(h.quiet c1).quiet s3.au
 by_cases hk:(aN l e).k=1
 ·have g1:=s3.ag 0 rfl 1;refine cF (by simpa using hk) (ak (xP ((h.quiet c1).add s3)) ?_);rintro v w5 ⟨rfl,h5⟩;have s5:St w0 w5 (Sep [ai r1 (aN l e).cells.toArray 280,emp]):=h5.frame.first;exact⟨_,_,_,_,rfl,_,s5.ag 0 rfl 1,by rw[tV,if_pos hk],by rw[Bw,if_pos hk,HX,if_pos hk]; exact h5.drop⟩
 ·refine cT (by simpa using hk) (ak (zP h3) ?_);rintro v w2 ⟨rfl,h2⟩;exact⟨rfl,by rw[tV,if_neg hk],by rw[Bw,if_neg hk,HX,if_neg hk]; exact h2⟩
def Fi(m:Int)(t:Tk):Bool:=decide (t.v<0)||decide (t.v>m)
def uw(m:Int)(l:List Tk)(e:Int):Int:=if (aN l e).k=2/\Fi m (aN l e)=false then (aN l e).v else 0
def Fj(m:Int)(l:List Tk)(e:Int):List Tk:=if (aN l e).k=2/\Fi m (aN l e)=false then fC l e else l
def J5(m:Int)(l:List Tk)(e:Int):Int:=if (aN l e).k=2 then (if Fi m (aN l e) then ng e 4 else e) else sg l e
theorem vn(h:kf w0 w b l e B)(m:Int):CP 212 #[pt b,iv m] w (λ r w'=>r=iv (uw m l e)/\kf w0 w' b (Fj m l e) (J5 m l e) B):=by
 refine kW ?_;unfold gB;refine ak (qf h) ?_;rintro v w1 ⟨rfl,c1⟩;refine⟨_,_,_,_,rfl,(St.start w1).one.ax ur.cells.toArray λ r1 w2 s2=>s2.az 0 rfl (aN l e).cells rfl (Tk.one _) λ w3 s3=>⟨_,s3.ag 0 rfl 0,?_⟩⟩;have h3:=(h.quiet c1).add s3
 by_cases hk:(aN l e).k=2
 ·refine cF (by simpa using hk) ⟨λ x w5=>x=Fi m (aN l e)/\w5=w3,?_,_,s3.ag 0 rfl 2,?_⟩
  ·rintro w5 x ⟨rfl,rfl⟩ -
   cases ha:Fi m (aN l e) with
   | true =>
    refine cT rfl (ak (iA h3 4) ?_);rintro v w6 ⟨rfl,h6⟩;exact⟨rfl,by rw[uw,if_neg (by rw[ha]; simp)],by rw[Fj,if_neg (by rw[ha]; simp),J5,if_pos hk,if_pos ha]; exact h6.drop⟩
   | false =>
    refine cF rfl (ak (xP h3) ?_);rintro v w7 ⟨rfl,h7⟩;have s7:St w0 w7 (Sep [ai r1 (aN l e).cells.toArray 280,emp]):=h7.frame.first;exact⟨_,_,_,_,rfl,_,s7.ag 0 rfl 2,by rw[uw,if_pos ⟨hk,ha⟩],by rw[Fj,if_pos ⟨hk,ha⟩,J5,if_pos hk,if_neg (by rw[ha]; decide)]; exact h7.drop⟩
  ·by_cases h0:(aN l e).v<0
   ·exact cT (dT h0) ⟨by rw[Fi,dT h0]; rfl,rfl⟩
   ·exact cF (dF h0) ⟨_,s3.ag 0 rfl 2,by rw[Fi,dF h0]; rfl,rfl⟩
 ·refine cT (by simpa using hk) (ak (zP h3) ?_);rintro v w4 ⟨rfl,h4⟩;exact⟨rfl,by rw[uw,if_neg (λ h=>hk h.1)],by rw[Fj,if_neg (λ h=>hk h.1),J5,if_neg hk]; exact h4.drop⟩
theorem zD(h:kf w0 w b l e B):CP 213 #[pt b] w (λ r w'=>r=iv e/\w' = w):=by
 obtain⟨a,c,h1,h2,s⟩:=h;refine oO ?_;unfold jN;exact⟨_,s.ag 0 rfl 1,rfl,rfl⟩
def DP(l:List Tk)(e:Int):Int:=if e=0/\0<l.length then 3 else e
theorem RT(h:kf w0 w b l e B):CP 186 #[pt b] w (λ r w'=>r=iv (DP l e)/\w' = w):=by
 have h':=h;obtain⟨a,c,h1,h2,s⟩:=h;refine oN ?_;unfold jM;refine⟨λ x w1=>x=decide (e=0/\0<l.length)/\w1=w,?_,_,s.ag 0 rfl 1,?_⟩
 ·rintro w1 x ⟨rfl,rfl⟩ -
  by_cases g:e=0/\0<l.length
  ·exact cT (dT g) ⟨by rw[DP,if_pos g],rfl⟩
  ·refine cF (dF g) (ak (zD h') ?_);rintro v w2 ⟨rfl,rfl⟩;exact⟨_,rfl,by rw[DP,if_neg g],rfl⟩
 ·by_cases he:e=0
  ·refine cT (by simpa using he) ⟨_,_,_,s.ag 0 rfl 0,?_,rfl⟩
   by_cases hl:0<l.length
   ·rw[dT (p:=e=0/\0<l.length) ⟨he,hl⟩]; exact dT (by omega)
   ·rw[dF (p:=e=0/\0<l.length) (λ h=>hl h.2)]; exact dF (by omega)
  ·exact cF (by simpa using he) ⟨by rw[dF (p:=e=0/\0<l.length) (λ h=>he h.1)],rfl⟩
theorem Jd(s:St w0 w B){a:OA}{c:Nat}(hr:cG 4 Tk.cells w a l)(hl:l.length<=4000):CP 184 #[.slice a l.length c] w (λ r w'=>∃ b,r=pt b/\kf w0 w' b l 0 B):=by
 refine qB ?_;unfold kU;refine cS (c2:=c) TB Tk.len Tk.one (l:=[]) s.dP hr (by simp; omega) (by simp; omega) λ a' c' w1 s1=>?_;have s2:St w0 w1 (star (bR 280 4 Tk.cells a' c' l) B):=s1;have hcap:=s2.pz.1;exact(s2.vW).ax _ λ r1 w2 s3=>⟨r1,rfl,a',c',hcap,hl,(((s3.av [1,0,2]).D0 (bB Tk.len)).av [1,0,2])⟩
end
def eY(n:Int):Bool:=decide (0<=n)&&decide (n<=4)
def pr(l:List Int):Int:=l.foldl (λ n s=>n*(s+1)) 1
theorem CG(l:List Int)(s:Int):pr (l++[s])=pr l*(s+1):=by simp[pr]
theorem iB{l:List Int}{p:Int->Bool}{k:Nat}{c:Int}(h:(l.take k).all p=true)(hc:l[k]?=some c)(hp:p c=true):(l.take (k+1)).all p=true:=by
 rw[aG hc,List.all_append,h]; simp[hp]
theorem kA{l:List Int}{p:Int->Bool}{k:Nat}{c:Int}(hc:l[k]?=some c)(hp:p c=false):l.all p=false:=by
 rw[List.all_eq_false]; exact⟨c,List.mem_of_getElem? hc,by simp[hp]⟩
theorem bN(w:World)(u:I6):CP 65 #[.agg u.vs.toArray] w (λ r w'=>r=iv (if u.l.all eY then 0 else 4)/\ay w w' []):=by
 refine FV ?_;unfold HH;refine aJ ?_;have s1:=(St.start w).one.bW u.vs.toArray 44;generalize hw1:w.alloc _=w1 at s1 ⊢;generalize hr1:w.heap.size=r1 at s1 ⊢;refine⟨_,s1.cellsIn 0 rfl,λ n w2 m=>∃ k:Nat,n=k/\k<=6/\m=6-k/\(u.l.take k).all eY=true/\w2=w1,⟨6,0,rfl,by omega,by omega,rfl,rfl⟩,?_⟩;rintro w2 m n ⟨k,rfl,hk,hm,ha,rfl⟩ -
 by_cases hlt:(k:Int)<6
 ·have hk' : k<6:=by omega
  have g1:=u.get k hk';have g2:=u.oP k hk';generalize u.at' k=x at g1 g2;refine cT (by simpa using hlt) ⟨by omega,by omega,x,g1,λ b w3=>w3=w2/\b = !eY x,?_,?_⟩
  ·rintro w3 b ⟨rfl,rfl⟩ -
   cases hx:eY x with
   | true=>exact cF rfl ⟨6-(k+1),by omega,k+1,inc (by decide) hk',by omega,rfl,iB ha g2 hx,rfl⟩
   | false=>exact cT rfl ⟨by rw[kA g2 hx]; rfl,s1.au⟩
  ·by_cases h0:x<0
   ·exact cT (by simpa using h0) ⟨rfl,by simp[eY]; omega⟩
   ·refine cF (by simpa using h0) ⟨rfl,?_⟩;have:decide (0<=x)=true:=dT (by omega);unfold eY;rw[this,Bool.true_and]
    by_cases h4:x<=4
    ·rw[dT h4,dF (by omega)]; rfl
    ·rw[dF h4,dT (by omega)]; rfl
 ·obtain rfl:k=6:=by omega
  refine cF (by simp) ⟨?_,s1.au⟩;rw[show u.l.all eY=true from ha]; rfl
theorem oV{l:List Int}(h:l.all eY=true):1<=pr l/\pr l<=5 ^ l.length:=by
 suffices H:∀ (l:List Int) (a:Int),l.all eY=true->1<=a->1<=l.foldl (λ n s=>n*(s+1)) a/\l.foldl (λ n s=>n*(s+1)) a<=a*5 ^ l.length by
  have:=H l 1 h (by omega);unfold pr; omega
 intro l
 induction l with
 | nil=>intro a _ h1; simp; exact h1
 | cons x l ih =>
  intro a ha h1;simp only[List.all_cons,Bool.and_eq_true] at ha;have hx:=ha.1;simp only[eY,Bool.and_eq_true,decide_eq_true_eq] at hx;have h2:1<=a*(x+1):=by
   have:a*1<=a*(x+1):=Int.mul_le_mul_of_nonneg_left (by omega) (by omega);omega
  obtain⟨h3,h4⟩:=ih (a*(x+1)) ha.2 h2;refine⟨h3,?_⟩;simp only[List.foldl_cons,List.length_cons,Int.pow_succ];have h5:a*(x+1)<=a*5:=Int.mul_le_mul_of_nonneg_left (by omega) (by omega);have h6:(a*(x+1))*5 ^ l.length<=(a*5)*5 ^ l.length:=Int.mul_le_mul_of_nonneg_right h5 (Int.pow_nonneg (by omega));have h7:a*5*5 ^ l.length=a*(5 ^ l.length*5):=by rw[Int.mul_assoc,Int.mul_comm 5 (5 ^ l.length)]
  rw[<- h7];omega
theorem xC(w:World)(u:I6):CP 90 #[.agg u.vs.toArray] w (λ r w'=>r=iv (if u.l.all eY=true/\pr u.l<=1024 then pr u.l else 0)/\ay w w' []):=by
 refine F0 ?_;unfold HL;refine aJ ?_;have s1:=(St.start w).one.bW u.vs.toArray 44;generalize hw1:w.alloc _=w1 at s1 ⊢;generalize hr1:w.heap.size=r1 at s1 ⊢;refine⟨_,s1.cellsIn 0 rfl,ak (bN w1 u) ?_⟩;rintro v w2 ⟨rfl,c2⟩;refine⟨_,rfl,?_⟩;have s2:=s1.quiet c2
 by_cases hall:u.l.all eY=true
 ·rw[if_pos hall];refine cF rfl ⟨_,s2.cellsIn 0 rfl,λ p n w3 m=>∃ k:Nat,n=k/\k<=6/\m=6-k/\p=pr (u.l.take k)/\w3=w2,⟨6,0,rfl,by omega,by omega,rfl,rfl⟩,?_⟩;rintro w3 m p n ⟨k,rfl,hk,hm,rfl,rfl⟩ -;have hb:1<=pr (u.l.take k)/\pr (u.l.take k)<=15625:=by
   have h1:(u.l.take k).all eY=true:=by
    rw[List.all_eq_true] at hall ⊢;exact λ x hx=>hall x (List.mem_of_mem_take hx)
   obtain⟨h2,h3⟩:=oV h1;refine⟨h2,Int.le_trans h3 ?_⟩;have h4:(u.l.take k).length=k:=by simp[I6.len]; omega
   rw[h4]
   match k,hk with
   | 0,_|1,_|2,_|3,_|4,_|5,_|6,_=>decide
  by_cases hlt:(k:Int)<6
  ·have hk' : k<6:=by omega
   have g1:=u.get k hk';have g2:=u.oP k hk';generalize u.at' k=x at g1 g2;have hx:0<=x/\x<=4:=by
    have:=List.all_eq_true.1 hall x (List.mem_of_getElem? g2);simpa[eY] using this
   have hm1:pr (u.l.take k)*(x+1)<=15625*5:=Int.le_trans (Int.mul_le_mul_of_nonneg_left (show x+1<=5 by omega) (by omega)) (Int.mul_le_mul_of_nonneg_right hb.2 (by omega));have hm0:0<=pr (u.l.take k)*(x+1):=Int.mul_nonneg (by omega) (by omega);refine cT (by simpa using hlt) ⟨by omega,by omega,x,g1,6-(k+1),by omega,k+1,inc (by decide) hk',by omega,rfl,?_,rfl⟩;rw[aB (n:=x+1) ⟨by omega,by omega⟩,aB ⟨by omega,by omega⟩,aG g2,CG]
  ·obtain rfl:k=6:=by omega
   refine cF (by simp) ?_;have e:u.l.take 6=u.l:=rfl;rw[e] at hb ⊢
   by_cases hp:pr u.l<=1024
   ·refine cF (dF (by omega)) ⟨?_,s2.au⟩;rw[if_pos ⟨hall,hp⟩]
   ·refine cT (dT (by omega)) ⟨?_,s2.au⟩;rw[if_neg λ h=>hp h.2]
 ·rw[if_neg hall];refine cT rfl ⟨?_,s2.au⟩;rw[if_neg λ h=>hall h.1]
structure Pr where
 nm:List UInt8
 sup:Int
 res:Int
 pts:Int
 grp:Int
def Pr.cells(p:Pr):List Value:=[sv p.nm,iv p.sup,iv p.res,iv p.pts,iv p.grp]
def Pr.In(p:Pr):Prop:=Go.Vc.In p.sup/\Go.Vc.In p.res/\Go.Vc.In p.pts/\Go.Vc.In p.grp
def dH(w:World)(a:OA)(l:List Pr):Prop:=∀ (i:Nat) (p:Pr),l[i]?=some p->p.In/\∃ q,a=some q/\af w (q.add (i*5)) 0 p.cells
theorem dH.au{w w' : World}{a:OA}{l:List Pr}(h:dH w a l)(hc:ay w w' []):dH w' a l:=λ i p hp =>
 let ⟨h1,q,hq,h2⟩:=h i p hp
 ⟨h1,q,hq,bu hc h2⟩
theorem dH.take{w:World}{a:OA}{l:List Pr}(h:dH w a l)(n:Nat):dH w a (l.take n):=λ i p hp=>by
 rw[List.getElem?_take] at hp
 split at hp
 ·exact h i p hp
 ·cases hp
theorem Pr.one(p:Pr):∀ v∈p.cells,v.oneCell' = true:=by
 intro v hv; simp[Pr.cells] at hv; rcases hv with rfl|rfl|rfl|rfl|rfl<;>rfl
theorem Mj{a:OA}{c:Nat}:(if c=0 then a else Option.map (λ x=>Addr.add x (0*5)) a)=a:=by
 split
 ·rfl
 ·cases a<;>simp[Addr.add]
theorem fS{α:Type}{l:List α}{p:α->Bool}{k:Nat}{x:α}(h:(l.take k).any p=false)(hx:l[k]?=some x)(hp:p x=false):(l.take (k+1)).any p=false:=by
 rw[aG hx,List.any_append,h]; simp[hp]
theorem iq{α:Type}{l:List α}{p:α->Bool}{k:Nat}{x:α}(hx:l[k]?=some x)(hp:p x=true):l.any p=true:=List.any_eq_true.2 ⟨x,List.mem_of_getElem? hx,hp⟩
theorem Q7{w:World}{a:OA}{c:Nat}{l:List Pr}(h:dH w a l)(hl:l.length<=1000)(nm:List UInt8) :
  CP 116 #[.slice a l.length c,sv nm] w (λ r w'=>(∃ k:Int,r=.tuple #[iv k,.bool (l.any λ p=>p.nm==nm)])/\ay w w' []):=by
 refine Bl ?_;unfold F5;refine⟨λ n w1 m=>∃ k:Nat,n=k/\k<=l.length/\m=l.length-k/\(l.take k).any (λ p=>p.nm==nm)=false/\ay w w1 [],⟨l.length,0,rfl,by omega,by omega,rfl,ay.refl _ _⟩,?_⟩;rintro w1 m n ⟨k,rfl,hk,hm,ha,hc⟩ -
 by_cases hlt:(k:Int)<(l.length:Int)
 ·have hx:l[k]?=some (l[k]'(by omega)):=gE (by omega);generalize l[k]'(by omega)=x at hx;obtain⟨_,q,rfl,hcl⟩:=(h.au hc) k x hx;refine cT (by simpa using hlt) ⟨by omega,by omega,_,_,_,_,_,hcl,aJ ?_⟩;refine((St.start' hc).one.bW _ 94).az 0 rfl x.cells rfl x.one λ w3 s3=>?_;refine⟨_,by rw[s3.ag 0 rfl]; rfl,?_⟩
  by_cases hn:x.nm=nm
  ·exact cT (by rw[hn]; simp) ⟨⟨k,by rw[iq hx (by simpa using hn)]⟩,s3.au⟩
  ·exact cF (by rw[iI,iI]; simpa using hn) ⟨l.length-(k+1),by omega,k+1,by rw[aB ⟨by omega,by omega⟩]; rfl,by omega,rfl,fS ha hx (by simpa using hn),s3.au⟩
 ·refine cF (by simpa using hlt) ⟨⟨0,?_⟩,hc⟩;rw[List.take_of_length_le (by omega)] at ha;rw[ha]
theorem pU(w:World)(n x y:Int):CP 117 #[iv n,iv x,iv y] w (λ r w'=>r=.bool (decide (x<=n)&&decide (n<=y))/\w' = w):=by
 refine CE ?_;unfold Bk
 by_cases h:n>=x
 ·exact cT (dT h) ⟨by rw[dT (show x<=n from h)]; rfl,rfl⟩
 ·exact cF (dF h) ⟨by rw[dF (show ¬ x<=n from h)]; rfl,rfl⟩
def C8(l:List Pr):List Int:=(l.map Pr.sup++List.replicate (6-l.length) 0).take 6
def aX(l:List Pr):I6:=I6.UG (l.map Pr.sup)
theorem qg(l:List Pr)(k:Nat)(hk:k<6):(aX l).at' k=(l.map Pr.sup).getD k 0:=by
 match k,hk with
 | 0,_|1,_|2,_|3,_|4,_|5,_=>rfl
theorem C7(l:List Pr):(aX l).l=C8 l:=by
 apply List.ext_getElem?;intro k;unfold C8
 by_cases hk:k<6
 ·rw[I6.oP _ k hk,qg l k hk,List.getElem?_take,if_pos hk]
  by_cases hl:k<l.length
  ·rw[List.getElem?_append_left (by simpa using hl)];simp[hl]
  ·rw[List.getElem?_append_right (by simp; omega),List.getElem?_replicate,if_pos (by simp; omega)];simp[hl]
 ·rw[List.getElem?_eq_none (by rw[I6.len]; omega),List.getElem?_take,if_neg hk]
theorem lN{w:World}{a:OA}{c:Nat}{l:List Pr}(h:dH w a l)(hl:l.length<=1000) :
  CP 49 #[.slice a l.length c] w (λ r w'=>r=.agg (aX l).vs.toArray/\ay w w' []):=by
 refine EA ?_;unfold Ez;refine aJ (aJ ?_);have s2:=((St.start w).one.bW z6.vs.toArray 44).bW z6.vs.toArray 44;generalize hw2:((w.alloc _).alloc _)=w2 at s2 ⊢;generalize hr1:w.heap.size=r1 at s2 ⊢;generalize hr2:(w.alloc _).heap.size=r2 at s2 ⊢;refine⟨λ n w3 m=>∃ k:Nat,n=k/\k<=l.length/\m=l.length-k/\St w w3 (Sep [ai r2 (I6.mix (min k 6) (aX l) z6).vs.toArray 44,ai r1 z6.vs.toArray 44,emp]),⟨l.length,0,rfl,by omega,by omega,s2⟩,?_⟩;rintro w3 m n ⟨k,rfl,hk,hm,s3⟩ -
 by_cases hlt:(k:Int)<(l.length:Int)
 ·have hx:l[k]?=some (l[k]'(by omega)):=gE (by omega);generalize l[k]'(by omega)=x at hx;obtain⟨_,q,hq,hcl⟩:=(h.au s3.au) k x hx;refine cT (by simpa using hlt) ⟨λ w4=>St w w4 (Sep [ai r2 (I6.mix (min (k+1) 6) (aX l) z6).vs.toArray 44,ai r1 z6.vs.toArray 44,emp]),?_,?_⟩
  ·rintro w4 s4 -;exact⟨l.length-(k+1),by omega,k+1,aB ⟨by omega,by omega⟩,by omega,rfl,s4⟩
  rw[hq];refine⟨by omega,by omega,_,_,_,_,_,hcl,aJ ?_⟩;refine(s3.bW _ 94).az 0 rfl x.cells rfl x.one λ w6 s6=>?_
  by_cases h6:k<6
  ·refine cT (dT (by omega)) ⟨_,by rw[s6.ag 0 rfl]; rfl,by omega,by omega,?_⟩;have ea:Addr.add ⟨r2,0,none⟩ (((k:Nat):Int).toNat*1)=⟨r2,k,none⟩:=by rw[bq]; simp
   rw[ea];refine s6.aK 1 rfl (by rw[I6.size]; exact h6) rfl λ w7 s7=>?_;have e1:x.sup=(aX l).at' k:=by rw[qg l k h6]; simp[List.getElem?_map,hx]
   rw[Nat.min_eq_left (by omega),e1,I6.eV _ _ _ h6] at s7;rw[Nat.min_eq_left (by omega)];exact s7.av [1,2,3]
  ·rw[Nat.min_eq_right (by omega)] at s6 ⊢;exact cF (dF (by omega)) (s6.av [1,2,3])
 ·obtain rfl:k=l.length:=by omega
  have hcn:I6.mix (min l.length 6) (aX l) z6=aX l:=by
   refine I6.ext' λ j hj=>?_;rw[I6.bT _ _ _ _ hj,qg l j hj]
   split
   ·rfl
   ·rw[List.getD_eq_getElem?_getD,List.getElem?_eq_none (by simp; omega)]
    match j,hj with
    | 0,_|1,_|2,_|3,_|4,_|5,_=>rfl
  rw[hcn] at s3;refine cF (by simp) ⟨_,s3.cellsIn 0 rfl,?_⟩;refine s3.az 1 rfl (aX l).vs rfl (I6.one _) λ w8 s8=>?_;exact⟨_,s8.cellsIn 1 rfl,rfl,s8.au⟩
def Gq(p:Pr):Bool:=(decide (1<=p.sup)&&decide (p.sup<=4))&&((decide (0<=p.res)&&decide (p.res<=1000000))&&((decide (0<=p.pts)&&decide (p.pts<=1000))&&(decide (0<=p.grp)&&decide (p.grp<=4))))
def tJ(p:Pr):Bool:=cw p.nm&&Gq p
def uv(l:List Pr)(i:Nat)(p:Pr):Prop:=tJ p=true/\((l.take i).any λ q=>q.nm==p.nm)=false
structure bZ (l:List Pr):Prop where
 l1:1<=l.length
 l2:l.length<=6
 good:∀ i p,l[i]?=some p->uv l i p
 lim:pr (l.map Pr.sup)<=1024
theorem EC(l:List Int):∀ n,pr (l++List.replicate n 0)=pr l
 | 0=>by simp
 | n+1=>by
  rw[List.replicate_succ',<- List.append_assoc,CG,EC l n];omega
theorem ue{l:List Pr}(h:l.length<=6):pr (C8 l)=pr (l.map Pr.sup):=by
 unfold C8;rw[List.take_of_length_le (by simp; omega),EC]
theorem H9{l:List Pr}(h:∀ i p,l[i]?=some p->uv l i p):(C8 l).all eY=true:=by
 rw[List.all_eq_true];intro x hx;have hx:=List.mem_of_mem_take hx;rcases List.mem_append.1 hx with hx|hx
 ·obtain⟨p,hp,rfl⟩:=List.mem_map.1 hx;obtain⟨i,hi,rfl⟩:=List.mem_iff_getElem.1 hp;have:=(h i _ (gE hi)).1;simp only[tJ,Gq,Bool.and_eq_true,decide_eq_true_eq] at this;simp only[eY,Bool.and_eq_true,decide_eq_true_eq];omega
 ·obtain⟨_,rfl⟩:=List.mem_replicate.1 hx
  decide
def Ql(Q:Prop)(w:World):KP:=λ r w'=>(∃ e:Int,r=iv e/\(e=0<->Q))/\ay w w' []
def BN(Q:Prop)(k:Int)(w:World):KP:=λ r w'=>(r=iv k/\(k=0<->Q))/\ay w w' []
theorem aW{Q:Prop}{w w' : World}{e k:Int}(he:e≠0)(h : ¬ Q)(hc:ay w w' [])(hk:k=e):BN Q k w (iv e) w':=by subst hk; exact⟨⟨rfl,λ h'=>absurd h' he,λ h'=>absurd h' h⟩,hc⟩
theorem pW{Q:Prop}{w w' : World}{k:Int}(h:Q)(hc:ay w w' [])(hk:k=0):BN Q k w (iv 0) w':=by subst hk; exact⟨⟨rfl,λ _=>h,λ _=>rfl⟩,hc⟩
theorem BN.old{Q:Prop}{w w' : World}{k:Int}{r:Value}(h:BN Q k w r w'):Ql Q w r w':=⟨⟨k,h.1⟩,h.2⟩
def eU{α:Type}(f:Nat->α->Int):Nat->List α->Int
 | _,[]=>0
 | i,x :: l=>if f i x≠0 then f i x else eU f (i+1) l
theorem kR{α:Type}{f:Nat->α->Int}:∀ {l:List α} {n k:Nat} {x:α},(∀ i p,i<k->l[i]?=some p->f (n+i) p=0)->l[k]?=some x->f (n+k) x≠0->eU f n l=f (n+k) x
 | y :: l,n,0,x,_,hx,h=>by cases hx; rw[Nat.add_zero] at h ⊢; rw[eU,if_pos h]
 | y :: l,n,k+1,x,ha,hx,h=>by
  rw[eU,if_neg (by simpa using ha 0 y (by omega) rfl),kR (l:=l) (k:=k) (x:=x) (λ i p hi hp=>by have:=ha (i+1) p (by omega) (by simpa using hp); rwa [show n+(i+1)=n+1+i by omega] at this) (by simpa using hx) (by rwa [show n+1+k=n+(k+1) by omega])];rw[show n+1+k=n+(k+1) by omega]
theorem bP{α:Type}{f:Nat->α->Int}:∀ {l:List α} {n:Nat},(∀ i p,l[i]?=some p->f (n+i) p=0)->eU f n l=0
 | [],_,_=>rfl
 | y :: l,n,ha=>by
  rw[eU,if_neg (by simpa using ha 0 y rfl)];exact bP λ i p hp=>by have:=ha (i+1) p (by simpa using hp); rwa [show n+(i+1)=n+1+i by omega] at this
def JS(l:List Pr)(i:Nat)(p:Pr):Int:=if cw p.nm=false then 5 else if ((l.take i).any λ q=>q.nm==p.nm) then 7 else if Gq p=false then 4 else 0
theorem zi{l:List Pr}{i:Nat}{p:Pr}(h:uv l i p):JS l i p=0:=by
 obtain⟨h1,h2⟩:=h;unfold tJ at h1;rw[Bool.and_eq_true] at h1;rw[JS,h1.1,h2,h1.2]; rfl
def Ga(l:List Pr):Int:=if l.length=0 then 1 else if 6<l.length then 3 else if eU (JS l) 0 l≠0 then eU (JS l) 0 l else if pr (C8 l)<=1024 then 0 else 12
theorem AP{w:World}{a:OA}{c:Nat}{l:List Pr}(h:dH w a l)(hcap:l.length<=c) :
  CP 80 #[.slice a l.length c] w ((BN (bZ l) (Ga l) w)):=by
 refine FX ?_;unfold HI
 by_cases h0:l.length=0
 ·exact cT (by rw[h0]; rfl) (aW (by decide) (λ hp=>by have:=hp.l1; omega) (ay.refl _ _) (by rw[Ga,if_pos h0]))
 refine cF (by simpa using h0) ?_;rcases Nat.lt_or_ge 6 l.length with h6|h6
 ·exact cT (dT (by omega)) (aW (by decide) (λ hp=>by have:=hp.l2; omega) (ay.refl _ _) (by rw[Ga,if_neg h0,if_pos h6]))
 refine cF (dF (by omega)) ⟨λ n w1 m=>∃ k:Nat,n=k/\k<=l.length/\m=l.length-k/\(∀ i p,i<k->l[i]?=some p->uv l i p)/\ay w w1 [],⟨l.length,0,rfl,by omega,by omega,λ i p hi=>by omega,ay.refl _ _⟩,?_⟩;rintro w1 m n ⟨k,rfl,hk,hm,ha,hc⟩ -
 by_cases hlt:(k:Int)<(l.length:Int)
 ·have hx:l[k]?=some (l[k]'(by omega)):=gE (by omega);generalize l[k]'(by omega)=x at hx;obtain⟨_,q,hq,hcl⟩:=(h.au hc) k x hx;have bad : ¬ uv l k x->¬ bZ l:=λ hb hp=>hb (hp.good k x hx);have bk:∀ {e:Int},e≠0->JS l k x=e->Ga l=e:=λ he h=>by
   have:=kR (f:=JS l) (n:=0) (λ i p hi hp=>by rw[Nat.zero_add]; exact zi (ha i p hi hp)) hx (by rw[Nat.zero_add,h]; exact he);rw[Nat.zero_add,h] at this;rw[Ga,if_neg h0,if_neg (by omega),this,if_pos he]
  refine cT (by simpa using hlt) ?_;rw[hq];refine⟨by omega,by omega,_,_,_,_,_,hcl,aJ ?_⟩;refine((St.start' hc).one.bW _ 94).az 0 rfl x.cells rfl x.one λ w3 s3=>?_;generalize hr1:w1.heap.size=r1 at s3 ⊢;have cx:∀ {w' : World},ay w3 w' []->∀ (j:Nat) (v:Value),x.cells[j]?=some v->w'.cell? ⟨r1,j,none⟩=some v:=λ hc j v hv=>bO (by rw[s3.ag 0 rfl]; simpa using hv) hc;refine⟨_,cx (ay.refl _ _) 0 _ rfl,ak (yN w3 x.nm) ?_⟩;rintro v w4 ⟨rfl,rfl⟩;refine⟨_,rfl,?_⟩
  cases hn:cw x.nm with
  | false=>exact cT rfl (aW (by decide) (bad λ hg=>by have:=hg.1; simp[tJ,hn] at this) s3.au (bk (by decide) (by rw[JS,hn]; rfl)))
  | true =>
   have d4:ay w4 w4.drew []:=ay.drew w4 [];refine cF rfl ⟨by omega,by omega,_,cx d4 0 _ rfl,?_⟩;rw[<- hq,Mj];have hf:=Q7 (c:=c-0) ((h.au (s3.au.trans d4 (by simp))).take k) (by rw[List.length_take]; omega) x.nm;rw[List.length_take,Nat.min_eq_left hk] at hf;refine ak hf ?_;rintro v w5 ⟨⟨kk,rfl⟩,c5⟩;have d5:ay w4 w5 []:=d4.trans c5 (by simp);refine⟨_,_,rfl,?_⟩
   cases hany:((l.take k).any λ p=>p.nm==x.nm) with
   | true=>exact cT rfl (aW (by decide) (bad λ hg=>by have:=hg.2; rw[hany] at this; cases this) (s3.au.trans d5 (by simp)) (bk (by decide) (by rw[JS,hn,hany]; rfl)))
   | false =>
    refine cF rfl ⟨λ b w6=>ay w5 w6 []/\b = !Gq x,?_,?_⟩
    ·rintro w6 b ⟨c6,rfl⟩ -;have c7:=s3.au.trans (d5.trans c6 (by simp)) (by simp)
     cases hr:Gq x with
     | false=>exact cT rfl (aW (by decide) (bad λ hg=>by have:=hg.1; simp[tJ,hr] at this) c7 (bk (by decide) (by rw[JS,hn,hany,hr]; rfl)))
     | true =>
      refine cF rfl ⟨l.length-(k+1),by omega,k+1,by rw[aB ⟨by omega,by omega⟩]; rfl,by omega,rfl,λ i p hi hp=>?_,c7⟩;rcases Nat.lt_or_ge i k with h' | h'
      ·exact ha i p h' hp
      ·obtain rfl:i=k:=by omega
       rw[hx] at hp; cases hp;exact⟨by simp[tJ,hn,hr],hany⟩
    ·refine⟨_,cx d5 1 _ rfl,ak (pU w5 _ _ _) ?_⟩;rintro v w6 ⟨rfl,rfl⟩;refine⟨_,rfl,?_⟩
     cases g1:(decide (1<=x.sup)&&decide (x.sup<=4)) with
     | false=>exact cT rfl ⟨ay.refl _ _,by simp only[Gq,g1]; rfl⟩
     | true =>
      refine cF rfl ⟨_,cx d5 2 _ rfl,ak (pU w6 _ _ _) ?_⟩;rintro v w7 ⟨rfl,rfl⟩;refine⟨_,rfl,?_⟩
      cases g2:(decide (0<=x.res)&&decide (x.res<=1000000)) with
      | false=>exact cT rfl ⟨ay.refl _ _,by simp only[Gq,g1,g2]; rfl⟩
      | true =>
       refine cF rfl ⟨_,cx d5 3 _ rfl,ak (pU w7 _ _ _) ?_⟩;rintro v w8 ⟨rfl,rfl⟩;refine⟨_,rfl,?_⟩
       cases g3:(decide (0<=x.pts)&&decide (x.pts<=1000)) with
       | false=>exact cT rfl ⟨ay.refl _ _,by simp only[Gq,g1,g2,g3]; rfl⟩
       | true =>
        refine cF rfl ⟨_,cx d5 4 _ rfl,ak (pU w8 _ _ _) ?_⟩;rintro v w9 ⟨rfl,rfl⟩;exact⟨_,rfl,ay.refl _ _,by simp only[Gq,g1,g2,g3]; rfl⟩
 ·obtain rfl:k=l.length:=by omega
  have hg:∀ i p,l[i]?=some p->uv l i p:=λ i p hp=>ha i p (List.getElem?_eq_some_iff.1 hp).1 hp;refine cF (by simp) (ak (lN (h.au hc) (by omega)) ?_);rintro v w2 ⟨rfl,c2⟩;refine⟨_,rfl,ak (xC w2 _) ?_⟩;rintro v w3 ⟨rfl,c3⟩;have c4:ay w w3 []:=hc.trans (c2.trans c3 (by simp)) (by simp);refine⟨_,rfl,?_⟩;have hall:=H9 hg;have hpr:=ue h6;rw[C7];have hb:=(oV hall).1;have e0:Ga l=if pr (C8 l)<=1024 then 0 else 12:=by
   have:=bP (f:=JS l) (n:=0) (l:=l) λ i p hp=>by rw[Nat.zero_add]; exact zi (hg i p hp)
   rw[Ga,if_neg h0,if_neg (by omega),this,if_neg (by decide)]
  by_cases hlim:pr (C8 l)<=1024
  ·rw[if_pos ⟨hall,hlim⟩];exact cF (by simp; omega) (pW ⟨by omega,h6,hg,by rw[<- hpr]; exact hlim⟩ c4 (by rw[e0,if_pos hlim]))
  ·rw[if_neg λ h=>hlim h.2];exact cT rfl (aW (by decide) (λ hp=>hlim (by rw[hpr]; exact hp.lim)) c4 (by rw[e0,if_neg hlim]))
theorem yw{w:World}{a:OA}{c:Nat}{l:List Pr}(h:dH w a l)(hcap:l.length<=c) :
  CP 80 #[.slice a l.length c] w ((Ql (bZ l) w)):=ak (AP h hcap) λ _ _ h=>⟨_,rfl,h.old⟩
def vC(a b:I6)(w:World)(K:KP):=aq w (.cells a.vs.toArray 53) λ a c=>aq c (.cells b.vs.toArray 44) λ b c=>∃ d:I6,af c (qd b 0) 0 d.vs/\∃ b:Int->Int->qN,(∃ e,b 0 (0:Int) c e)/\∀ c e f g,b f g c e->∀ h:qv,cond (decide (g<6)) (0<=g/\g<6/\∃ h,(d.vs.toArray:Array Value)[(g).toNat*1]?=some (iv h)/\0<=g/\g<6/\∃ d,c.cell? (Addr.add (qd a 0) ((g).toNat*1))=some (iv d)/\∃ a,a<e/\b (IntKind.i64.wrap (f+(IntKind.i64.wrap (d*h)))) (IntKind.i64.wrap (g+1)) c a) (K (iv f) c)
theorem ym{u1 u2 w K}(h:vC u1 u2 w K):CP 86 #[.agg u1.vs.toArray,.agg u2.vs.toArray] w K:=ah (aA [(58,[(5,.s (.int .i64)),(9,.s (.int .i64))])]) func86 (by kernel_rfl) (by kernel_rfl) h
def qI(a b:I6)(w:World)(K:KP):=aq w (.cells a.vs.toArray 44) λ a c=>aq c (.cells b.vs.toArray 44) λ b c=>∃ d:I6,af c.drew (qd a 0) 0 d.vs/\∃ e:I6,af c.drew (qd b 0) 0 e.vs/\∃ b:I6,af c.drew (qd a 0) 0 b.vs/\CC 159 #[.agg d.vs.toArray,.agg e.vs.toArray] c.drew λ c d=>∃ e:I6,c=.returned (.agg e.vs.toArray)/\af d (qd a 0) 0 b.vs/\K (.bool (I6.beq e b)) d
theorem uA{u1 u2 w K}(h:qI u1 u2 w K):CP 120 #[.agg u1.vs.toArray,.agg u2.vs.toArray] w K:=ah (aA []) func120 (by kernel_rfl) (by kernel_rfl) h
def yl(a:I6)(w:World)(K:KP):=aq w (.cells a.vs.toArray 44) λ a b=>∃ c:I6,af b (qd a 0) 0 c.vs/\CC 90 #[.agg c.vs.toArray] b λ b c=>∃ d,b=.returned (iv d)/\cond (d==0) (K (.func (.func 91) #[] #[]) c) (∃ b:I6,af c (qd a 0) 0 b.vs/\CC 92 #[.agg b.vs.toArray] c λ a b=>∃ c:Value,a=.returned c/\K c b)
theorem Ao{u1 w K}(h:yl u1 w K):CP 48 #[.agg u1.vs.toArray] w K:=ah (aA []) func48 (by kernel_rfl) (by kernel_rfl) h
def vE(a b:I6)(w:World)(K:KP):=aq w (.cells a.vs.toArray 44) λ a c=>aq c (.cells b.vs.toArray 44) λ b c=>aq c (.cells z6.vs.toArray 44) λ c d=>∃ e:Int->qN,(∃ f,e 0 d f)/\∀ d f g,e g d f->∀ h:qv,cond (decide (g<6)) (0<=g/\g<6/\∃ h,d.drew.cell? (Addr.add (qd a 0) ((g).toNat*1))=some (iv h)/\0<=g/\g<6/\∃ i,d.drew.cell? (Addr.add (qd b 0) ((g).toNat*1))=some (iv i)/\0<=g/\g<6/\aP d.drew (Addr.add (qd a 0) ((g).toNat*1)) (iv (if i<h then i else h)) λ b=>∃ h,h<f/\e (IntKind.i64.wrap (g+1)) b h) (∃ b:I6,af d (qd a 0) 0 b.vs/\aL (qd c 0) 0 b.vs d λ a=>∃ b:I6,af a (qd c 0) 0 b.vs/\K (.agg b.vs.toArray) a)
theorem yp{u1 u2 w K}(h:vE u1 u2 w K):CP 159 #[.agg u1.vs.toArray,.agg u2.vs.toArray] w K:=ah (aA [(26,[(6,.s (.int .i64))])]) func159 (by kernel_rfl) (by kernel_rfl) h
def sH(a:I6)(w:World)(K:KP):=aq w (.cells a.vs.toArray 44) λ a b=>∃ c:I6,af b (qd a 0) 0 c.vs/\∃ a:Int->Int->qN,(∃ d,a 0 (0:Int) b d)/\∀ b d e f,a e f b d->∀ g:qv,cond (decide (f<6)) (0<=f/\f<6/\∃ g,(c.vs.toArray:Array Value)[(f).toNat*1]?=some (iv g)/\∃ c,c<d/\a (IntKind.i64.wrap (e+g)) (IntKind.i64.wrap (f+1)) b c) (K (iv e) b)
theorem wD{u1 w K}(h:sH u1 w K):CP 237 #[.agg u1.vs.toArray] w K:=ah (aA [(58,[(3,.s (.int .i64)),(7,.s (.int .i64))])]) func237 (by kernel_rfl) (by kernel_rfl) h
def vD(a b:I6)(w:World)(K:KP):=aq w (.cells a.vs.toArray 44) λ a c=>aq c (.cells b.vs.toArray 44) λ b c=>aq c (.cells z6.vs.toArray 44) λ c d=>∃ e:Int->qN,(∃ f,e 0 d f)/\∀ d f g,e g d f->∀ h:qv,cond (decide (g<6)) (0<=g/\g<6/\∃ h,d.drew.cell? (Addr.add (qd a 0) ((g).toNat*1))=some (iv h)/\0<=g/\g<6/\∃ i,d.drew.cell? (Addr.add (qd b 0) ((g).toNat*1))=some (iv i)/\0<=g/\g<6/\aP d.drew (Addr.add (qd a 0) ((g).toNat*1)) (iv (if i>h then i else h)) λ b=>∃ h,h<f/\e (IntKind.i64.wrap (g+1)) b h) (∃ b:I6,af d (qd a 0) 0 b.vs/\aL (qd c 0) 0 b.vs d λ a=>∃ b:I6,af a (qd c 0) 0 b.vs/\K (.agg b.vs.toArray) a)
theorem yo{u1 u2 w K}(h:vD u1 u2 w K):CP 242 #[.agg u1.vs.toArray,.agg u2.vs.toArray] w K:=ah (aA [(26,[(6,.s (.int .i64))])]) func242 (by kernel_rfl) (by kernel_rfl) h
def vG(a:I6)(w:World)(K:KP):=aq w (.cells a.vs.toArray 44) λ a b=>K (.func (.func 124) #[] #[qp a]) b
theorem yu{u1 w K}(h:vG u1 w K):CP 92 #[.agg u1.vs.toArray] w K:=ah (aA []) func92 (by kernel_rfl) (by kernel_rfl) h
def vF(a b:I6)(w:World)(K:KP):=aq w (.cells a.vs.toArray 44) λ a c=>aq c (.cells b.vs.toArray 44) λ b c=>∃ d:Bool->qW,(∀ e f,d f e->∀ g:qv,cond f (K (.tuple #[qz,iv 4]) e) (∃ f:I6,af e (qd a 0) 0 f.vs/\∃ g:Int->Int->qN,(∃ h,g 0 (0:Int) e h)/\∀ e h i j,g i j e h->∀ k:qv,cond (decide (j<6)) (0<=j/\j<6/\∃ k,(f.vs.toArray:Array Value)[(j).toNat*1]?=some (iv k)/\0<=j/\j<6/\∃ f,e.cell? (Addr.add (qd b 0) ((j).toNat*1))=some (iv f)/\∃ l,l<h/\g (IntKind.i64.wrap ((IntKind.i64.wrap (i*(IntKind.i64.wrap (k+1))))+f)) (IntKind.i64.wrap (j+1)) e l) (K (.tuple #[iv i,qz]) e)))/\∃ e:I6,af c (qd a 0) 0 e.vs/\CC 90 #[.agg e.vs.toArray] c λ c e=>∃ f,c=.returned (iv f)/\cond (f==0) (d true e) (∃ c:I6,af e (qd b 0) 0 c.vs/\CC 65 #[.agg c.vs.toArray] e λ c e=>∃ f,c=.returned (iv f)/\cond (f !=0) (d true e) (∃ c:I6,af e (qd b 0) 0 c.vs/\∃ b:I6,af e (qd a 0) 0 b.vs/\CC 120 #[.agg c.vs.toArray,.agg b.vs.toArray] e λ a b=>∃ c,a=.returned (.bool c)/\d (!c) b))
theorem yq{u1 u2 w K}(h:vF u1 u2 w K):CP 243 #[.agg u1.vs.toArray,.agg u2.vs.toArray] w K:=ah (aA [(6,[(22,.s .bool)]),(122,[(6,.s (.int .i64)),(24,.s (.int .i64))])]) func243 (by kernel_rfl) (by kernel_rfl) h
def yj(a b:I6)(w:World)(K:KP):=aq w (.cells a.vs.toArray 44) λ a c=>aq c (.cells b.vs.toArray 44) λ b c=>aq c (.cells z6.vs.toArray 44) λ c d=>∃ e:Int->qN,(∃ f,e 0 d f)/\∀ d f g,e g d f->∀ h:qv,cond (decide (g<6)) (0<=g/\g<6/\∃ h,d.drew.cell? (Addr.add (qd a 0) ((g).toNat*1))=some (iv h)/\0<=g/\g<6/\∃ i,d.drew.cell? (Addr.add (qd b 0) ((g).toNat*1))=some (iv i)/\0<=g/\g<6/\aP d.drew (Addr.add (qd a 0) ((g).toNat*1)) (iv (IntKind.i64.wrap (h+i))) λ b=>∃ h,h<f/\e (IntKind.i64.wrap (g+1)) b h) (∃ b:I6,af d (qd a 0) 0 b.vs/\aL (qd c 0) 0 b.vs d λ a=>∃ b:I6,af a (qd c 0) 0 b.vs/\K (.agg b.vs.toArray) a)
theorem An{u1 u2 w K}(h:yj u1 u2 w K):CP 253 #[.agg u1.vs.toArray,.agg u2.vs.toArray] w K:=ah (aA [(26,[(6,.s (.int .i64))])]) func253 (by kernel_rfl) (by kernel_rfl) h
def qJ(a b:Nat)(w:World)(K:KP):=aq w (.cells z6.vs.toArray 44) λ c d=>aL (qd c 0) 0 z6.vs d λ d=>∃ e:qN,(∃ f,e d f)/\∀ d f,e d f->∀ g:qv,∃ g:I6,af d (qd c 0) 0 g.vs/\iC prog a #[.agg g.vs.toArray] d λ a d=>∃ g,.returned (.bool a)=Ending.returned (.bool g)/\cond g (∃ a:I6,af d (qd c 0) 0 a.vs/\∃ g:I6,af d (qd b 0) 0 g.vs/\CC 125 #[.agg a.vs.toArray,.agg g.vs.toArray] d λ a b=>∃ g:I6,a=.returned (.agg g.vs.toArray)/\aL (qd c 0) 0 g.vs b λ a=>∃ b:I6,af a (qd c 0) 0 b.vs/\cond (I6.beq b z6) (K (.tuple #[]) a) (∃ b,b<f/\e a b)) (K (.tuple #[]) d)
theorem uB{l1 b1 w K}(h:qJ l1 b1 w K):CP 124 #[.func (.yield l1) #[] #[],.pointer (some ⟨b1,0,none⟩)] w K:=ah (aA [(6,[])]) func124 (by kernel_rfl) (by kernel_rfl) h
def kC(a b:I6)(w:World)(K:KP):=aq w (.cells a.vs.toArray 44) λ a c=>aq c (.cells b.vs.toArray 44) λ b c=>aq c (.cells z6.vs.toArray 44) λ c d=>∃ e:Int->qN,(∃ f,e 5 d f)/\∀ d f g,e g d f->∀ h:qv,cond (decide (g>=0)) (0<=g/\g<6/\∃ h,d.drew.cell? (Addr.add (qd a 0) ((g).toNat*1))=some (iv h)/\0<=g/\g<6/\∃ i,d.drew.cell? (Addr.add (qd b 0) ((g).toNat*1))=some (iv i)/\cond (decide (h<i)) (0<=g/\g<6/\∃ b,d.drew.cell? (Addr.add (qd a 0) ((g).toNat*1))=some (iv b)/\0<=g/\g<6/\aP d.drew (Addr.add (qd a 0) ((g).toNat*1)) (iv (IntKind.i64.wrap (b+1))) λ b=>∃ h:I6,af b (qd a 0) 0 h.vs/\aL (qd c 0) 0 h.vs b λ b=>∃ h:I6,af b (qd c 0) 0 h.vs/\K (.agg h.vs.toArray) b) (0<=g/\g<6/\aP d.drew (Addr.add (qd a 0) ((g).toNat*1)) qz λ b=>∃ h,h<f/\e (IntKind.i64.wrap (g-1)) b h)) (∃ b:I6,af d (qd a 0) 0 b.vs/\aL (qd c 0) 0 b.vs d λ a=>∃ b:I6,af a (qd c 0) 0 b.vs/\K (.agg b.vs.toArray) a)
theorem qj{u1 u2 w K}(h:kC u1 u2 w K):CP 125 #[.agg u1.vs.toArray,.agg u2.vs.toArray] w K:=ah (aA [(26,[(5,.s (.int .i64))])]) func125 (by kernel_rfl) (by kernel_rfl) h
theorem fm(r k:Nat):Addr.add ⟨r,0,none⟩ (((k:Nat):Int).toNat*1)=⟨r,k,none⟩:=by rw[bq]; simp
theorem aI{w0 w:World}{l:List aC}{r:Nat}{u:I6}{T:TypeId}(h:St w0 w (Sep l))(i:Nat)(e:l[i]?=some (ai r u.vs.toArray T)){k:Nat}(hk:k<6):w.cell? ⟨r,k,none⟩=some (iv (u.at' k)):=by
 rw[h.ag i e]; simpa using u.get k hk
def Fs(p u:I6)(k:Nat):Int:=(List.range k).foldl (λ s j=>s+p.at' j*u.at' j) 0
theorem AX(p u:I6)(k:Nat):Fs p u (k+1)=Fs p u k+p.at' k*u.at' k:=by simp[Fs,List.range_succ]
def cost(p u:I6):Int:=p.a*u.a+p.b*u.b+p.c*u.c+p.d*u.d+p.e*u.e+p.f*u.f
theorem G6(p u:I6):Fs p u 6=cost p u:=by simp[Fs,cost,List.range_succ,I6.at']
def tot(u:I6):Int:=u.a+u.b+u.c+u.d+u.e+u.f
def I6.Le(u:I6)(n:Int):Prop:=∀ k,k<6->0<=u.at' k/\u.at' k<=n
theorem JT{u:I6}(h:u.l.all eY=true):I6.Le u 4:=λ k hk=>by
 have:=List.all_eq_true.1 h _ (List.mem_of_getElem? (u.oP k hk));simpa[eY] using this
theorem leq{u:I6}(h:I6.Le u 4):u.l.all eY=true:=by
 have h0:=h 0 (by decide); have h1:=h 1 (by decide); have h2:=h 2 (by decide); have h3:=h 3 (by decide); have h4:=h 4 (by decide); have h5:=h 5 (by decide);simp only[I6.at'] at h0 h1 h2 h3 h4 h5;simp[I6.l,eY,h0,h1,h2,h3,h4,h5]
theorem SC(w:World)(u v:I6)(hu:I6.Le u 1000000)(hv:I6.Le v 1000000):CP 253 #[.agg u.vs.toArray,.agg v.vs.toArray] w (λ r w'=>r=.agg (u.zip (· + ·) v).vs.toArray/\ay w w' []):=by
 refine An ?_;unfold yj;refine aJ (aJ (aJ ?_));have s3:=(((St.start w).one.bW u.vs.toArray 44).bW v.vs.toArray 44).bW z6.vs.toArray 44;generalize hw3:World.alloc _ _=w3 at s3 ⊢;generalize hr1:w.heap.size=r1 at s3 ⊢;generalize hr2:(w.alloc _).heap.size=r2 at s3 ⊢;generalize hr3:((w.alloc _).alloc _).heap.size=r3 at s3 ⊢;refine⟨λ n w4 m=>∃ k:Nat,n=k/\k<=6/\m=6-k/\St w w4 (Sep [ai r3 z6.vs.toArray 44,ai r2 v.vs.toArray 44,ai r1 (I6.mix k (u.zip (· + ·) v) u).vs.toArray 44,emp]),⟨6,0,rfl,by omega,by omega,s3⟩,?_⟩;rintro w4 m n ⟨k,rfl,hk,hm,s4⟩ -
 by_cases hlt:(k:Int)<6
 ·have hk' : k<6:=by omega
  have s5:=s4.quiet (ay.drew _ _);have h1:=hu k hk';have h2:=hv k hk';refine cT (dT hlt) ⟨by omega,by omega,u.at' k,?_,by omega,by omega,v.at' k,?_,by omega,by omega,?_⟩
  ·rw[fm,aI s5 2 rfl hk',I6.bT _ _ _ _ hk',if_neg (by omega)]
  ·rw[fm,aI s5 1 rfl hk']
  ·rw[fm,aB ⟨by omega,by omega⟩];refine s5.aK 2 rfl hk' rfl λ w6 s6=>⟨6-(k+1),by omega,k+1,inc (by decide) hk',by omega,rfl,?_⟩;rw[show u.at' k+v.at' k=(u.zip (· + ·) v).at' k by rw[I6.fG _ _ _ _ hk'],I6.eV _ _ _ hk'] at s6;exact s6
 ·obtain rfl:k=6:=by omega
  refine cF (by simp) ⟨_,s4.cellsIn 2 rfl,?_⟩;exact s4.az 0 rfl (u.zip (· + ·) v).vs rfl (I6.one _) λ w8 s8=>⟨_,s8.cellsIn 0 rfl,rfl,s8.au⟩
theorem Rc(w:World)(u v:I6):CP 242 #[.agg u.vs.toArray,.agg v.vs.toArray] w (λ r w'=>r=.agg (u.zip (λ x y=>if y>x then y else x) v).vs.toArray/\ay w w' []):=by
 refine yo ?_;unfold vD;refine aJ (aJ (aJ ?_));have s3:=(((St.start w).one.bW u.vs.toArray 44).bW v.vs.toArray 44).bW z6.vs.toArray 44;generalize hw3:World.alloc _ _=w3 at s3 ⊢;generalize hr1:w.heap.size=r1 at s3 ⊢;generalize hr2:(w.alloc _).heap.size=r2 at s3 ⊢;generalize hr3:((w.alloc _).alloc _).heap.size=r3 at s3 ⊢;refine⟨λ n w4 m=>∃ k:Nat,n=k/\k<=6/\m=6-k/\St w w4 (Sep [ai r3 z6.vs.toArray 44,ai r2 v.vs.toArray 44,ai r1 (I6.mix k (u.zip (λ x y=>if y>x then y else x) v) u).vs.toArray 44,emp]),⟨6,0,rfl,by omega,by omega,s3⟩,?_⟩;rintro w4 m n ⟨k,rfl,hk,hm,s4⟩ -
 by_cases hlt:(k:Int)<6
 ·have hk' : k<6:=by omega
  have s5:=s4.quiet (ay.drew _ _);refine cT (dT hlt) ⟨by omega,by omega,u.at' k,?_,by omega,by omega,v.at' k,?_,by omega,by omega,?_⟩
  ·rw[fm,aI s5 2 rfl hk',I6.bT _ _ _ _ hk',if_neg (by omega)]
  ·rw[fm,aI s5 1 rfl hk']
  ·rw[fm];refine s5.aK 2 rfl hk' rfl λ w6 s6=>⟨6-(k+1),by omega,k+1,inc (by decide) hk',by omega,rfl,?_⟩;rw[show(if v.at' k>u.at' k then v.at' k else u.at' k)=(u.zip (λ x y=>if y>x then y else x) v).at' k by rw[I6.fG _ _ _ _ hk'],I6.eV _ _ _ hk'] at s6;exact s6
 ·obtain rfl:k=6:=by omega
  refine cF (by simp) ⟨_,s4.cellsIn 2 rfl,?_⟩;exact s4.az 0 rfl (u.zip (λ x y=>if y>x then y else x) v).vs rfl (I6.one _) λ w8 s8=>⟨_,s8.cellsIn 0 rfl,rfl,s8.au⟩
theorem Rk(w:World)(u v:I6):CP 159 #[.agg u.vs.toArray,.agg v.vs.toArray] w (λ r w'=>r=.agg (u.zip (λ x y=>if y<x then y else x) v).vs.toArray/\ay w w' []):=by
 refine yp ?_;unfold vE;refine aJ (aJ (aJ ?_));have s3:=(((St.start w).one.bW u.vs.toArray 44).bW v.vs.toArray 44).bW z6.vs.toArray 44;generalize hw3:World.alloc _ _=w3 at s3 ⊢;generalize hr1:w.heap.size=r1 at s3 ⊢;generalize hr2:(w.alloc _).heap.size=r2 at s3 ⊢;generalize hr3:((w.alloc _).alloc _).heap.size=r3 at s3 ⊢;refine⟨λ n w4 m=>∃ k:Nat,n=k/\k<=6/\m=6-k/\St w w4 (Sep [ai r3 z6.vs.toArray 44,ai r2 v.vs.toArray 44,ai r1 (I6.mix k (u.zip (λ x y=>if y<x then y else x) v) u).vs.toArray 44,emp]),⟨6,0,rfl,by omega,by omega,s3⟩,?_⟩;rintro w4 m n ⟨k,rfl,hk,hm,s4⟩ -
 by_cases hlt:(k:Int)<6
 ·have hk' : k<6:=by omega
  have s5:=s4.quiet (ay.drew _ _);refine cT (dT hlt) ⟨by omega,by omega,u.at' k,?_,by omega,by omega,v.at' k,?_,by omega,by omega,?_⟩
  ·rw[fm,aI s5 2 rfl hk',I6.bT _ _ _ _ hk',if_neg (by omega)]
  ·rw[fm,aI s5 1 rfl hk']
  ·rw[fm];refine s5.aK 2 rfl hk' rfl λ w6 s6=>⟨6-(k+1),by omega,k+1,inc (by decide) hk',by omega,rfl,?_⟩;rw[show(if v.at' k<u.at' k then v.at' k else u.at' k)=(u.zip (λ x y=>if y<x then y else x) v).at' k by rw[I6.fG _ _ _ _ hk'],I6.eV _ _ _ hk'] at s6;exact s6
 ·obtain rfl:k=6:=by omega
  refine cF (by simp) ⟨_,s4.cellsIn 2 rfl,?_⟩;exact s4.az 0 rfl (u.zip (λ x y=>if y<x then y else x) v).vs rfl (I6.one _) λ w8 s8=>⟨_,s8.cellsIn 0 rfl,rfl,s8.au⟩
def within(u v:I6):Bool:=decide (u.a<=v.a)&&(decide (u.b<=v.b)&&(decide (u.c<=v.c)&&(decide (u.d<=v.d)&&(decide (u.e<=v.e)&&decide (u.f<=v.f)))))
theorem within_iff{u v:I6}:within u v=true<->∀ k,k<6->u.at' k<=v.at' k:=by
 simp only[within,Bool.and_eq_true,decide_eq_true_eq];constructor
 ·rintro⟨h0,h1,h2,h3,h4,h5⟩ k hk
  match k,hk with
  | 0,_=>exact h0
  | 1,_=>exact h1
  | 2,_=>exact h2
  | 3,_=>exact h3
  | 4,_=>exact h4
  | 5,_=>exact h5
 ·exact λ h=>⟨h 0 (by decide),h 1 (by decide),h 2 (by decide),h 3 (by decide),h 4 (by decide),h 5 (by decide)⟩
theorem pS(w:World)(u v:I6):CP 120 #[.agg u.vs.toArray,.agg v.vs.toArray] w (λ r w'=>r=.bool (within u v)/\ay w w' []):=by
 refine uA ?_;unfold qI;refine aJ (aJ ?_);have s2:=(((St.start w).one.bW u.vs.toArray 44).bW v.vs.toArray 44).quiet (ay.drew _ _);refine⟨_,s2.cellsIn 1 rfl,_,s2.cellsIn 0 rfl,_,s2.cellsIn 1 rfl,ak (Rk _ u v) ?_⟩;rintro r w3 ⟨rfl,c3⟩;refine⟨_,rfl,bu c3 (s2.cellsIn 1 rfl),?_,(s2.quiet c3).au⟩;have m:∀ x y:Int,((if y<x then y else x)==x)=decide (x<=y):=λ x y=>by
  by_cases h:y<x
  ·rw[if_pos h,dF (by omega)]; simp; omega
  ·rw[if_neg h,dT (by omega)]; simp
 simp only[I6.beq,I6.zip,within,m,Bool.and_true]
theorem Pz(w:World)(u:I6)(hu:I6.Le u 1000000):CP 237 #[.agg u.vs.toArray] w (λ r w'=>r=iv (tot u)/\ay w w' []):=by
 refine wD ?_;unfold sH;refine aJ ?_;have s1:=(St.start w).one.bW u.vs.toArray 44;generalize hw1:World.alloc _ _=w1 at s1 ⊢;generalize hr1:w.heap.size=r1 at s1 ⊢;let z1:I6:=⟨1,1,1,1,1,1⟩;have e1:∀ k,k<6->z1.at' k=1:=λ k hk=>by
  match k,hk with
  | 0,_|1,_|2,_|3,_|4,_|5,_=>rfl
 refine⟨u,s1.cellsIn 0 rfl,λ p n w3 m=>∃ k:Nat,n=k/\k<=6/\m=6-k/\p=Fs z1 u k/\0<=p/\p<=(k:Int)*1000000/\w3=w1,⟨6,0,rfl,by omega,by omega,rfl,by simp,by simp,rfl⟩,?_⟩;rintro w3 m p n ⟨k,rfl,hk,hm,hp,h0,h1,rfl⟩ -
 by_cases hlt:(k:Int)<6
 ·have hk' : k<6:=by omega
  have h2:=hu k hk';refine cT (dT hlt) ⟨by omega,by omega,u.at' k,u.get k hk',6-(k+1),by omega,k+1,inc (by decide) hk',by omega,rfl,?_,?_,?_,rfl⟩
  ·rw[aB ⟨by omega,by omega⟩,AX,e1 k hk',hp]; omega
  ·rw[aB ⟨by omega,by omega⟩]; omega
  ·rw[aB ⟨by omega,by omega⟩]; omega
 ·obtain rfl:k=6:=by omega
  refine cF (by simp) ⟨?_,s1.au⟩;rw[hp,G6]; simp[cost,tot,z1]
theorem QK(w:World)(p u:I6)(B:Int)(hB:B<=1000000000000)(hp:∀ k,k<6->-B<=p.at' k/\p.at' k<=B)(hu:I6.Le u 4):CP 86 #[.agg p.vs.toArray,.agg u.vs.toArray] w (λ r w'=>r=iv (cost p u)/\ay w w' []):=by
 refine ym ?_;unfold vC;refine aJ (aJ ?_);have s2:=((St.start w).one.bW p.vs.toArray 53).bW u.vs.toArray 44;generalize hw2:World.alloc _ _=w2 at s2 ⊢;generalize hr1:w.heap.size=r1 at s2 ⊢;generalize hr2:(w.alloc _).heap.size=r2 at s2 ⊢;have b1:∀ k,k<6->-(4*B)<=p.at' k*u.at' k/\p.at' k*u.at' k<=4*B:=λ k hk=>by
  have h1:=hp k hk;have h2:=hu k hk;have h3:0<=B:=by omega
  obtain⟨j,hj⟩:∃ j:Nat,u.at' k=(j:Int):=⟨(u.at' k).toNat,by omega⟩;rw[hj] at h2 ⊢;have h4:j<=4:=by omega
  match j,h4 with
  | 0,_|1,_|2,_|3,_|4,_=>omega
 refine⟨u,s2.cellsIn 0 rfl,λ s n w3 m=>∃ k:Nat,n=k/\k<=6/\m=6-k/\s=Fs p u k/\-((k:Int)*(4*B))<=s/\s<=(k:Int)*(4*B)/\w3=w2,⟨6,0,rfl,by omega,by omega,rfl,by simp,by simp,rfl⟩,?_⟩;rintro w3 m s n ⟨k,rfl,hk,hm,hs,h0,h1,rfl⟩ -
 by_cases hlt:(k:Int)<6
 ·have hk' : k<6:=by omega
  have h2:=b1 k hk';have h3:((k+1:Nat):Int)*(4*B)=(k:Int)*(4*B)+4*B:=by rw[Int.natCast_add,Int.add_mul]; omega
  have h4:(k:Int)*(4*B)<=5*(4*B)/\0<=(k:Int)*(4*B):=by
   have h0:0<=B:=by have:=hp k hk'; omega
   exact⟨Int.mul_le_mul_of_nonneg_right (by omega) (by omega),Int.mul_nonneg (by omega) (by omega)⟩
  refine cT (dT hlt) ⟨by omega,by omega,u.at' k,u.get k hk',by omega,by omega,p.at' k,?_,6-(k+1),by omega,k+1,inc (by decide) hk',by omega,rfl,?_,?_,?_,rfl⟩
  ·rw[fm,aI s2 1 rfl hk']
  ·rw[aB (n:=p.at' k*u.at' k) ⟨by omega,by omega⟩,aB ⟨by omega,by omega⟩,AX,hs]
  ·rw[aB (n:=p.at' k*u.at' k) ⟨by omega,by omega⟩,aB ⟨by omega,by omega⟩]; omega
  ·rw[aB (n:=p.at' k*u.at' k) ⟨by omega,by omega⟩,aB ⟨by omega,by omega⟩]; omega
 ·obtain rfl:k=6:=by omega
  refine cF (by simp) ⟨?_,s2.au⟩;rw[hs,G6]
