import Derived.Test.YtpihmghnbplohaaGreatDoorProg
import Derived.KernelRfl
import Derived.Test.YtpihmghnbplohaaGreatDoorM02
import Derived.Test.YtpihmghnbplohaaGreatDoorM04
set_option linter.unusedVariables false
set_option maxRecDepth 100000
namespace Go.Proofs.YtpihmghnbplohaaGreatDoor
open Go Go.Vc Tryz
def G6(a:Int)(w:World)(K:KP):Prop:=cond (decide (a>=48)) (K (.bool (decide (a<=57))) w) (K (.bool false) w)
theorem Fv{n1 w K}(h:G6 n1 w K):CP 259 #[.int .i32 n1] w (K):=ah (ay []) func259 (by kernel_rfl) (by kernel_rfl) h
def DU(a:Int)(w:World)(K:KP):Prop:=cond (decide (a>=97)) (K (.bool (decide (a<=122))) w) (K (.bool false) w)
theorem DV{n1 w K}(h:DU n1 w K):CP 214 #[.int .i32 n1] w (K):=ah (ay []) func214 (by kernel_rfl) (by kernel_rfl) h
def G7(a:Int)(w:World)(K:KP):Prop:=Calls prog 214 #[.int .i32 a] w λ b c=>∃ d,b=.returned (.bool d)/\cond d (K (.bool true) c) (Calls prog 259 #[.int .i32 a] c λ b c=>∃ d,b=.returned (.bool d)/\cond d (K (.bool true) c) (K (.bool (a==95)) c))
theorem Fy{n1 w K}(h:G7 n1 w K):CP 216 #[.int .i32 n1] w (K):=ah (ay []) func216 (by kernel_rfl) (by kernel_rfl) h
def K6(a:ByteArray)(b:Int)(c:Value)(w:World)(K:KP):Prop:=∃ d:Int->World->Nat->Prop,(∃ e,d b w e)/\∀ f e g,d g f e->∀ h:Nat->Value,∃ h:Bool->World->Prop,(∀ i j,h j i->∀ k:Nat->Value,cond j (∃ j,j<e/\d (IntKind.i64.wrap (g+1)) i j) (0<=g/\g<=((a.size:Nat):Int)/\0<=b/\b<=(((g).toNat:Nat):Int)/\K (.string (a.extract ((b).toNat) ((g).toNat))) i))/\cond (decide (g<((a.size:Nat):Int))) (0<=g/\an a[(g).toNat]? λ a=>cC prog c #[.int .i32 (IntKind.i32.wrap (a.toNat:Int))] f λ a b=>∃ c,a=.returned (.bool c)/\h c b) (h false f)
theorem DW{s1 n1 v1 w K}(h:K6 s1 n1 v1 w K):CP 215 #[.string s1,iv n1,v1] w (K):=ah (ay [(28,[(7,.s (.int .i64))]),(112,[(20,.s .bool)])]) func215 (by kernel_rfl) (by kernel_rfl) h
def DS(a:ByteArray)(w:World)(K:KP):Prop:=cond (!(a.toList==(bs []).toList)) (cond (decide (((a.size:Nat):Int)<=(12:Int))) (0<=(0:Int)/\an a[((0:Int)).toNat]? λ b=>Calls prog 214 #[.int .i32 (IntKind.i32.wrap (b.toNat:Int))] w λ b c=>∃ d,b=.returned (.bool d)/\cond d (Calls prog 215 #[.string a,iv 0,.func (.func 216) #[] #[]] c λ b d=>∃ e,b=.returned (.string e)/\K (.bool (e.toList==a.toList)) d) (K (.bool false) c)) (K (.bool false) w)) (K (.bool false) w)
theorem DT{s1 w K}(h:DS s1 w K):CP 167 #[.string s1] w (K):=ah (ay []) func167 (by kernel_rfl) (by kernel_rfl) h
def G5(a:I6)(w:World)(K:KP):Prop:=ak w (.cells a.vs.toArray 41) λ a b=>∃ (c:I6),af b ⟨a,0,none⟩ 0 c.vs/\Calls prog 86 #[.agg c.vs.toArray] b λ b c=>∃ d,b=.returned (iv d)/\cond (d !=0) (K (iv 0) c) (∃ (b:I6),af c ⟨a,0,none⟩ 0 b.vs/\∃ a:Int->Int->World->Nat->Prop,(∃ d,a 1 (0:Int) c d)/\∀ c d e f,a e f c d->∀ g:Nat->Value,cond (decide (f<6)) (0<=f/\f<6/\∃ g,(b.vs.toArray:Array Value)[(f).toNat*1]? = some (iv g)/\∃ b,b<d/\a (IntKind.i64.wrap (e*(IntKind.i64.wrap (g+1)))) (IntKind.i64.wrap (f+1)) c b) (cond (decide (e>1024)) (K (iv 0) c) (K (iv e) c)))
theorem Fu{u1 w K}(h:G5 u1 w K):CP 170 #[.agg u1.vs.toArray] w (K):=ah (ay [(122,[(3,.s (.int .i64)),(10,.s (.int .i64))])]) func170 (by kernel_rfl) (by kernel_rfl) h
def GZ(a:I6)(w:World)(K:KP):Prop:=ak w (.cells a.vs.toArray 41) λ a b=>∃ (c:I6),af b ⟨a,0,none⟩ 0 c.vs/\∃ a:Int->World->Nat->Prop,(∃ d,a 0 b d)/\∀ b d e,a e b d->∀ f:Nat->Value,cond (decide (e<6)) (0<=e/\e<6/\∃ f,(c.vs.toArray:Array Value)[(e).toNat*1]? = some (iv f)/\∃ c:Bool->World->Prop,(∀ g h,c h g->∀ i:Nat->Value,cond h (K (iv 4) g) (∃ h,h<d/\a (IntKind.i64.wrap (e+1)) g h))/\cond (decide (f<0)) (c true b) (c (decide (f>4)) b)) (K (iv 0) b)
theorem Fp{u1 w K}(h:GZ u1 w K):CP 86 #[.agg u1.vs.toArray] w (K):=ah (ay [(26,[(6,.s (.int .i64))]),(1689,[(14,.s .bool)])]) func86 (by kernel_rfl) (by kernel_rfl) h
def Aw(a b c:Int)(w:World)(K:KP):Prop:=cond (decide (a>=b)) (K (.bool (decide (a<=c))) w) (K (.bool false) w)
theorem B5{n1 n2 n3 w K}(h:Aw n1 n2 n3 w K):CP 169 #[iv n1,iv n2,iv n3] w (K):=ah (ay []) func169 (by kernel_rfl) (by kernel_rfl) h
def Fw(a:OA)(b c:Nat)(d:ByteArray)(w:World)(K:KP):Prop:=∃ c:Int->World->Nat->Prop,(∃ e,c 0 w e)/\∀ f e g,c g f e->∀ h:Nat->Value,cond (decide (g<(b:Int))) (an a λ a=>0<=g/\g<(b:Int)/\∃ b h i j k,af f (Addr.add a ((g).toNat*5)) 0 [.string b,iv h,iv i,iv j,iv k]/\ak f (.cells #[.string (bs []),iv 0,iv 0,iv 0,iv 0] 170) λ a l=>aQ ⟨a,0,none⟩ 0 [.string b,iv h,iv i,iv j,iv k] l λ b=>∃ h,b.cell? ⟨a,0,none⟩=some (.string h)/\cond (h.toList==d.toList) (K (.tuple #[iv g,.bool true]) b) (∃ a,a<e/\c (IntKind.i64.wrap (g+1)) b a)) (K (.tuple #[iv 0,.bool false]) f)
theorem Ax{a1 l1 c1 s1 w K}(h:Fw a1 l1 c1 s1 w K):CP 168 #[.slice a1 l1 c1,.string s1] w (K):=ah (ay [(26,[(10,.s (.int .i64))])]) func168 (by kernel_rfl) (by kernel_rfl) h
def DX(a:OA)(b c:Nat)(w:World)(K:KP):Prop:=ak w (.cells z6.vs.toArray 41) λ c d=>ak d (.cells z6.vs.toArray 41) λ d e=>∃ f:Int->World->Nat->Prop,(∃ g,f 0 e g)/\∀ e g h,f h e g->∀ i:Nat->Value,cond (decide (h<(b:Int))) (∃ i:World->Prop,(∀ j,i j->∀ k:Nat->Value,∃ k,k<g/\f (IntKind.i64.wrap (h+1)) j k)/\an a λ a=>0<=h/\h<(b:Int)/\∃ b f g j k,af e (Addr.add a ((h).toNat*5)) 0 [.string b,iv f,iv g,iv j,iv k]/\ak e (.cells #[.string (bs []),iv 0,iv 0,iv 0,iv 0] 170) λ a l=>aQ ⟨a,0,none⟩ 0 [.string b,iv f,iv g,iv j,iv k] l λ b=>cond (decide (h<6)) (∃ f,b.cell? ⟨a,1,none⟩=some (iv f)/\0<=h/\h<6/\aN b (Addr.add ⟨d,0,none⟩ ((h).toNat*1)) (iv f) λ a=>i a) (i b)) (∃ (a:I6),af e ⟨d,0,none⟩ 0 a.vs/\aQ ⟨c,0,none⟩ 0 a.vs e λ a=>∃ (b:I6),af a ⟨c,0,none⟩ 0 b.vs/\K (.agg b.vs.toArray) a)
theorem DY{a1 l1 c1 w K}(h:DX a1 l1 c1 w K):CP 148 #[.slice a1 l1 c1] w (K):=ah (ay [(58,[(8,.s (.int .i64))]),(467,[])]) func148 (by kernel_rfl) (by kernel_rfl) h
def G0(a:OA)(b c:Nat)(w:World)(K:KP):Prop:=cond ((b:Int)==(0:Int)) (K (iv 1) w) (cond (decide ((b:Int)>(6:Int))) (K (iv 3) w) (∃ d:Int->World->Nat->Prop,(∃ e,d 0 w e)/\∀ f e g,d g f e->∀ h:Nat->Value,cond (decide (g<(b:Int))) (an a λ h=>0<=g/\g<(b:Int)/\∃ i j k l m,af f (Addr.add h ((g).toNat*5)) 0 [.string i,iv j,iv k,iv l,iv m]/\ak f (.cells #[.string (bs []),iv 0,iv 0,iv 0,iv 0] 170) λ h n=>aQ ⟨h,0,none⟩ 0 [.string i,iv j,iv k,iv l,iv m] n λ i=>∃ j,i.cell? ⟨h,0,none⟩=some (.string j)/\Calls prog 167 #[.string j] i λ i j=>∃ k,i=.returned (.bool k)/\cond (!k) (K (iv 5) j) (0<=g/\g<=(c:Int)/\∃ i,j.drew.cell? ⟨h,0,none⟩=some (.string i)/\Calls prog 168 #[.slice (if c=0 then a else Option.map (λ x=>Addr.add x (0*5)) a) ((g).toNat-0) (c-0),.string i] j.drew λ i j=>∃ k l,i=.returned (.tuple #[iv k,.bool l])/\cond l (K (iv 7) j) (∃ i:Bool->World->Prop,(∀ k l,i l k->∀ m:Nat->Value,cond l (K (iv 4) k) (∃ l,l<e/\d (IntKind.i64.wrap (g+1)) k l))/\∃ d,j.cell? ⟨h,1,none⟩=some (iv d)/\Calls prog 169 #[iv d,iv 1,iv 4] j λ d e=>∃ g,d=.returned (.bool g)/\cond (!g) (i true e) (∃ d,e.cell? ⟨h,2,none⟩=some (iv d)/\Calls prog 169 #[iv d,iv 0,iv 1000000] e λ d e=>∃ g,d=.returned (.bool g)/\cond (!g) (i true e) (∃ d,e.cell? ⟨h,3,none⟩=some (iv d)/\Calls prog 169 #[iv d,iv 0,iv 1000] e λ d e=>∃ g,d=.returned (.bool g)/\cond (!g) (i true e) (∃ d,e.cell? ⟨h,4,none⟩=some (iv d)/\Calls prog 169 #[iv d,iv 0,iv 4] e λ d e=>∃ g,d=.returned (.bool g)/\i (!g) e)))))) (Calls prog 148 #[.slice a b c] f λ a b=>∃ (c:I6),a=.returned (.agg c.vs.toArray)/\Calls prog 170 #[.agg c.vs.toArray] b λ a b=>∃ c,a=.returned (iv c)/\cond (c==0) (K (iv 12) b) (K (iv 0) b))))
theorem Fq{a1 l1 c1 w K}(h:G0 a1 l1 c1 w K):CP 137 #[.slice a1 l1 c1] w (K):=ah (ay [(58,[(17,.s (.int .i64))]),(14951,[(57,.s .bool)])]) func137 (by kernel_rfl) (by kernel_rfl) h
def Fx(a:OA)(b c:Nat)(d:ByteArray)(w:World)(K:KP):Prop:=∃ c:Int->World->Nat->Prop,(∃ e,c 0 w e)/\∀ f e g,c g f e->∀ h:Nat->Value,cond (decide (g<(b:Int))) (an a λ a=>0<=g/\g<(b:Int)/\∃ b h i j,af f (Addr.add a ((g).toNat*4)) 0 [.string b,iv h,iv i,iv j]/\ak f (.cells #[.string (bs []),iv 0,iv 0,iv 0] 159) λ a k=>aQ ⟨a,0,none⟩ 0 [.string b,iv h,iv i,iv j] k λ b=>∃ h,b.cell? ⟨a,0,none⟩=some (.string h)/\cond (h.toList==d.toList) (K (.tuple #[iv g,.bool true]) b) (∃ a,a<e/\c (IntKind.i64.wrap (g+1)) b a)) (K (.tuple #[iv 0,.bool false]) f)
theorem Ay{a1 l1 c1 s1 w K}(h:Fx a1 l1 c1 s1 w K):CP 220 #[.slice a1 l1 c1,.string s1] w (K):=ah (ay [(26,[(10,.s (.int .i64))])]) func220 (by kernel_rfl) (by kernel_rfl) h
def G3(a:OA)(b c:Nat)(w:World)(K:KP):Prop:=cond ((b:Int)==(0:Int)) (K (iv 1) w) (cond (decide ((b:Int)>(8:Int))) (K (iv 3) w) (∃ d:Int->World->Nat->Prop,(∃ e,d 0 w e)/\∀ f e g,d g f e->∀ h:Nat->Value,cond (decide (g<(b:Int))) (an a λ h=>0<=g/\g<(b:Int)/\∃ b i j k,af f (Addr.add h ((g).toNat*4)) 0 [.string b,iv i,iv j,iv k]/\ak f (.cells #[.string (bs []),iv 0,iv 0,iv 0] 159) λ h l=>aQ ⟨h,0,none⟩ 0 [.string b,iv i,iv j,iv k] l λ b=>∃ i,b.cell? ⟨h,0,none⟩=some (.string i)/\Calls prog 167 #[.string i] b λ b i=>∃ j,b=.returned (.bool j)/\cond (!j) (K (iv 5) i) (0<=g/\g<=(c:Int)/\∃ b,i.drew.cell? ⟨h,0,none⟩=some (.string b)/\Calls prog 220 #[.slice (if c=0 then a else Option.map (λ x=>Addr.add x (0*4)) a) ((g).toNat-0) (c-0),.string b] i.drew λ a b=>∃ c i,a=.returned (.tuple #[iv c,.bool i])/\cond i (K (iv 7) b) (∃ a:Bool->World->Prop,(∀ c i,a i c->∀ j:Nat->Value,cond i (K (iv 4) c) (∃ i,i<e/\d (IntKind.i64.wrap (g+1)) c i))/\∃ c,b.cell? ⟨h,1,none⟩=some (iv c)/\cond (decide (c<0)) (a true b) (∃ c,b.cell? ⟨h,1,none⟩=some (iv c)/\cond (decide (c>4)) (a true b) (∃ c,b.cell? ⟨h,2,none⟩=some (iv c)/\cond (decide (c<0)) (a true b) (∃ c,b.cell? ⟨h,2,none⟩=some (iv c)/\cond (decide (c>1000000)) (a true b) (∃ c,b.cell? ⟨h,3,none⟩=some (iv c)/\cond (decide (c<0)) (a true b) (∃ c,b.cell? ⟨h,3,none⟩=some (iv c)/\a (decide (c>24000)) b)))))))) (K (iv 0) f)))
theorem Fs{a1 l1 c1 w K}(h:G3 a1 l1 c1 w K):CP 175 #[.slice a1 l1 c1] w (K):=ah (ay [(58,[(17,.s (.int .i64))]),(14951,[(63,.s .bool)])]) func175 (by kernel_rfl) (by kernel_rfl) h
def vm(a:OA)(b c:Nat)(d:OA)(e f:Nat)(g:OA)(h i:Nat)(j:OA)(k l:Nat)(w:World)(K:KP):Prop:=ak w (.cells #[.slice a b c,.slice d e f,.slice g h i,.slice j k l] 100) λ a b=>∃ c d e,b.cell? ⟨a,2,none⟩=some (.slice c d e)/\cond (decide ((d:Int)>(16:Int))) (K (iv 3) b) (∃ c d e,b.cell? ⟨a,2,none⟩=some (.slice c d e)/\∃ e:Int->World->Nat->Prop,(∃ f,e 0 b f)/\∀ b f g,e g b f->∀ h:Nat->Value,cond (decide (g<(d:Int))) (an c λ c=>0<=g/\g<(d:Int)/\∃ d h i,af b (Addr.add c ((g).toNat*3)) 0 [iv d,iv h,iv i]/\ak b (.cells #[iv 0,iv 0,iv 0] 174) λ c j=>aQ ⟨c,0,none⟩ 0 [iv d,iv h,iv i] j λ d=>∃ h:Bool->World->Prop,(∀ i j,h j i->∀ k:Nat->Value,cond j (K (iv 6) i) (∃ j:Bool->World->Prop,(∀ k l,j l k->∀ m:Nat->Value,cond l (K (iv 4) k) (∃ l m n,k.cell? ⟨a,2,none⟩=some (.slice l m n)/\0<=g/\g<=(n:Int)/\∃ m:Int->World->Nat->Prop,(∃ o,m 0 k o)/\∀ k o p,m p k o->∀ q:Nat->Value,cond (decide (p<((((g).toNat-0):Nat):Int))) (an (if n=0 then l else Option.map (λ x=>Addr.add x (0*3)) l) λ l=>0<=p/\p<((((g).toNat-0):Nat):Int)/\∃ n q r,af k (Addr.add l ((p).toNat*3)) 0 [iv n,iv q,iv r]/\ak k (.cells #[iv 0,iv 0,iv 0] 174) λ l s=>aQ ⟨l,0,none⟩ 0 [iv n,iv q,iv r] s λ n=>∃ q:Bool->World->Prop,(∀ r s,q s r->∀ t:Nat->Value,cond s (K (iv 7) r) (∃ s,s<o/\m (IntKind.i64.wrap (p+1)) r s))/\∃ m,n.cell? ⟨l,0,none⟩=some (iv m)/\∃ o,n.cell? ⟨c,0,none⟩=some (iv o)/\cond (m==o) (∃ m,n.cell? ⟨l,1,none⟩=some (iv m)/\∃ l,n.cell? ⟨c,1,none⟩=some (iv l)/\q (m==l) n) (q false n)) (∃ l,l<f/\e (IntKind.i64.wrap (g+1)) k l)))/\∃ e,i.cell? ⟨c,1,none⟩=some (iv e)/\cond (decide (e<0)) (j true i) (∃ e,i.cell? ⟨c,1,none⟩=some (iv e)/\cond (decide (e>4)) (j true i) (∃ e,i.cell? ⟨c,2,none⟩=some (iv e)/\cond (decide (e<0)) (j true i) (∃ e,i.cell? ⟨c,2,none⟩=some (iv e)/\j (decide (e>24)) i)))))/\∃ e,d.cell? ⟨c,0,none⟩=some (iv e)/\cond (decide (e<(-1:Int))) (h true d) (∃ e,d.cell? ⟨c,0,none⟩=some (iv e)/\∃ c f g,d.cell? ⟨a,1,none⟩=some (.slice c f g)/\h (decide (e>=(f:Int))) d)) (K (iv 0) b))
theorem yz{a1 l1 c1 a2 l2 c2 a3 l3 c3 a4 l4 c4 w K}(h:vm a1 l1 c1 a2 l2 c2 a3 l3 c3 a4 l4 c4 w K):CP 176 #[.agg #[.slice a1 l1 c1,.slice a2 l2 c2,.slice a3 l3 c3,.slice a4 l4 c4]] w (K):=ah (ay [(58,[(14,.s (.int .i64))]),(7474,[(29,.s .bool)]),(14950,[(47,.s .bool)]),(59806,[(53,.s (.int .i64))]),(3827609,[(68,.s .bool)])]) func176 (by kernel_rfl) (by kernel_rfl) h
def qm(a:OA)(b c:Nat)(d:OA)(e f:Nat)(g:OA)(h i:Nat)(j:OA)(k l:Nat)(w:World)(K:KP):Prop:=ak w (.cells #[.slice a b c,.slice d e f,.slice g h i,.slice j k l] 100) λ a b=>∃ c d e,b.cell? ⟨a,3,none⟩=some (.slice c d e)/\cond (decide ((d:Int)>(6:Int))) (K (iv 3) b) (∃ c d e,b.cell? ⟨a,3,none⟩=some (.slice c d e)/\∃ e:Int->World->Nat->Prop,(∃ f,e 0 b f)/\∀ b f g,e g b f->∀ h:Nat->Value,cond (decide (g<(d:Int))) (an c λ c=>0<=g/\g<(d:Int)/\∃ d h i,af b (Addr.add c ((g).toNat*3)) 0 [iv d,iv h,iv i]/\ak b (.cells #[iv 0,iv 0,iv 0] 177) λ c j=>aQ ⟨c,0,none⟩ 0 [iv d,iv h,iv i] j λ d=>∃ h:Bool->World->Prop,(∀ i j,h j i->∀ k:Nat->Value,cond j (K (iv 6) i) (∃ j:Bool->World->Prop,(∀ k l,j l k->∀ m:Nat->Value,cond l (K (iv 4) k) (∃ l m n,k.cell? ⟨a,3,none⟩=some (.slice l m n)/\0<=g/\g<=(n:Int)/\∃ m:Int->World->Nat->Prop,(∃ o,m 0 k o)/\∀ k o p,m p k o->∀ q:Nat->Value,cond (decide (p<((((g).toNat-0):Nat):Int))) (an (if n=0 then l else Option.map (λ x=>Addr.add x (0*3)) l) λ l=>0<=p/\p<((((g).toNat-0):Nat):Int)/\∃ n q r,af k (Addr.add l ((p).toNat*3)) 0 [iv n,iv q,iv r]/\ak k (.cells #[iv 0,iv 0,iv 0] 177) λ l s=>aQ ⟨l,0,none⟩ 0 [iv n,iv q,iv r] s λ n=>∃ q,n.cell? ⟨l,0,none⟩=some (iv q)/\∃ l,n.cell? ⟨c,0,none⟩=some (iv l)/\cond (q==l) (K (iv 7) n) (∃ l,l<o/\m (IntKind.i64.wrap (p+1)) n l)) (∃ l,l<f/\e (IntKind.i64.wrap (g+1)) k l)))/\∃ e,i.drew.cell? ⟨c,1,none⟩=some (iv e)/\cond (decide (e<1)) (j true i.drew) (∃ e,i.drew.cell? ⟨c,1,none⟩=some (iv e)/\cond (decide (e>4)) (j true i.drew) (∃ e,i.drew.cell? ⟨c,2,none⟩=some (iv e)/\cond (decide (e<1)) (j true i.drew) (∃ e,i.drew.cell? ⟨c,2,none⟩=some (iv e)/\∃ f g k,i.drew.cell? ⟨a,0,none⟩=some (.slice f g k)/\∃ k,i.drew.cell? ⟨c,0,none⟩=some (iv k)/\an f λ f=>0<=k/\k<(g:Int)/\∃ g,i.drew.cell? (Addr.add (Addr.add f ((k).toNat*5)) 1)=some (iv g)/\j (decide (e>g)) i.drew)))))/\∃ e,d.cell? ⟨c,0,none⟩=some (iv e)/\cond (decide (e<0)) (h true d) (∃ e,d.cell? ⟨c,0,none⟩=some (iv e)/\∃ c f g,d.cell? ⟨a,0,none⟩=some (.slice c f g)/\h (decide (e>=(f:Int))) d)) (K (iv 0) b))
theorem uo{a1 l1 c1 a2 l2 c2 a3 l3 c3 a4 l4 c4 w K}(h:qm a1 l1 c1 a2 l2 c2 a3 l3 c3 a4 l4 c4 w K):CP 177 #[.agg #[.slice a1 l1 c1,.slice a2 l2 c2,.slice a3 l3 c3,.slice a4 l4 c4]] w (K):=ah (ay [(58,[(14,.s (.int .i64))]),(7474,[(29,.s .bool)]),(14950,[(54,.s .bool)]),(59806,[(60,.s (.int .i64))])]) func177 (by kernel_rfl) (by kernel_rfl) h
def G4(a:OA)(b c:Nat)(d:OA)(e f:Nat)(g:OA)(h i:Nat)(j:OA)(k l:Nat)(w:World)(K:KP):Prop:=ak w (.cells #[.slice a b c,.slice d e f,.slice g h i,.slice j k l] 100) λ a b=>∃ c d e,b.cell? ⟨a,0,none⟩=some (.slice c d e)/\Calls prog 137 #[.slice c d e] b λ b c=>∃ d,b=.returned (iv d)/\cond (d !=0) (K (iv d) c) (∃ b d e,c.cell? ⟨a,1,none⟩=some (.slice b d e)/\Calls prog 175 #[.slice b d e] c λ b c=>∃ d,b=.returned (iv d)/\cond (d !=0) (K (iv d) c) (∃ b d e f g h i j k l m n,af c ⟨a,0,none⟩ 0 [.slice b d e,.slice f g h,.slice i j k,.slice l m n]/\Calls prog 176 #[.agg #[.slice b d e,.slice f g h,.slice i j k,.slice l m n]] c λ b c=>∃ d,b=.returned (iv d)/\cond (d !=0) (K (iv d) c) (∃ b d e f g h i j k l m n,af c ⟨a,0,none⟩ 0 [.slice b d e,.slice f g h,.slice i j k,.slice l m n]/\Calls prog 177 #[.agg #[.slice b d e,.slice f g h,.slice i j k,.slice l m n]] c λ a b=>∃ c,a=.returned (iv c)/\K (iv c) b)))
theorem Ft{a1 l1 c1 a2 l2 c2 a3 l3 c3 a4 l4 c4 w K}(h:G4 a1 l1 c1 a2 l2 c2 a3 l3 c3 a4 l4 c4 w K):CP 140 #[.agg #[.slice a1 l1 c1,.slice a2 l2 c2,.slice a3 l3 c3,.slice a4 l4 c4]] w (K):=ah (ay []) func140 (by kernel_rfl) (by kernel_rfl) h
def Np(n:Int):Bool:=decide (97<=n)&&decide (n<=122)
def vK(n:Int):Bool:=decide (48<=n)&&decide (n<=57)
def inr(n:Int):Bool:=Np n||(vK n||(n==95))
def un(c:UInt8):Int:=(c.toNat:Int)
def eW(l:List UInt8):Bool:=!l.isEmpty&&(decide (l.length<=12)&&((l.head?.map λ c=>Np (un c)).getD false&&l.all λ c=>inr (un c)))
theorem wrap32(c:UInt8):IntKind.i32.wrap (c.toNat:Int)=un c:=by
  have:=c.toNat_lt;simp only[IntKind.wrap,IntKind.signed,IntKind.bits,un]
  simp
  omega
theorem yl(w:World)(n:Int):CP 214 #[.int .i32 n] w (λ r w'=>r=.bool (Np n)/\w' = w):=by
  refine DV ?_;unfold DU
  by_cases h:97<=n
  · exact cT (by simpa using h) ⟨by simp[Np,h],rfl⟩
  · exact cF (by simpa using h) ⟨by simp[Np,h],rfl⟩
theorem BC(w:World)(n:Int):CP 259 #[.int .i32 n] w (λ r w'=>r=.bool (vK n)/\w' = w):=by
  refine Fv ?_;unfold G6
  by_cases h:48<=n
  · exact cT (by simpa using h) ⟨by simp[vK,h],rfl⟩
  · exact cF (by simpa using h) ⟨by simp[vK,h],rfl⟩
theorem GK(w:World)(n:Int):CP 216 #[.int .i32 n] w (λ r w'=>r=.bool (inr n)/\w' = w):=by
  refine Fy ?_;unfold G7;refine aj (yl w n) ?_;rintro v w1 ⟨rfl,rfl⟩;refine⟨_,rfl,?_⟩
  cases h1:Np n with
  | true=>exact cT rfl ⟨by simp[inr,h1],rfl⟩
  | false =>
    refine cF rfl (aj (BC w1 n) ?_);rintro v w2 ⟨rfl,rfl⟩;refine⟨_,rfl,?_⟩
    cases h2:vK n with
    | true=>exact cT rfl ⟨by simp[inr,h1,h2],rfl⟩
    | false=>exact cF rfl ⟨by simp[inr,h1,h2],rfl⟩
theorem L0{l:List UInt8}{p:UInt8->Bool}{k:Nat}(h:(l.take k).all p=true)(hk:k<=l.length)(he:k=l.length\/∃ c,l[k]? = some c/\p c=false):(l.take k==l)=l.all p:=by
  rcases he with rfl | ⟨c,hc,hp⟩
  · rw[List.take_length] at h ⊢; rw[h]; simp
  · have hlt:=(List.getElem?_eq_some_iff.1 hc).1;have h1:l.all p=false:=by
      rw[List.all_eq_false];exact⟨c,List.mem_of_getElem? hc,by simp[hp]⟩
    rw[h1];simp only[beq_eq_false_iff_ne,ne_eq];intro e;have:=congrArg List.length e;rw[List.length_take] at this;omega
theorem CM{l:List UInt8}{p:UInt8->Bool}{k:Nat}{c:UInt8}(h:(l.take k).all p=true)(hc:l[k]? = some c)(hp:p c=true):(l.take (k+1)).all p=true:=by
  rw[aL hc,List.all_append,h]; simp[hp]
theorem Sg(w:World){l:List UInt8}(hl:l.length<=9223372036854775806):CP 215 #[sv l,iv 0,.func (.func 216) #[] #[]] w (λ r w'=>∃ k,r=sv (l.take k)/\(l.take k==l)=(l.all λ c=>inr (un c))/\w' = w):=by
  refine DW ?_;unfold K6;refine⟨λ n w1 m=>∃ k:Nat,n=k/\k<=l.length/\m=l.length-k/\(l.take k).all (λ c=>inr (un c))=true/\w1=w,⟨l.length,0,rfl,by omega,by omega,by simp,rfl⟩,?_⟩;rintro w1 m n ⟨k,rfl,hk,hm,ha,rfl⟩ -;refine⟨λ b w2=>w2=w1/\((b=true/\∃ c,l[k]? = some c/\inr (un c)=true)\/(b=false/\(k=l.length\/∃ c,l[k]? = some c/\inr (un c)=false))),?_,?_⟩
  · rintro w2 b ⟨rfl,h⟩ -;rcases h with⟨rfl,c,hc,hp⟩ | ⟨rfl,he⟩
    · have hlt:=(List.getElem?_eq_some_iff.1 hc).1;exact cT rfl ⟨l.length-(k+1),by omega,k+1,by rw[aC ⟨by omega,by omega⟩]; rfl,by omega,rfl,CM (p:=λ c=>inr (un c)) ha hc hp,rfl⟩
    · refine cF rfl ⟨by omega,by rw[fm]; omega,by omega,by omega,k,?_,L0 ha hk he,rfl⟩;show Value.string ((bs l).extract (0:Int).toNat ((k:Int)).toNat)=_;rw[show(0:Int).toNat=0 from rfl,Int.toNat_natCast,JG]
  · by_cases hlt:(k:Int)<(l.length:Int)
    · have hc:l[k]? = some (l[k]'(by omega)):=gE (by omega);generalize l[k]'(by omega)=c at hc;refine cT (by rw[fm]; simpa using hlt) ⟨by omega,?_⟩;rw[Int.toNat_natCast,jY,hc]
      change cC prog (.func (.func 216) #[] #[]) #[.int .i32 (IntKind.i32.wrap (c.toNat:Int))] w1 _
      refine bx (by kernel_rfl) ?_;rw[wrap32];refine aj (GK w1 (un c)) ?_;rintro v w3 ⟨rfl,rfl⟩;refine⟨_,rfl,rfl,?_⟩
      cases hp:inr (un c) with
      | true=>exact .inl ⟨rfl,c,rfl,hp⟩
      | false=>exact .inr ⟨rfl,.inr ⟨c,rfl,hp⟩⟩
    · exact cF (by rw[fm]; simpa using hlt) ⟨rfl,.inr ⟨rfl,.inl (by omega)⟩⟩
theorem yb(w:World)(l:List UInt8):CP 167 #[sv l] w (λ r w'=>r=.bool (eW l)/\w' = w):=by
  refine DT ?_;unfold DS
  cases l with
  | nil=>exact cF (by rw[ia]; rfl) ⟨rfl,rfl⟩
  | cons c l =>
    refine cT (by rw[ia,ia]; rfl) ?_
    by_cases h12:(c :: l).length<=12
    · refine cT (by rw[fm]; exact dT (by omega)) ⟨by omega,?_⟩;rw[show(0:Int).toNat=0 from rfl,jY];show an (some c) _;rw[an,wrap32];refine aj (yl w (un c)) ?_;rintro v w1 ⟨rfl,rfl⟩;refine⟨_,rfl,?_⟩
      cases h1:Np (un c) with
      | false=>exact cF rfl ⟨by simp[eW,h1],rfl⟩
      | true =>
        refine cT rfl (aj (Sg w1 (by omega)) ?_);rintro v w2 ⟨k,rfl,hk,rfl⟩;refine⟨_,rfl,?_,rfl⟩;rw[ia,ia,hk];have e:eW (c :: l)=(c :: l).all λ c=>inr (un c):=by
          unfold eW;simp only[List.isEmpty_cons,Bool.not_false,Bool.true_and,List.head?_cons,Option.map_some,Option.getD_some,h1];rw[dT h12]; rfl
        rw[e]
    · refine cF (by rw[fm]; exact dF (by omega)) ⟨?_,rfl⟩;simp only[eW,dF h12]
      simp
def sC(a:ByteArray)(w:World)(K:KP):Prop:=cond (decide (((a.size:Nat):Int)>(4000:Int))) (K (.tuple #[.slice none 0 0,iv 3]) w) (∃ b:OA->Nat->Nat->Int->World->Nat->Prop,(∃ c,b none 0 0 0 w c)/\∀ d c e f g h,b e f g h d c->∀ i:Nat->Value,cond (decide (h<((a.size:Nat):Int))) (0<=h/\an a[(h).toNat]? λ i=>cond ((i.toNat:Int)==(32:Int)) (∃ i,i<c/\b e f g (IntKind.i64.wrap (h+1)) d i) (Calls prog 231 #[.string a,iv h] d λ a j=>∃ k l m n o,a=.returned (.tuple #[.agg #[iv k,.string l,iv m,iv n],iv o])/\ak j (.cells #[iv 0,.string (bs []),iv 0,iv 0] 357) λ a j=>aQ ⟨a,0,none⟩ 0 [iv k,.string l,iv m,iv n] j λ j=>cond (o !=0) (K (.tuple #[.slice none 0 0,iv o]) j) (∃ k l m n,af j ⟨a,0,none⟩ 0 [iv k,.string l,iv m,iv n]/\ak j (.cells #[iv k,.string l,iv m,iv n] 357) λ j k=>aZ prog (Builtin.append_ #[310,310] 310 #[.slice e f g,.slice (some ⟨j,0,none⟩) 1 1]) k λ j k=>∃ l m n,j=(.slice l m n)/\∃ j,k.cell? ⟨a,1,none⟩=some (.string j)/\∃ i,i<c/\b l m n (IntKind.i64.wrap (h+((j.size:Nat):Int))) k i))) (K (.tuple #[.slice e f g,iv 0]) d))
theorem vW{s1 w K}(h:sC s1 w K):CP 195 #[.string s1] w (K):=ah (ay [(122,[(4,.s .slice),(5,.s (.int .i64))])]) func195 (by kernel_rfl) (by kernel_rfl) h
def kF(a:OA)(b c:Nat)(w:World)(K:KP):Prop:=aZ prog (Builtin.append_ #[310,310] 310 #[.slice none 0 0,.slice a b c]) w λ a b=>∃ c d e,a=(.slice c d e)/\ak b (.cells #[.slice c d e,iv 0] 361) λ a b=>K (.pointer (some ⟨a,0,none⟩)) b
theorem pV{a1 l1 c1 w K}(h:kF a1 l1 c1 w K):CP 196 #[.slice a1 l1 c1] w (K):=ah (ay []) func196 (by kernel_rfl) (by kernel_rfl) h
def jE(a:Nat)(w:World)(K:KP):Prop:=∃ b:Bool->World->Prop,(∀ c d,b d c->∀ e:Nat->Value,cond d (K (iv 3) c) (Calls prog 241 #[.pointer (some ⟨a,0,none⟩)] c λ c d=>∃ e,c=.returned (iv e)/\K (iv e) d))/\∃ c,w.cell? ⟨a,1,none⟩=some (iv c)/\cond (c==0) (∃ c d e,w.cell? ⟨a,0,none⟩=some (.slice c d e)/\b (decide ((d:Int)>(0:Int))) w) (b false w)
theorem oa{b1 w K}(h:jE b1 w K):CP 198 #[.pointer (some ⟨b1,0,none⟩)] w (K):=ah (ay [(6,[(19,.s .bool)])]) func198 (by kernel_rfl) (by kernel_rfl) h
def Ao(a:ByteArray)(b:Int)(w:World)(K:KP):Prop:=ak w (.cells #[iv 0,.string (bs []),iv 0,iv 0] 357) λ c d=>ak d (.cells #[iv 0,.string (bs []),iv 0,iv 0] 357) λ d e=>aQ ⟨d,0,none⟩ 0 [iv 0,.string (bs []),iv 0,iv b] e λ e=>∃ f:World->Prop,(∀ g,f g->∀ h:Nat->Value,∃ h i j k,af g ⟨d,0,none⟩ 0 [iv h,.string i,iv j,iv k]/\aQ ⟨c,0,none⟩ 0 [iv h,.string i,iv j,iv k] g λ g=>∃ h i j k,af g ⟨c,0,none⟩ 0 [iv h,.string i,iv j,iv k]/\K (.tuple #[.agg #[iv h,.string i,iv j,iv k],iv 0]) g)/\0<=b/\an a[(b).toNat]? λ g=>Calls prog 214 #[.int .i32 (IntKind.i32.wrap (g.toNat:Int))] e λ e h=>∃ i,e=.returned (.bool i)/\cond i (Calls prog 215 #[.string a,iv b,.func (.func 216) #[] #[]] h λ e i=>∃ j,e=.returned (.string j)/\aN i ⟨d,0,none⟩ (iv 1) λ e=>aN e ⟨d,1,none⟩ (.string j) λ e=>∃ i,e.cell? ⟨d,1,none⟩=some (.string i)/\cond (decide (((i.size:Nat):Int)>(12:Int))) (aQ ⟨c,0,none⟩ 0 [iv 0,.string (bs []),iv 0,iv 0] e λ i=>∃ j k l m,af i ⟨c,0,none⟩ 0 [iv j,.string k,iv l,iv m]/\K (.tuple #[.agg #[iv j,.string k,iv l,iv m],iv 3]) i) (f e)) (Calls prog 259 #[.int .i32 (IntKind.i32.wrap (g.toNat:Int))] h λ e h=>∃ i,e=.returned (.bool i)/\cond i (Calls prog 215 #[.string a,iv b,.func (.func 259) #[] #[]] h λ e i=>∃ j,e=.returned (.string j)/\aN i ⟨d,0,none⟩ (iv 2) λ e=>aN e ⟨d,1,none⟩ (.string j) λ e=>∃ i,e.cell? ⟨d,1,none⟩=some (.string i)/\Calls prog 270 #[.string i] e λ e i=>∃ j k,e=.returned (.tuple #[iv j,iv k])/\cond (k !=0) (aQ ⟨c,0,none⟩ 0 [iv 0,.string (bs []),iv 0,iv 0] i λ e=>∃ l m n o,af e ⟨c,0,none⟩ 0 [iv l,.string m,iv n,iv o]/\K (.tuple #[.agg #[iv l,.string m,iv n,iv o],iv k]) e) (aN i ⟨d,2,none⟩ (iv j) λ e=>f e)) (Calls prog 271 #[.string (bs [123,125,40,41,44,58,64,43,45,61]),.int .i32 (IntKind.i32.wrap (g.toNat:Int))] h λ e g=>∃ h,e=.returned (.bool h)/\cond h (0<=(IntKind.i64.wrap (b+1))/\(IntKind.i64.wrap (b+1))<=((a.size:Nat):Int)/\0<=b/\b<=((((IntKind.i64.wrap (b+1))).toNat:Nat):Int)/\aN g.drew ⟨d,0,none⟩ (iv 3) λ e=>aN e ⟨d,1,none⟩ (.string (a.extract ((b).toNat) (((IntKind.i64.wrap (b+1))).toNat))) λ a=>f a) (aQ ⟨c,0,none⟩ 0 [iv 0,.string (bs []),iv 0,iv 0] g λ a=>∃ b d e f,af a ⟨c,0,none⟩ 0 [iv b,.string d,iv e,iv f]/\K (.tuple #[.agg #[iv b,.string d,iv e,iv f],iv 2]) a)))
theorem BX{s1 n1 w K}(h:Ao s1 n1 w K):CP 231 #[.string s1,iv n1] w (K):=ah (ay [(7,[])]) func231 (by kernel_rfl) (by kernel_rfl) h
def iU(a:Nat)(w:World)(K:KP):Prop:=ak w (.cells #[iv 0,.string (bs []),iv 0,iv 0] 357) λ b c=>∃ d:Bool->World->Prop,(∀ e f,d f e->∀ g:Nat->Value,cond f (aQ ⟨b,0,none⟩ 0 [iv 0,.string (bs []),iv 0,iv 0] e λ f=>∃ g h i j,af f ⟨b,0,none⟩ 0 [iv g,.string h,iv i,iv j]/\K (.agg #[iv g,.string h,iv i,iv j]) f) (∃ f g h,e.cell? ⟨a,0,none⟩=some (.slice f g h)/\an f λ f=>0<=(0:Int)/\(0:Int)<(g:Int)/\∃ g h i j,af e (Addr.add f (((0:Int)).toNat*4)) 0 [iv g,.string h,iv i,iv j]/\aQ ⟨b,0,none⟩ 0 [iv g,.string h,iv i,iv j] e λ e=>∃ f g h i,af e ⟨b,0,none⟩ 0 [iv f,.string g,iv h,iv i]/\K (.agg #[iv f,.string g,iv h,iv i]) e))/\∃ b,c.cell? ⟨a,1,none⟩=some (iv b)/\cond (b !=0) (d true c) (∃ b e f,c.cell? ⟨a,0,none⟩=some (.slice b e f)/\d ((e:Int)==(0:Int)) c)
theorem nj{b1 w K}(h:iU b1 w K):CP 232 #[.pointer (some ⟨b1,0,none⟩)] w (K):=ah (ay [(6,[(19,.s .bool)])]) func232 (by kernel_rfl) (by kernel_rfl) h
def iR(a:Nat)(b:Int)(w:World)(K:KP):Prop:=∃ c:Bool->World->Prop,(∀ d e,c e d->∀ f:Nat->Value,cond e (aN d ⟨a,1,none⟩ (iv b) λ b=>K (.tuple #[]) b) (K (.tuple #[]) d))/\∃ b,w.cell? ⟨a,1,none⟩=some (iv b)/\c (b==0) w
theorem mZ{b1 n1 w K}(h:iR b1 n1 w K):CP 234 #[.pointer (some ⟨b1,0,none⟩),iv n1] w (K):=ah (ay [(1,[(12,.s .bool)])]) func234 (by kernel_rfl) (by kernel_rfl) h
def iT(a:Nat)(w:World)(K:KP):Prop:=ak w (.cells #[iv 0,.string (bs []),iv 0,iv 0] 357) λ b c=>Calls prog 232 #[.pointer (some ⟨a,0,none⟩)] c λ c d=>∃ e f g h,c=.returned (.agg #[iv e,.string f,iv g,iv h])/\ak d (.cells #[iv 0,.string (bs []),iv 0,iv 0] 357) λ c d=>aQ ⟨c,0,none⟩ 0 [iv e,.string f,iv g,iv h] d λ d=>∃ e:World->Prop,(∀ f,e f->∀ g:Nat->Value,∃ g h i j,af f ⟨c,0,none⟩ 0 [iv g,.string h,iv i,iv j]/\aQ ⟨b,0,none⟩ 0 [iv g,.string h,iv i,iv j] f λ c=>∃ f g h i,af c ⟨b,0,none⟩ 0 [iv f,.string g,iv h,iv i]/\K (.agg #[iv f,.string g,iv h,iv i]) c)/\∃ b:Bool->World->Prop,(∀ c f,b f c->∀ g:Nat->Value,cond f (∃ f g h,c.cell? ⟨a,0,none⟩=some (.slice f g h)/\0<=(1:Int)/\(1:Int)<=(g:Int)/\aN c ⟨a,0,none⟩ (.slice (if h=((1:Int)).toNat then f else Option.map (λ x=>Addr.add x (((1:Int)).toNat*4)) f) (g-((1:Int)).toNat) (h-((1:Int)).toNat)) λ f=>e f) (e c))/\∃ c,d.cell? ⟨a,1,none⟩=some (iv c)/\cond (c==0) (∃ c e f,d.cell? ⟨a,0,none⟩=some (.slice c e f)/\b (decide ((e:Int)>(0:Int))) d) (b false d)
theorem nh{b1 w K}(h:iT b1 w K):CP 236 #[.pointer (some ⟨b1,0,none⟩)] w (K):=ah (ay [(7,[]),(14,[(22,.s .bool)])]) func236 (by kernel_rfl) (by kernel_rfl) h
def gw(a:Nat)(b:ByteArray)(w:World)(K:KP):Prop:=Calls prog 239 #[.pointer (some ⟨a,0,none⟩),.string b] w λ b c=>∃ d,b=.returned (.bool d)/\cond (!d) (Calls prog 273 #[.pointer (some ⟨a,0,none⟩)] c λ a b=>a=.returned (.tuple #[])/\K (.tuple #[]) b) (K (.tuple #[]) c)
theorem kI{b1 s1 w K}(h:gw b1 s1 w K):CP 237 #[.pointer (some ⟨b1,0,none⟩),.string s1] w (K):=ah (ay []) func237 (by kernel_rfl) (by kernel_rfl) h
def gr(a:Nat)(b:ByteArray)(w:World)(K:KP):Prop:=Calls prog 232 #[.pointer (some ⟨a,0,none⟩)] w λ c d=>∃ e f g h,c=.returned (.agg #[iv e,.string f,iv g,iv h])/\ak d (.cells #[iv 0,.string (bs []),iv 0,iv 0] 357) λ c d=>aQ ⟨c,0,none⟩ 0 [iv e,.string f,iv g,iv h] d λ d=>∃ e:Bool->World->Prop,(∀ f g,e g f->∀ h:Nat->Value,cond g (K (.bool false) f) (Calls prog 236 #[.pointer (some ⟨a,0,none⟩)] f λ a f=>∃ g h i j,a=.returned (.agg #[iv g,.string h,iv i,iv j])/\K (.bool true) f))/\∃ a,d.cell? ⟨c,0,none⟩=some (iv a)/\cond (a !=3) (e true d) (∃ a,d.cell? ⟨c,1,none⟩=some (.string a)/\e (!(a.toList==b.toList)) d)
theorem kG{b1 s1 w K}(h:gr b1 s1 w K):CP 239 #[.pointer (some ⟨b1,0,none⟩),.string s1] w (K):=ah (ay [(13,[(16,.s .bool)])]) func239 (by kernel_rfl) (by kernel_rfl) h
def gu(a:Nat)(b:Int)(w:World)(K:KP):Prop:=Calls prog 232 #[.pointer (some ⟨a,0,none⟩)] w λ c d=>∃ e f g h,c=.returned (.agg #[iv e,.string f,iv g,iv h])/\ak d (.cells #[iv 0,.string (bs []),iv 0,iv 0] 357) λ c d=>aQ ⟨c,0,none⟩ 0 [iv e,.string f,iv g,iv h] d λ d=>∃ e,d.cell? ⟨c,0,none⟩=some (iv e)/\cond (e !=2) (Calls prog 273 #[.pointer (some ⟨a,0,none⟩)] d λ e f=>e=.returned (.tuple #[])/\K (iv 0) f) (∃ e:Bool->World->Prop,(∀ f g,e g f->∀ h:Nat->Value,cond g (Calls prog 234 #[.pointer (some ⟨a,0,none⟩),iv 4] f λ g h=>g=.returned (.tuple #[])/\K (iv 0) h) (Calls prog 236 #[.pointer (some ⟨a,0,none⟩)] f λ a f=>∃ g h i j,a=.returned (.agg #[iv g,.string h,iv i,iv j])/\∃ a,f.cell? ⟨c,2,none⟩=some (iv a)/\K (iv a) f))/\∃ a,d.cell? ⟨c,2,none⟩=some (iv a)/\cond (decide (a<0)) (e true d) (∃ a,d.cell? ⟨c,2,none⟩=some (iv a)/\e (decide (a>b)) d))
theorem kH{b1 n1 w K}(h:gu b1 n1 w K):CP 240 #[.pointer (some ⟨b1,0,none⟩),iv n1] w (K):=ah (ay [(115,[(14,.s .bool)])]) func240 (by kernel_rfl) (by kernel_rfl) h
def jF(a:Nat)(w:World)(K:KP):Prop:=∃ b,w.cell? ⟨a,1,none⟩=some (iv b)/\K (iv b) w
theorem ob{b1 w K}(h:jF b1 w K):CP 241 #[.pointer (some ⟨b1,0,none⟩)] w (K):=ah (ay []) func241 (by kernel_rfl) (by kernel_rfl) h
def sD(a:ByteArray)(w:World)(K:KP):Prop:=∃ b:Bool->World->Prop,(∀ c d,b d c->∀ e:Nat->Value,cond d (K (.tuple #[iv 0,iv 2]) c) (cond (decide (((a.size:Nat):Int)>(9:Int))) (K (.tuple #[iv 0,iv 4]) c) (∃ d:Int->Int->World->Nat->Prop,(∃ e,d 0 (0:Int) c e)/\∀ c e f g,d f g c e->∀ h:Nat->Value,cond (decide (g<((a.size:Nat):Int))) (0<=g/\an a[(g).toNat]? λ h=>∃ i,i<e/\d (IntKind.i64.wrap ((IntKind.i64.wrap ((10:Int)*f))+(IntKind.i64.wrap (IntKind.u8.wrap ((h.toNat:Int)-(48:Int)))))) (IntKind.i64.wrap (g+1)) c i) (K (.tuple #[iv f,iv 0]) c))))/\cond (decide (((a.size:Nat):Int)>(1:Int))) (0<=(0:Int)/\an a[((0:Int)).toNat]? λ a=>b ((a.toNat:Int)==(48:Int)) w) (b false w)
theorem vX{s1 w K}(h:sD s1 w K):CP 270 #[.string s1] w (K):=ah (ay [(12,[(6,.s .bool)]),(122,[(4,.s (.int .i64)),(21,.s (.int .i64))])]) func270 (by kernel_rfl) (by kernel_rfl) h
def gU(a:Nat)(w:World)(K:KP):Prop:=∃ b:World->Prop,(∀ c,b c->∀ d:Nat->Value,Calls prog 234 #[.pointer (some ⟨a,0,none⟩),iv 2] c λ c d=>c=.returned (.tuple #[])/\K (.tuple #[]) d)/\∃ c d e,w.cell? ⟨a,0,none⟩=some (.slice c d e)/\cond ((d:Int)==(0:Int)) (Calls prog 234 #[.pointer (some ⟨a,0,none⟩),iv 1] w λ a c=>a=.returned (.tuple #[])/\b c) (b w)
theorem lP{b1 w K}(h:gU b1 w K):CP 273 #[.pointer (some ⟨b1,0,none⟩)] w (K):=ah (ay [(3,[])]) func273 (by kernel_rfl) (by kernel_rfl) h
def iS(a:Nat)(w:World)(K:KP):Prop:=Calls prog 232 #[.pointer (some ⟨a,0,none⟩)] w λ b c=>∃ d e f g,b=.returned (.agg #[iv d,.string e,iv f,iv g])/\ak c (.cells #[iv 0,.string (bs []),iv 0,iv 0] 357) λ b c=>aQ ⟨b,0,none⟩ 0 [iv d,.string e,iv f,iv g] c λ c=>∃ d,c.cell? ⟨b,0,none⟩=some (iv d)/\cond (d !=1) (Calls prog 273 #[.pointer (some ⟨a,0,none⟩)] c λ d e=>d=.returned (.tuple #[])/\K (.string (bs [])) e) (Calls prog 236 #[.pointer (some ⟨a,0,none⟩)] c λ a c=>∃ d e f g,a=.returned (.agg #[iv d,.string e,iv f,iv g])/\∃ a,c.cell? ⟨b,1,none⟩=some (.string a)/\K (.string a) c)
theorem ng{b1 w K}(h:iS b1 w K):CP 310 #[.pointer (some ⟨b1,0,none⟩)] w (K):=ah (ay []) func310 (by kernel_rfl) (by kernel_rfl) h
theorem Pg{p:UInt8->Bool}:∀ {l:List UInt8} {k:Nat},(l.take k).all p=true->k<=l.length->(k=l.length\/∃ c,l[k]? = some c/\p c=false)->l.take k=l.takeWhile p
  | [],k,_,hk,_=>by simp
  | c :: l,0,_,_,he=>by
    rcases he with h | ⟨d,hd,hp⟩
    · simp at h
    · simp at hd; subst hd; simp[hp]
  | c :: l,k+1,h,hk,he=>by
    simp only[List.take_succ_cons,List.all_cons,Bool.and_eq_true] at h;rw[List.take_succ_cons,List.takeWhile_cons,if_pos h.1,Pg h.2 (by simpa using hk) (he.imp (λ h=>by simpa using h) (λ h=>by simpa using h))]
theorem Lt(w:World){l:List UInt8}(hl:l.length<=9223372036854775806){v:Value}{p:UInt8->Bool}(hv:∀ (w' : World) (c:UInt8) (R:Ending->World->Prop),R (.returned (.bool (p c))) w'->cC prog v #[.int .i32 (un c)] w' R){n:Nat}(hn:n<=l.length) :
    CP 215 #[sv l,iv n,v] w (λ r w'=>r=sv ((l.drop n).takeWhile p)/\w' = w):=by
  refine DW ?_;unfold K6;refine⟨λ i w1 m=>∃ k:Nat,i=((n+k:Nat):Int)/\k<=(l.drop n).length/\m=(l.drop n).length-k/\((l.drop n).take k).all p=true/\w1=w,⟨(l.drop n).length,0,rfl,by omega,by omega,by simp,rfl⟩,?_⟩;rintro w1 m i ⟨k,rfl,hk,hm,ha,rfl⟩ -;have hd:(l.drop n).length=l.length-n:=List.length_drop;refine⟨λ b w2=>w2=w1/\((b=true/\∃ c,(l.drop n)[k]? = some c/\p c=true)\/(b=false/\(k=(l.drop n).length\/∃ c,(l.drop n)[k]? = some c/\p c=false))),?_,?_⟩
  · rintro w2 b ⟨rfl,h⟩ -;rcases h with⟨rfl,c,hc,hp⟩ | ⟨rfl,he⟩
    · have hlt:=(List.getElem?_eq_some_iff.1 hc).1;exact cT rfl ⟨(l.drop n).length-(k+1),by omega,k+1,by rw[aC ⟨by omega,by omega⟩]; omega,by omega,rfl,CM (p:=p) ha hc hp,rfl⟩
    · refine cF rfl ⟨by omega,by rw[fm]; omega,by omega,by omega,?_,rfl⟩;show Value.string ((bs l).extract ((n:Int)).toNat (((n+k:Nat):Int)).toNat)=_;rw[Int.toNat_natCast,Int.toNat_natCast,Bn,Nat.add_sub_cancel_left,Pg ha hk he]
  · by_cases hlt:k<(l.drop n).length
    · have hc:(l.drop n)[k]? = some ((l.drop n)[k]'hlt):=gE hlt;generalize(l.drop n)[k]'hlt=c at hc;refine cT (by rw[fm]; exact dT (by omega)) ⟨by omega,?_⟩;rw[Int.toNat_natCast,jY,<- List.getElem?_drop,hc];show an (some c) _;rw[an,wrap32];refine hv _ _ _ ⟨_,rfl,rfl,?_⟩
      cases hp:p c with
      | true=>exact .inl ⟨rfl,c,rfl,hp⟩
      | false=>exact .inr ⟨rfl,.inr ⟨c,rfl,hp⟩⟩
    · exact cF (by rw[fm]; exact dF (by omega)) ⟨rfl,.inr ⟨rfl,.inl (by omega)⟩⟩
theorem Nc(w' : World)(c:UInt8)(R:Ending->World->Prop)(h:R (.returned (.bool (inr (un c)))) w'):cC prog (.func (.func 216) #[] #[]) #[.int .i32 (un c)] w' R:=by
  refine bx (by kernel_rfl) (aj (GK w' (un c)) ?_);rintro v w3 ⟨rfl,rfl⟩; exact h
theorem MU(w' : World)(c:UInt8)(R:Ending->World->Prop)(h:R (.returned (.bool (vK (un c)))) w'):cC prog (.func (.func 259) #[] #[]) #[.int .i32 (un c)] w' R:=by
  refine bx (by kernel_rfl) (aj (BC w' (un c)) ?_);rintro v w3 ⟨rfl,rfl⟩; exact h
def DN(l:List UInt8):Int:=l.foldl (λ n c=>10*n+(un c-48)) 0
theorem At(l:List UInt8)(c:UInt8):DN (l++[c])=10*DN l+(un c-48):=by simp[DN]
theorem Nw:∀ (k:Nat) (l:List UInt8),l.length<=k->(l.all λ c=>vK (un c))=true->0<=DN l/\DN l<10 ^ k:=by
  intro k
  induction k with
  | zero=>intro l hl _; obtain rfl:=List.length_eq_zero_iff.1 (by omega:l.length=0); exact⟨by decide,by decide⟩
  | succ k ih =>
    intro l hl ha;rcases List.eq_nil_or_concat l with rfl | ⟨l',c,rfl⟩
    · refine⟨by decide,?_⟩;show(0:Int)<10 ^ (k+1);exact Int.pow_pos (by decide)
    · rw[List.concat_eq_append] at hl ha ⊢;rw[List.all_append,Bool.and_eq_true] at ha;rw[List.length_append,List.length_singleton] at hl;have h1:=ih l' (by omega) ha.1;have h2:vK (un c)=true:=by simpa using ha.2
      simp only[vK,Bool.and_eq_true,decide_eq_true_eq] at h2;rw[At,Int.pow_succ];omega
def vZ(l:List UInt8):Int×Int:=if 1<l.length/\l.head? = some 48 then (0,2) else if 9<l.length then (0,4) else (DN l,0)
theorem KX(w:World){l:List UInt8}(hd:(l.all λ c=>vK (un c))=true)(hl:l.length<=10000):CP 270 #[sv l] w (λ r w'=>r=.tuple #[iv (vZ l).1,iv (vZ l).2]/\w' = w):=by
  refine vX ?_;unfold sD;refine⟨λ b w1=>b=decide (1<l.length/\l.head? = some 48)/\w1=w,?_,?_⟩
  · rintro w1 b ⟨rfl,rfl⟩ -
    by_cases h:1<l.length/\l.head? = some 48
    · exact cT (dT h) ⟨by rw[vZ,if_pos h],rfl⟩
    refine cF (dF h) ?_
    by_cases h9:9<l.length
    · exact cT (by rw[fm]; exact dT (by omega)) ⟨by rw[vZ,if_neg h,if_pos h9],rfl⟩
    refine cF (by rw[fm]; exact dF (by omega)) ?_;refine⟨λ n i w2 m=>∃ k:Nat,i=k/\k<=l.length/\m=l.length-k/\n=DN (l.take k)/\w2=w1,⟨l.length,0,rfl,by omega,by omega,rfl,rfl⟩,?_⟩;rintro w2 m n i ⟨k,rfl,hk,hm,rfl,rfl⟩ -
    by_cases hlt:k<l.length
    · have hc:l[k]? = some (l[k]'hlt):=gE hlt;generalize l[k]'hlt=c at hc;have h1:vK (un c)=true:=List.all_eq_true.1 hd c (List.mem_of_getElem? hc);have h2:=Nw 9 (l.take k) (by rw[List.length_take]; omega) (by
        rw[List.all_eq_true] at hd ⊢;exact λ x hx=>hd x (List.mem_of_mem_take hx))
      have h1:48<=un c/\un c<=57:=by simpa[vK] using h1
      unfold un at h1;have hlt8:=c.toNat_lt;refine cT (by rw[fm]; exact dT (by omega)) ⟨by omega,?_⟩;rw[Int.toNat_natCast,jY,hc];refine⟨l.length-(k+1),by omega,k+1,aC ⟨by omega,by omega⟩,by omega,rfl,?_,rfl⟩;have e8:IntKind.u8.wrap ((c.toNat:Int)-48)=(c.toNat:Int)-48:=by
        simp only[IntKind.wrap,IntKind.signed,IntKind.bits]
        simp
        omega
      rw[e8,aL hc,At,un,aC (n:=10*DN (l.take k)) ⟨by omega,by omega⟩,aC (n:=(c.toNat:Int)-48) ⟨by omega,by omega⟩,aC ⟨by omega,by omega⟩]
    · obtain rfl:k=l.length:=by omega
      refine cF (by rw[fm]; exact dF (by omega)) ⟨?_,rfl⟩;rw[List.take_length,vZ,if_neg h,if_neg h9]
  · cases l with
    | nil=>exact cF (by rw[fm]; rfl) ⟨rfl,rfl⟩
    | cons c l =>
      by_cases h1:1<(c :: l).length
      · refine cT (by rw[fm]; exact dT (by omega)) ⟨by omega,?_⟩;rw[show(0:Int).toNat=0 from rfl,jY];refine⟨?_,rfl⟩
        by_cases h2:c=48
        · subst h2; rw[dT (p:=1<(48 :: l).length/\(48 :: l).head? = some 48) ⟨h1,rfl⟩]; rfl
        · rw[dF (λ h=>h2 (by simpa using h.2))];have:(c.toNat:Int)≠48:=λ h=>h2 (UInt8.toNat_inj.1 (by have:(48:UInt8).toNat=48:=rfl; omega));simpa using this
      · exact cF (by rw[fm]; exact dF (by omega)) ⟨by rw[dF (λ h=>h1 h.1)],rfl⟩
end Go.Proofs.YtpihmghnbplohaaGreatDoor
