import Derived.Test.YtpihmghnbplohaaGreatDoorProg
import Derived.KernelRfl
import Derived.Test.YtpihmghnbplohaaGreatDoorM02
import Derived.Test.YtpihmghnbplohaaGreatDoorM05
import Derived.Test.YtpihmghnbplohaaGreatDoorM15
import Derived.Test.YtpihmghnbplohaaGreatDoorM18
set_option linter.unusedVariables false
set_option maxRecDepth 100000
namespace Go.Proofs.YtpihmghnbplohaaGreatDoor
open Go Go.Vc Tryz
def vr(a:ByteArray)(w:World)(K:KP):Prop:=ak w (.cells #[.slice none 0 0,.slice none 0 0,.slice none 0 0,.slice none 0 0] 100) λ b c=>cond (decide (((a.size:Nat):Int)>(4000:Int))) (aQ ⟨b,0,none⟩ 0 [.slice none 0 0,.slice none 0 0,.slice none 0 0,.slice none 0 0] c λ d=>∃ e f g h i j k l m n o p,af d ⟨b,0,none⟩ 0 [.slice e f g,.slice h i j,.slice k l m,.slice n o p]/\K (.tuple #[.agg #[.slice e f g,.slice h i j,.slice k l m,.slice n o p],iv 0,iv 3]) d) (ak c (.cells #[.slice none 0 0,.slice none 0 0,.slice none 0 0,.slice none 0 0] 100) λ c d=>Calls prog 138 #[.string a,.string (bs [10])] d λ a d=>∃ e f g,a=.returned (.slice e f g)/\∃ a:Int->World->Nat->Prop,(∃ g,a 0 d g)/\∀ d g h,a h d g->∀ i:Nat->Value,cond (decide (h<(f:Int))) (∃ i:World->Prop,(∀ j,i j->∀ k:Nat->Value,∃ k,k<g/\a (IntKind.i64.wrap (h+1)) j k)/\an e λ a=>0<=h/\h<(f:Int)/\∃ e,d.cell? (Addr.add a ((h).toNat*1))=some (.string e)/\cond (e.toList==(bs []).toList) (i d) (Calls prog 138 #[.string e,.string (bs [32])] d λ a e=>∃ f g j,a=.returned (.slice f g j)/\Calls prog 139 #[.pointer (some ⟨c,0,none⟩),.slice f g j] e λ a e=>∃ f,a=.returned (iv f)/\cond (f !=0) (aQ ⟨b,0,none⟩ 0 [.slice none 0 0,.slice none 0 0,.slice none 0 0,.slice none 0 0] e λ a=>∃ g j k l m n o p q r s t,af a ⟨b,0,none⟩ 0 [.slice g j k,.slice l m n,.slice o p q,.slice r s t]/\K (.tuple #[.agg #[.slice g j k,.slice l m n,.slice o p q,.slice r s t],iv (IntKind.i64.wrap (h+1)),iv f]) a) (i e))) (∃ a e f g h i j k l m n o,af d ⟨c,0,none⟩ 0 [.slice a e f,.slice g h i,.slice j k l,.slice m n o]/\Calls prog 140 #[.agg #[.slice a e f,.slice g h i,.slice j k l,.slice m n o]] d λ a d=>∃ e,a=.returned (iv e)/\cond (e !=0) (aQ ⟨b,0,none⟩ 0 [.slice none 0 0,.slice none 0 0,.slice none 0 0,.slice none 0 0] d λ a=>∃ f g h i j k l m n o p q,af a ⟨b,0,none⟩ 0 [.slice f g h,.slice i j k,.slice l m n,.slice o p q]/\K (.tuple #[.agg #[.slice f g h,.slice i j k,.slice l m n,.slice o p q],iv 0,iv e]) a) (∃ a e f g h i j k l m n o,af d ⟨c,0,none⟩ 0 [.slice a e f,.slice g h i,.slice j k l,.slice m n o]/\aQ ⟨b,0,none⟩ 0 [.slice a e f,.slice g h i,.slice j k l,.slice m n o] d λ a=>∃ c d e f g h i j k l m n,af a ⟨b,0,none⟩ 0 [.slice c d e,.slice f g h,.slice i j k,.slice l m n]/\K (.tuple #[.agg #[.slice c d e,.slice f g h,.slice i j k,.slice l m n],iv 0,iv 0]) a)))
theorem yT{s1 w K}(h:vr s1 w K):CP 121 #[.string s1] w (K):=ah (ay [(122,[(17,.s (.int .i64))]),(979,[])]) func121 (by kernel_rfl) (by kernel_rfl) h
def yV(a:Nat)(b:OA)(c d:Nat)(w:World)(K:KP):Prop:=an b λ e=>0<=(0:Int)/\(0:Int)<(c:Int)/\∃ f,w.cell? (Addr.add e (((0:Int)).toNat*1))=some (.string f)/\Calls prog 172 #[.string f] w λ e f=>∃ g,e=.returned (iv g)/\cond (g==0) (K (iv 22) f) (cond (g==(c:Int)) (∃ e g h i j k l m n o p q,af f.drew ⟨a,0,none⟩ 0 [.slice e g h,.slice i j k,.slice l m n,.slice o p q]/\an b λ r=>0<=(0:Int)/\(0:Int)<(c:Int)/\∃ s,f.drew.cell? (Addr.add r (((0:Int)).toNat*1))=some (.string s)/\an b λ r=>0<=(1:Int)/\(1:Int)<(c:Int)/\∃ t,f.drew.cell? (Addr.add r (((1:Int)).toNat*1))=some (.string t)/\Calls prog 173 #[.agg #[.slice e g h,.slice i j k,.slice l m n,.slice o p q],.string s,.string t] f.drew λ e g=>∃ h i,e=.returned (.tuple #[iv h,iv i])/\cond (i !=0) (K (iv i) g) (0<=(2:Int)/\(2:Int)<=(c:Int)/\Calls prog 174 #[.slice (if d=((2:Int)).toNat then b else Option.map (λ x=>Addr.add x (((2:Int)).toNat*1)) b) (c-((2:Int)).toNat) (d-((2:Int)).toNat)] g λ d e=>∃ g i j k,d=.returned (.tuple #[.slice g i j,iv k])/\cond (k !=0) (K (iv k) e) (∃ d:World->Prop,(∀ j,d j->∀ l:Nat->Value,K (iv k) j)/\an b λ j=>0<=(0:Int)/\(0:Int)<(c:Int)/\∃ k,e.cell? (Addr.add j (((0:Int)).toNat*1))=some (.string k)/\cond (k.toList==(bs [112,114,111,100,117,99,116]).toList) (∃ j l m,e.drew.cell? ⟨a,0,none⟩=some (.slice j l m)/\an b λ n=>0<=(1:Int)/\(1:Int)<(c:Int)/\∃ o,e.drew.cell? (Addr.add n (((1:Int)).toNat*1))=some (.string o)/\an g λ n=>0<=(0:Int)/\(0:Int)<(i:Int)/\∃ p,e.drew.cell? (Addr.add n (((0:Int)).toNat*1))=some (iv p)/\an g λ n=>0<=(1:Int)/\(1:Int)<(i:Int)/\∃ q,e.drew.cell? (Addr.add n (((1:Int)).toNat*1))=some (iv q)/\an g λ n=>0<=(2:Int)/\(2:Int)<(i:Int)/\∃ r,e.drew.cell? (Addr.add n (((2:Int)).toNat*1))=some (iv r)/\an g λ n=>0<=(3:Int)/\(3:Int)<(i:Int)/\∃ s,e.drew.cell? (Addr.add n (((3:Int)).toNat*1))=some (iv s)/\ak e.drew (.cells #[.string o,iv p,iv q,iv r,iv s] 170) λ n o=>o.cell? ⟨a,0,none⟩=some (.slice j l m)/\aZ prog (Builtin.append_ #[95,95] 95 #[.slice j l m,.slice (some ⟨n,0,none⟩) 1 1]) o λ j l=>∃ m n o,j=(.slice m n o)/\aN l ⟨a,0,none⟩ (.slice m n o) λ j=>d j) (cond (k.toList==(bs [98,105,100,100,101,114]).toList) (∃ j l m,e.drew.cell? ⟨a,1,none⟩=some (.slice j l m)/\an b λ b=>0<=(1:Int)/\(1:Int)<(c:Int)/\∃ c,e.drew.cell? (Addr.add b (((1:Int)).toNat*1))=some (.string c)/\an g λ b=>0<=(0:Int)/\(0:Int)<(i:Int)/\∃ n,e.drew.cell? (Addr.add b (((0:Int)).toNat*1))=some (iv n)/\an g λ b=>0<=(1:Int)/\(1:Int)<(i:Int)/\∃ o,e.drew.cell? (Addr.add b (((1:Int)).toNat*1))=some (iv o)/\an g λ b=>0<=(2:Int)/\(2:Int)<(i:Int)/\∃ p,e.drew.cell? (Addr.add b (((2:Int)).toNat*1))=some (iv p)/\ak e.drew (.cells #[.string c,iv n,iv o,iv p] 159) λ b c=>c.cell? ⟨a,1,none⟩=some (.slice j l m)/\aZ prog (Builtin.append_ #[96,96] 96 #[.slice j l m,.slice (some ⟨b,0,none⟩) 1 1]) c λ b c=>∃ j l m,b=(.slice j l m)/\aN c ⟨a,1,none⟩ (.slice j l m) λ b=>d b) (cond (k.toList==(bs [99,97,112]).toList) (∃ b c j,e.drew.cell? ⟨a,2,none⟩=some (.slice b c j)/\an g λ l=>0<=(0:Int)/\(0:Int)<(i:Int)/\∃ m,e.drew.cell? (Addr.add l (((0:Int)).toNat*1))=some (iv m)/\an g λ l=>0<=(1:Int)/\(1:Int)<(i:Int)/\∃ n,e.drew.cell? (Addr.add l (((1:Int)).toNat*1))=some (iv n)/\ak e.drew (.cells #[iv h,iv m,iv n] 174) λ l m=>m.cell? ⟨a,2,none⟩=some (.slice b c j)/\aZ prog (Builtin.append_ #[97,97] 97 #[.slice b c j,.slice (some ⟨l,0,none⟩) 1 1]) m λ b c=>∃ j l m,b=(.slice j l m)/\aN c ⟨a,2,none⟩ (.slice j l m) λ b=>d b) (cond (k.toList==(bs [97,115,105,100,101]).toList) (∃ b c j,e.drew.cell? ⟨a,3,none⟩=some (.slice b c j)/\an g λ k=>0<=(0:Int)/\(0:Int)<(i:Int)/\∃ l,e.drew.cell? (Addr.add k (((0:Int)).toNat*1))=some (iv l)/\an g λ g=>0<=(1:Int)/\(1:Int)<(i:Int)/\∃ i,e.drew.cell? (Addr.add g (((1:Int)).toNat*1))=some (iv i)/\ak e.drew (.cells #[iv h,iv l,iv i] 177) λ g h=>h.cell? ⟨a,3,none⟩=some (.slice b c j)/\aZ prog (Builtin.append_ #[98,98] 98 #[.slice b c j,.slice (some ⟨g,0,none⟩) 1 1]) h λ b c=>∃ g h i,b=(.slice g h i)/\aN c ⟨a,3,none⟩ (.slice g h i) λ a=>d a) (d e))))))) (K (iv 2) f))
theorem zJ{b1 a1 l1 c1 w K}(h:yV b1 a1 l1 c1 w K):CP 139 #[.pointer (some ⟨b1,0,none⟩),.slice a1 l1 c1] w (K):=ah (ay [(223,[])]) func139 (by kernel_rfl) (by kernel_rfl) h
def qq(a:OA)(b c:Nat)(d:OA)(e f:Nat)(g:OA)(h i:Nat)(j:OA)(k l:Nat)(m:Int)(n:I6)(w:World)(K:KP):Prop:=ak w (.cells #[.slice a b c,.slice d e f,.slice g h i,.slice j k l] 100) λ a b=>ak b (.cells n.vs.toArray 41) λ b c=>∃ d e f g h i j k l n o p,af c ⟨a,0,none⟩ 0 [.slice d e f,.slice g h i,.slice j k l,.slice n o p]/\Calls prog 140 #[.agg #[.slice d e f,.slice g h i,.slice j k l,.slice n o p]] c λ c d=>∃ e,c=.returned (iv e)/\cond (e !=0) (K (iv e) d) (∃ c e f g h i j k l n o p,af d ⟨a,0,none⟩ 0 [.slice c e f,.slice g h i,.slice j k l,.slice n o p]/\∃ (a:I6),af d ⟨b,0,none⟩ 0 a.vs/\Calls prog 178 #[.agg #[.slice c e f,.slice g h i,.slice j k l,.slice n o p],iv m,.agg a.vs.toArray] d λ a b=>∃ c,a=.returned (iv c)/\K (iv c) b)
theorem uF{a1 l1 c1 a2 l2 c2 a3 l3 c3 a4 l4 c4 n1 u1 w K}(h:qq a1 l1 c1 a2 l2 c2 a3 l3 c3 a4 l4 c4 n1 u1 w K):CP 144 #[.agg #[.slice a1 l1 c1,.slice a2 l2 c2,.slice a3 l3 c3,.slice a4 l4 c4],iv n1,.agg u1.vs.toArray] w (K):=ah (ay []) func144 (by kernel_rfl) (by kernel_rfl) h
def vu(a:ByteArray)(w:World)(K:KP):Prop:=cond (a.toList==(bs [112,114,111,100,117,99,116]).toList) (K (iv 6) w) (cond (a.toList==(bs [98,105,100,100,101,114]).toList) (K (iv 5) w) (∃ b:Bool->World->Prop,(∀ c d,b d c->∀ e:Nat->Value,cond d (K (iv 4) c) (K (iv 0) c))/\cond (a.toList==(bs [99,97,112]).toList) (b (a.toList==(bs [99,97,112]).toList) w) (b (a.toList==(bs [97,115,105,100,101]).toList) w)))
theorem yW{s1 w K}(h:vu s1 w K):CP 172 #[.string s1] w (K):=ah (ay [(431,[(8,.s .bool)])]) func172 (by kernel_rfl) (by kernel_rfl) h
def vt(a:OA)(b c:Nat)(d:OA)(e f:Nat)(g:OA)(h i:Nat)(j:OA)(k l:Nat)(m n:ByteArray)(w:World)(K:KP):Prop:=ak w (.cells #[.slice a b c,.slice d e f,.slice g h i,.slice j k l] 100) λ a b=>∃ c:Int->Bool->World->Prop,(∀ d e f,c e f d->∀ g:Nat->Value,cond (!f) (K (.tuple #[iv 0,iv 6]) d) (K (.tuple #[iv e,iv 0]) d))/\∃ d:Bool->World->Prop,(∀ e f,d f e->∀ g:Nat->Value,cond f (Calls prog 167 #[.string n] e λ f g=>∃ h,f=.returned (.bool h)/\cond (!h) (K (.tuple #[iv 0,iv 5]) g) (K (.tuple #[iv 0,iv 0]) g)) (cond (m.toList==(bs [99,97,112]).toList) (cond (!(n.toList==(bs [42]).toList)) (∃ f g h,e.cell? ⟨a,1,none⟩=some (.slice f g h)/\Calls prog 220 #[.slice f g h,.string n] e λ f g=>∃ h i,f=.returned (.tuple #[iv h,.bool i])/\c h i g) (c (-1:Int) true e)) (cond (m.toList==(bs [97,115,105,100,101]).toList) (∃ f g h,e.cell? ⟨a,0,none⟩=some (.slice f g h)/\Calls prog 168 #[.slice f g h,.string n] e λ a f=>∃ g h,a=.returned (.tuple #[iv g,.bool h])/\c g h f) (c (-1:Int) true e))))/\cond (m.toList==(bs [112,114,111,100,117,99,116]).toList) (d (m.toList==(bs [112,114,111,100,117,99,116]).toList) b) (d (m.toList==(bs [98,105,100,100,101,114]).toList) b)
theorem yU{a1 l1 c1 a2 l2 c2 a3 l3 c3 a4 l4 c4 s1 s2 w K}(h:vt a1 l1 c1 a2 l2 c2 a3 l3 c3 a4 l4 c4 s1 s2 w K):CP 173 #[.agg #[.slice a1 l1 c1,.slice a2 l2 c2,.slice a3 l3 c3,.slice a4 l4 c4],.string s1,.string s2] w (K):=ah (ay [(7,[(8,.s (.int .i64)),(9,.s .bool)]),(58,[(11,.s .bool)])]) func173 (by kernel_rfl) (by kernel_rfl) h
def qt(a:OA)(b c:Nat)(w:World)(K:KP):Prop:=∃ c:OA->Nat->Nat->Int->World->Nat->Prop,(∃ d,c none 0 0 0 w d)/\∀ e d f g h i,c f g h i e d->∀ j:Nat->Value,cond (decide (i<(b:Int))) (an a λ a=>0<=i/\i<(b:Int)/\∃ b,e.cell? (Addr.add a ((i).toNat*1))=some (.string b)/\Calls prog 221 #[.string b] e λ a b=>∃ j k,a=.returned (.tuple #[iv j,iv k])/\cond (k !=0) (K (.tuple #[.slice none 0 0,iv k]) b) (ak b (.cells #[iv j] 3) λ a b=>aZ prog (Builtin.append_ #[65,65] 65 #[.slice f g h,.slice (some ⟨a,0,none⟩) 1 1]) b λ a b=>∃ j k l,a=(.slice j k l)/\∃ a,a<d/\c j k l (IntKind.i64.wrap (i+1)) b a)) (K (.tuple #[.slice f g h,iv 0]) e)
theorem uH{a1 l1 c1 w K}(h:qt a1 l1 c1 w K):CP 174 #[.slice a1 l1 c1] w (K):=ah (ay [(58,[(4,.s .slice),(11,.s (.int .i64))])]) func174 (by kernel_rfl) (by kernel_rfl) h
def qs(a:OA)(b c:Nat)(d:OA)(e f:Nat)(g:OA)(h i:Nat)(j:OA)(k l:Nat)(m:Int)(n:I6)(w:World)(K:KP):Prop:=ak w (.cells #[.slice a b c,.slice d e f,.slice g h i,.slice j k l] 100) λ a b=>ak b (.cells n.vs.toArray 41) λ b c=>∃ d:Bool->World->Prop,(∀ e f,d f e->∀ g:Nat->Value,cond f (K (iv 6) e) (∃ (f:I6),af e ⟨b,0,none⟩ 0 f.vs/\Calls prog 86 #[.agg f.vs.toArray] e λ e f=>∃ g,e=.returned (iv g)/\cond (g !=0) (K (iv g) f) (∃ e g h i j k l n o p q r,af f ⟨a,0,none⟩ 0 [.slice e g h,.slice i j k,.slice l n o,.slice p q r]/\Calls prog 222 #[.agg #[.slice e g h,.slice i j k,.slice l n o,.slice p q r]] f λ e f=>∃ (g h:I6),e=.returned (.tuple #[.agg g.vs.toArray,.agg h.vs.toArray])/\ak f (.cells z6.vs.toArray 41) λ e f=>ak f (.cells z6.vs.toArray 41) λ f i=>aQ ⟨e,0,none⟩ 0 g.vs i λ g=>aQ ⟨f,0,none⟩ 0 h.vs g λ g=>∃ h:Bool->World->Prop,(∀ i j,h j i->∀ k:Nat->Value,cond j (K (iv 14) i) (∃ j k l,i.cell? ⟨a,2,none⟩=some (.slice j k l)/\∃ l:Int->World->Nat->Prop,(∃ n,l 0 i n)/\∀ i n o,l o i n->∀ p:Nat->Value,cond (decide (o<(k:Int))) (an j λ j=>0<=o/\o<(k:Int)/\∃ k p q,af i (Addr.add j ((o).toNat*3)) 0 [iv k,iv p,iv q]/\ak i (.cells #[iv 0,iv 0,iv 0] 174) λ j r=>aQ ⟨j,0,none⟩ 0 [iv k,iv p,iv q] r λ k=>∃ p:Bool->World->Prop,(∀ q r,p r q->∀ s:Nat->Value,cond r (K (iv 14) q) (∃ r,r<n/\l (IntKind.i64.wrap (o+1)) q r))/\∃ l,k.drew.cell? ⟨j,0,none⟩=some (iv l)/\cond (l==(-1:Int)) (∃ l n o,k.drew.cell? ⟨a,0,none⟩=some (.slice l n o)/\∃ q,k.drew.cell? ⟨j,1,none⟩=some (iv q)/\∃ (r:I6),af k.drew ⟨b,0,none⟩ 0 r.vs/\∃ s,k.drew.cell? ⟨j,2,none⟩=some (iv s)/\Calls prog 225 #[.slice l n o,iv q,.agg r.vs.toArray] k.drew λ l n=>∃ o,l=.returned (iv o)/\n.cell? ⟨j,2,none⟩=some (iv s)/\p (decide (o>s)) n) (∃ l,k.drew.cell? ⟨j,0,none⟩=some (iv l)/\cond (l==m) (∃ l n o,k.drew.cell? ⟨a,0,none⟩=some (.slice l n o)/\∃ q,k.drew.cell? ⟨j,1,none⟩=some (iv q)/\∃ (r:I6),af k.drew ⟨b,0,none⟩ 0 r.vs/\∃ s,k.drew.cell? ⟨j,2,none⟩=some (iv s)/\Calls prog 225 #[.slice l n o,iv q,.agg r.vs.toArray] k.drew λ l n=>∃ o,l=.returned (iv o)/\n.cell? ⟨j,2,none⟩=some (iv s)/\p (decide (o>s)) n) (p false k.drew))) (K (iv 0) i)))/\∃ (i:I6),af g.drew ⟨b,0,none⟩ 0 i.vs/\∃ j k l,g.drew.cell? ⟨a,0,none⟩=some (.slice j k l)/\Calls prog 148 #[.slice j k l] g.drew λ g j=>∃ (k:I6),g=.returned (.agg k.vs.toArray)/\af j ⟨b,0,none⟩ 0 i.vs/\Calls prog 223 #[.agg i.vs.toArray,.agg k.vs.toArray] j λ g i=>∃ j,g=.returned (.bool j)/\cond (!j) (h true i) (∃ g j k l n o p q r s t u,af i ⟨a,0,none⟩ 0 [.slice g j k,.slice l n o,.slice p q r,.slice s t u]/\∃ (v:I6),af i ⟨f,0,none⟩ 0 v.vs/\∃ (f:I6),af i ⟨b,0,none⟩ 0 f.vs/\∃ (b:I6),af i ⟨e,0,none⟩ 0 b.vs/\Calls prog 224 #[.agg #[.slice g j k,.slice l n o,.slice p q r,.slice s t u],.agg v.vs.toArray,iv m,.agg f.vs.toArray] i λ f g=>∃ (i:I6),f=.returned (.agg i.vs.toArray)/\af g ⟨e,0,none⟩ 0 b.vs/\Calls prog 223 #[.agg i.vs.toArray,.agg b.vs.toArray] g λ b e=>∃ f,b=.returned (.bool f)/\h (!f) e))))/\cond (decide (m<0)) (d true c) (∃ b e f,c.cell? ⟨a,1,none⟩=some (.slice b e f)/\d (decide (m>=(e:Int))) c)
theorem uG{a1 l1 c1 a2 l2 c2 a3 l3 c3 a4 l4 c4 n1 u1 w K}(h:qs a1 l1 c1 a2 l2 c2 a3 l3 c3 a4 l4 c4 n1 u1 w K):CP 178 #[.agg #[.slice a1 l1 c1,.slice a2 l2 c2,.slice a3 l3 c3,.slice a4 l4 c4],iv n1,.agg u1.vs.toArray] w (K):=ah (ay [(6,[(20,.s .bool)]),(62,[(46,.s .bool)]),(506,[(50,.s (.int .i64))]),(32409,[(73,.s .bool)])]) func178 (by kernel_rfl) (by kernel_rfl) h
def tj(a:ByteArray)(w:World)(K:KP):Prop:=∃ b:Int->World->Nat->Prop,(∃ c,b 0 w c)/\∀ d c e,b e d c->∀ f:Nat->Value,cond (decide (e<((a.size:Nat):Int))) (∃ f:Bool->World->Prop,(∀ g h,f h g->∀ i:Nat->Value,cond h (K (.tuple #[iv 0,iv 2]) g) (∃ h,h<c/\b (IntKind.i64.wrap (e+1)) g h))/\0<=e/\an a[(e).toNat]? λ b=>cond (decide ((b.toNat:Int)<(48:Int))) (f true d) (0<=e/\an a[(e).toNat]? λ b=>f (decide ((b.toNat:Int)>(57:Int))) d)) (∃ b:Bool->World->Prop,(∀ c e,b e c->∀ f:Nat->Value,cond e (K (.tuple #[iv 0,iv 2]) c) (cond (decide (((a.size:Nat):Int)>(9:Int))) (K (.tuple #[iv 0,iv 4]) c) (Calls prog 264 #[.string a] c λ c e=>∃ (f:Int) (g:Value),c=.returned (.tuple #[iv f,g])/\K (.tuple #[iv f,iv 0]) e)))/\cond (a.toList==(bs []).toList) (b true d) (0<=(0:Int)/\an a[((0:Int)).toNat]? λ c=>cond ((c.toNat:Int)==(48:Int)) (b (decide (((a.size:Nat):Int)>(1:Int))) d) (b false d)))
theorem wq{s1 w K}(h:tj s1 w K):CP 221 #[.string s1] w (K):=ah (ay [(26,[(9,.s (.int .i64))]),(1689,[(21,.s .bool)]),(14,[(34,.s .bool)])]) func221 (by kernel_rfl) (by kernel_rfl) h
def tn(a:OA)(b c:Nat)(d:OA)(e f:Nat)(g:OA)(h i:Nat)(j:OA)(k l:Nat)(w:World)(K:KP):Prop:=ak w (.cells #[.slice a b c,.slice d e f,.slice g h i,.slice j k l] 100) λ a b=>ak b (.cells z6.vs.toArray 41) λ b c=>ak c (.cells z6.vs.toArray 41) λ c d=>∃ e f g,d.cell? ⟨a,0,none⟩=some (.slice e f g)/\Calls prog 148 #[.slice e f g] d λ d e=>∃ (f:I6),d=.returned (.agg f.vs.toArray)/\aQ ⟨b,0,none⟩ 0 f.vs e λ d=>∃ e f g,d.cell? ⟨a,3,none⟩=some (.slice e f g)/\∃ a:Int->World->Nat->Prop,(∃ g,a 0 d g)/\∀ d g h,a h d g->∀ i:Nat->Value,cond (decide (h<(f:Int))) (an e λ e=>0<=h/\h<(f:Int)/\∃ f i j,af d (Addr.add e ((h).toNat*3)) 0 [iv f,iv i,iv j]/\ak d (.cells #[iv 0,iv 0,iv 0] 177) λ e k=>aQ ⟨e,0,none⟩ 0 [iv f,iv i,iv j] k λ f=>∃ i,f.drew.cell? ⟨e,0,none⟩=some (iv i)/\0<=i/\i<6/\∃ j,f.drew.cell? (Addr.add ⟨b,0,none⟩ ((i).toNat*1))=some (iv j)/\∃ k,f.drew.cell? ⟨e,2,none⟩=some (iv k)/\0<=i/\i<6/\aN f.drew (Addr.add ⟨b,0,none⟩ ((i).toNat*1)) (iv (IntKind.i64.wrap (j-k))) λ f=>∃ i,f.cell? ⟨e,0,none⟩=some (iv i)/\∃ j,f.cell? ⟨e,1,none⟩=some (iv j)/\0<=i/\i<6/\aN f (Addr.add ⟨c,0,none⟩ ((i).toNat*1)) (iv j) λ e=>∃ f,f<g/\a (IntKind.i64.wrap (h+1)) e f) (∃ (a:I6),af d.drew ⟨b,0,none⟩ 0 a.vs/\∃ (e:I6),af d.drew ⟨c,0,none⟩ 0 e.vs/\aQ ⟨b,0,none⟩ 0 a.vs d.drew λ a=>af a ⟨c,0,none⟩ 0 e.vs/\aQ ⟨c,0,none⟩ 0 e.vs a λ a=>∃ (d:I6),af a ⟨b,0,none⟩ 0 d.vs/\∃ (b:I6),af a ⟨c,0,none⟩ 0 b.vs/\K (.tuple #[.agg d.vs.toArray,.agg b.vs.toArray]) a)
theorem wu{a1 l1 c1 a2 l2 c2 a3 l3 c3 a4 l4 c4 w K}(h:tn a1 l1 c1 a2 l2 c2 a3 l3 c3 a4 l4 c4 w K):CP 222 #[.agg #[.slice a1 l1 c1,.slice a2 l2 c2,.slice a3 l3 c3,.slice a4 l4 c4]] w (K):=ah (ay [(58,[(12,.s (.int .i64))])]) func222 (by kernel_rfl) (by kernel_rfl) h
def qu(a:OA)(b c:Nat)(d:OA)(e f:Nat)(g:OA)(h i:Nat)(j:OA)(k l:Nat)(m:I6)(n:Int)(o:I6)(w:World)(K:KP):Prop:=ak w (.cells #[.slice a b c,.slice d e f,.slice g h i,.slice j k l] 100) λ a b=>ak b (.cells m.vs.toArray 41) λ b c=>ak c (.cells o.vs.toArray 41) λ c d=>ak d (.cells z6.vs.toArray 41) λ d e=>∃ f:Int->World->Nat->Prop,(∃ g,f 0 e g)/\∀ e g h,f h e g->∀ i:Nat->Value,cond (decide (h<6)) (∃ i:World->Prop,(∀ j,i j->∀ k:Nat->Value,∃ k,k<g/\f (IntKind.i64.wrap (h+1)) j k)/\∃ f:Bool->World->Prop,(∀ g j,f j g->∀ k:Nat->Value,cond j (0<=h/\h<6/\aN g (Addr.add ⟨c,0,none⟩ ((h).toNat*1)) (iv 0) λ j=>i j) (i g))/\0<=h/\h<6/\∃ g,e.drew.cell? (Addr.add ⟨b,0,none⟩ ((h).toNat*1))=some (iv g)/\cond (g==0) (f true e.drew) (0<=h/\h<6/\∃ g,e.drew.cell? (Addr.add ⟨b,0,none⟩ ((h).toNat*1))=some (iv g)/\∃ b h i,e.drew.cell? ⟨a,1,none⟩=some (.slice b h i)/\an b λ a=>0<=n/\n<(h:Int)/\∃ b,e.drew.cell? (Addr.add (Addr.add a ((n).toNat*4)) 1)=some (iv b)/\f (g==b) e.drew)) (∃ (a:I6),af e ⟨c,0,none⟩ 0 a.vs/\aQ ⟨d,0,none⟩ 0 a.vs e λ a=>∃ (b:I6),af a ⟨d,0,none⟩ 0 b.vs/\K (.agg b.vs.toArray) a)
theorem uI{a1 l1 c1 a2 l2 c2 a3 l3 c3 a4 l4 c4 u1 n1 u2 w K}(h:qu a1 l1 c1 a2 l2 c2 a3 l3 c3 a4 l4 c4 u1 n1 u2 w K):CP 224 #[.agg #[.slice a1 l1 c1,.slice a2 l2 c2,.slice a3 l3 c3,.slice a4 l4 c4],.agg u1.vs.toArray,iv n1,.agg u2.vs.toArray] w (K):=ah (ay [(26,[(10,.s (.int .i64))]),(211,[]),(1689,[(28,.s .bool)])]) func224 (by kernel_rfl) (by kernel_rfl) h
def wV(ps:List Pr)(l:List T3):Nat->I6×I6
  | 0=>(bX ps,z6)
  | k+1=>match l[k]? with
    | none=>wV ps l k
    | some x=>((wV ps l k).1.put x.a.toNat ((wV ps l k).1.at' x.a.toNat-x.c),(wV ps l k).2.put x.a.toNat x.b)
def Pf(ps:List Pr)(l:List T3):I6×I6:=wV ps l l.length
theorem OI{ps:List Pr}{l:List T3}(h2:ps.length<=6)(hg:∀ p∈ps,p.sup<=4)(h:j6 ps l){i:Nat}{x:T3}(hx:l[i]? = some x):0<=x.a/\x.a<6/\1<=x.c/\x.c<=4:=by
  have:=(h.good i x hx).1;simp only[EO,Bool.and_eq_true,decide_eq_true_eq] at this;have h3:(ps[x.a.toNat]?.map Pr.sup).getD 0<=4:=by
    cases hp:ps[x.a.toNat]? with
    | none=>show(0:Int)<=4; omega
    | some p=>exact hg p (List.mem_of_getElem? hp)
  omega
theorem Sw{ps:List Pr}(h:cY ps):∀ p∈ps,p.sup<=4:=λ p hp=>by
  obtain⟨i,hi⟩:=List.getElem?_of_mem hp;have:=(h.good i p hi).1;simp only[zE,Jn,Bool.and_eq_true,decide_eq_true_eq] at this;omega
theorem LA{ps:List Pr}{l:List T3}(hp:cY ps)(h:j6 ps l):∀ (k:Nat) (j:Nat),j<6->-(4*(k:Int))<=(wV ps l k).1.at' j/\(wV ps l k).1.at' j<=4
  | 0,j,hj=>by have:=sup_le hp j hj; show _<=(bX ps).at' j/\(bX ps).at' j<=4; omega
  | k+1,j,hj=>by
    have ih:=LA hp h k;rw[wV]
    cases hx:l[k]? with
    | none=>have:=ih j hj; show _<=(wV ps l k).1.at' j/\(wV ps l k).1.at' j<=4; omega
    | some x =>
      have hi:=OI hp.l2 (Sw hp) h hx;show _<=((wV ps l k).1.put x.a.toNat _).at' j/\((wV ps l k).1.put x.a.toNat _).at' j<=4;rw[I6.uw _ _ _ _ (by omega) hj];have h1:=ih j hj;have h2:=ih x.a.toNat (by omega)
      split<;>omega
theorem LD{w:World}{S:Se}(h:S.In w)(hs:S.Ok) :
    CP 222 #[.agg S.arr] w (λ r w'=>r=.tuple #[.agg (Pf S.ps S.sa).1.vs.toArray,.agg (Pf S.ps S.sa).2.vs.toArray]/\az w w' []):=by
  refine wu ?_;unfold tn;have hl:=hs.sa.l1; have hpl:=hs.ps.l2;refine(St.start w).one.ax S.arr λ r1 w1 s1=>s1.ax z6.vs.toArray λ r2 w2 s2=>s2.ax z6.vs.toArray λ r3 w3 s3=>?_;refine⟨_,_,_,s3.ag 2 rfl 0,aj (oO (h.av s3.av).ps (by omega)) ?_⟩;rintro v w4 ⟨rfl,c4⟩;refine⟨_,rfl,(s3.quiet c4).aA 1 rfl (bX S.ps).vs rfl (I6.one _) λ w5 s5=>⟨_,_,_,s5.ag 2 rfl 3,?_⟩⟩;refine⟨λ n w6 m=>∃ k:Nat,n=k/\k<=S.sa.length/\m=S.sa.length-k/\St w w6 (Sep [ai r3 (wV S.ps S.sa k).2.vs.toArray 41,ai r2 (wV S.ps S.sa k).1.vs.toArray 41,emp]),⟨S.sa.length,0,rfl,by omega,by omega,s5.aq [0,1,3]⟩,?_⟩;rintro w6 m n ⟨k,rfl,hk,hm,s6⟩ -
  by_cases hlt:(k:Int)<(S.sa.length:Int)
  · have hx:S.sa[k]? = some (S.sa[k]'(by omega)):=gE (by omega);generalize S.sa[k]'(by omega)=x at hx;obtain⟨q,hq,hcl⟩:=(h.av s6.av).sa k x hx;have hi:=OI hpl (Sw hs.ps) hs.sa hx;obtain⟨i,hai⟩:=Int.eq_ofNat_of_zero_le hi.1;have hi6:i<6:=by omega
    refine cT (dT hlt) (au hq ⟨by omega,by omega,_,_,_,hcl,s6.ax #[iv 0,iv 0,iv 0] λ r4 w7 s7=>s7.aA 0 rfl x.cells rfl x.one λ w8 s8=>?_⟩);have s9:=s8.quiet (az.drew w8 []);have bd:=LA hs.ps hs.sa k i hi6;have eF:wV S.ps S.sa (k+1)=((wV S.ps S.sa k).1.put i ((wV S.ps S.sa k).1.at' i-x.c),(wV S.ps S.sa k).2.put i x.b):=by
      rw[wV,hx]; show((wV S.ps S.sa k).1.put x.a.toNat _,_)=_;rw[hai,Int.toNat_natCast]
    refine⟨i,by rw[s9.ag 0 rfl 0,<- hai]; rfl,by omega,by omega,(wV S.ps S.sa k).1.at' i,by rw[gM]; exact aM s9 2 rfl hi6,x.c,s9.ag 0 rfl 2,by omega,by omega,?_⟩;rw[gM,aC ⟨by omega,by omega⟩];refine s9.aH 2 rfl hi6 rfl λ w9 s10=>⟨i,by rw[s10.ag 0 rfl 0,<- hai]; rfl,x.b,s10.ag 0 rfl 1,by omega,by omega,?_⟩;rw[gM];refine s10.aH 1 rfl hi6 rfl λ w10 s11=>⟨S.sa.length-(k+1),by omega,k+1,aC ⟨by omega,by omega⟩,by omega,rfl,?_⟩;rw[eF];have s12:=s11.aq [1,2,3];have e1:=I6.pg (wV S.ps S.sa k).1 i ((wV S.ps S.sa k).1.at' i-x.c) hi6;have e2:=I6.pg (wV S.ps S.sa k).2 i x.b hi6;show St w w10 (Sep [ai r3 (I6.put _ _ _).vs.toArray _,ai r2 (I6.put _ _ _).vs.toArray _,emp]);rw[<- e1,<- e2];exact s12
  · obtain rfl:S.sa.length=k:=by omega
    have s7:=s6.quiet (az.drew w6 []);exact cF (dF hlt) ⟨_,s7.cellsIn 1 rfl,_,s7.cellsIn 0 rfl,s7.aA 1 rfl _ rfl (I6.one _) λ w8 s8=>⟨s8.cellsIn 0 rfl,s8.aA 0 rfl _ rfl (I6.one _) λ w9 s9=>⟨_,s9.cellsIn 1 rfl,_,s9.cellsIn 0 rfl,rfl,s9.av⟩⟩⟩
def v7(b:Br)(cls u:I6):I6:=I6.zip (λ c x=>if c=0\/c=b.cls then 0 else x) cls u
theorem II{w:World}{S:Se}(h:S.In w){n:Nat}{b:Br}(hb:S.bd[n]? = some b)(cls u:I6) :
    CP 224 #[.agg S.arr,.agg cls.vs.toArray,iv n,.agg u.vs.toArray] w (λ r w'=>r=.agg (v7 b cls u).vs.toArray/\az w w' []):=by
  refine uI ?_;unfold qu;have hn:=(List.getElem?_eq_some_iff.1 hb).1;refine(St.start w).one.ax S.arr λ r1 w1 s1=>s1.ax cls.vs.toArray λ r2 w2 s2=>s2.ax u.vs.toArray λ r3 w3 s3=>s3.ax z6.vs.toArray λ r4 w4 s4=>?_;refine⟨λ n w6 m=>∃ k:Nat,n=k/\k<=6/\m=6-k/\St w w6 (Sep [ai r4 z6.vs.toArray 41,ai r3 (I6.mix k (v7 b cls u) u).vs.toArray 41,ai r2 cls.vs.toArray 41,ai r1 S.arr 100,emp]),⟨6,0,rfl,by omega,by omega,s4⟩,?_⟩;rintro w5 m n2 ⟨k,rfl,hk,hm,s5⟩ -
  by_cases hlt:(k:Int)<6
  · have hk' : k<6:=by omega
    have eo:(v7 b cls u).at' k=if cls.at' k=0\/cls.at' k=b.cls then 0 else u.at' k:=by rw[v7,I6.jh _ _ _ _ hk']
    refine cT (dT hlt) ⟨λ w6=>St w w6 (Sep [ai r4 z6.vs.toArray 41,ai r3 (I6.mix (k+1) (v7 b cls u) u).vs.toArray 41,ai r2 cls.vs.toArray 41,ai r1 S.arr 100,emp]),λ w6 s6 _=>⟨6-(k+1),by omega,k+1,inc (by decide) hk',by omega,rfl,s6⟩,?_⟩;have s6:=s5.quiet (az.drew w5 []);have cl2:=aM s6 2 rfl hk';refine⟨λ x w7=>x=decide (cls.at' k=0\/cls.at' k=b.cls)/\St w w7 (Sep [ai r4 z6.vs.toArray 41,ai r3 (I6.mix k (v7 b cls u) u).vs.toArray 41,ai r2 cls.vs.toArray 41,ai r1 S.arr 100,emp]),?_,by omega,by omega,_,by rw[gM]; exact cl2,?_⟩
    · rintro w7 x ⟨rfl,s7⟩ -
      by_cases g:cls.at' k=0\/cls.at' k=b.cls
      · rw[if_pos g] at eo;refine cT (dT g) ⟨by omega,by omega,?_⟩;rw[gM];refine s7.aH 1 rfl hk' rfl λ w8 s8=>?_;have:=I6.fM (v7 b cls u) u k hk';rw[eo] at this;rw[<- this]; exact s8
      · rw[if_neg g] at eo;refine cF (dF g) ?_;have:I6.mix (k+1) (v7 b cls u) u=I6.mix k (v7 b cls u) u:=I6.ext' λ j hj=>by
          rw[I6.bS _ _ _ _ hj,I6.bS _ _ _ _ hj]
          by_cases e:j=k
          · subst e; rw[if_pos (by omega),if_neg (by omega),eo]
          · by_cases e2:j<k
            · rw[if_pos e2,if_pos (by omega)]
            · rw[if_neg e2,if_neg (by omega)]
        rw[this]; exact s7
    · by_cases g:cls.at' k=0
      · exact cT (by simpa using g) ⟨by rw[dT (Or.inl g)],s6⟩
      · obtain⟨q,hq,hc⟩:=JF (h.av s6.av).bd hb 1 (iv b.cls) rfl;refine cF (by simpa using g) ⟨by omega,by omega,_,by rw[gM]; exact cl2,_,_,_,s6.ag 3 rfl 1,au hq ⟨by omega,by omega,b.cls,by rw[Int.toNat_natCast]; exact hc,?_,s6⟩⟩
        by_cases g2:cls.at' k=b.cls
        · rw[dT (Or.inr g2)]; simpa using g2
        · rw[dF (by rintro(h | h); exact g h; exact g2 h)]; simpa using g2
  · obtain rfl:k=6:=by omega
    rw[I6.wM] at s5;exact cF (by simp) ⟨_,s5.cellsIn 1 rfl,s5.aA 0 rfl _ rfl (I6.one _) λ w9 s9=>⟨_,s9.cellsIn 0 rfl,rfl,s9.av⟩⟩
def qD(ps:List Pr)(n:Nat)(u:I6)(x:T3):Bool:=(decide (x.a=-1)||decide (x.a=(n:Int)))&&decide (L9 ps x.b u>x.c)
def ji(S:Se)(n:Nat)(b:Br)(u:I6):Int :=
  if u.l.all lR then (if within u (bX S.ps)&&within (v7 b (Pf S.ps S.sa).2 u) (Pf S.ps S.sa).1&&!S.cp.any (qD S.ps n u) then 0 else 14) else 4
theorem HJ{w:World}{S:Se}(h:S.In w)(hs:S.Ok){n:Nat}{b:Br}(hb:S.bd[n]? = some b)(u:I6) :
    CP 178 #[.agg S.arr,iv n,.agg u.vs.toArray] w (λ r w'=>r=iv (ji S n b u)/\az w w' []):=by
  refine uG ?_;unfold qs;have hn:=(List.getElem?_eq_some_iff.1 hb).1;have hpl:=hs.ps.l2; have hcl:=hs.cp.l1; have hbl:=hs.bd.l2;refine(St.start w).one.ax S.arr λ r1 w1 s1=>s1.ax u.vs.toArray λ r2 w2 s2=>?_;refine⟨λ x w3=>x=false/\w3=w2,?_,cF (dF (by omega)) ⟨_,_,_,s2.ag 1 rfl 1,dF (by omega),rfl⟩⟩;rintro w3 x ⟨rfl,rfl⟩ -;refine cF rfl ⟨u,s2.cellsIn 0 rfl,aj (cJ w3 u) ?_⟩;rintro v w4 ⟨rfl,c4⟩;have s4:=s2.quiet c4;refine⟨_,rfl,?_⟩
  cases hq:u.l.all lR with
  | false=>exact cT rfl ⟨by rw[ji,hq]; rfl,s4.av⟩
  | true =>
  have hu:=Jl hq;refine cF rfl ⟨_,_,_,_,_,_,_,_,_,_,_,_,s4.cellsIn 1 rfl,aj (LD (h.av s4.av) hs) ?_⟩;rintro v w5 ⟨rfl,c5⟩;refine⟨_,_,rfl,(s4.quiet c5).ax z6.vs.toArray λ r3 w6 s6=>s6.ax z6.vs.toArray λ r4 w7 s7=>s7.aA 1 rfl _ rfl (I6.one _) λ w8 s8=>s8.aA 0 rfl _ rfl (I6.one _) λ w9 s9=>?_⟩;refine⟨λ x w10=>x = !(within u (bX S.ps)&&within (v7 b (Pf S.ps S.sa).2 u) (Pf S.ps S.sa).1)/\St w w10 (Sep [ai r2 u.vs.toArray 41,ai r1 S.arr 100,emp]),?_,?_⟩
  · rintro w10 x ⟨rfl,s10⟩ -
    cases hw:(within u (bX S.ps)&&within (v7 b (Pf S.ps S.sa).2 u) (Pf S.ps S.sa).1) with
    | false=>exact cT rfl ⟨by rw[ji,if_pos hq,hw]; rfl,s10.av⟩
    | true =>
      refine cF rfl ⟨_,_,_,s10.ag 1 rfl 2,λ i w11 m=>∃ k:Nat,i=k/\k<=S.cp.length/\m=S.cp.length-k/\(S.cp.take k).any (qD S.ps n u)=false/\St w w11 (Sep [ai r2 u.vs.toArray 41,ai r1 S.arr 100,emp]),⟨S.cp.length,0,rfl,by omega,by omega,rfl,s10⟩,?_⟩;rintro w11 m i ⟨k,rfl,hk,hm,ha,s11⟩ -
      by_cases hlt:(k:Int)<(S.cp.length:Int)
      · have hx:S.cp[k]? = some (S.cp[k]'(by omega)):=gE (by omega);generalize S.cp[k]'(by omega)=x at hx;obtain⟨q,hq2,hcl2⟩:=(h.av s11.av).cp k x hx;refine cT (dT hlt) (au hq2 ⟨by omega,by omega,_,_,_,hcl2,s11.ax #[iv 0,iv 0,iv 0] λ r5 w12 s12=>s12.aA 0 rfl x.cells rfl x.one λ w13 s13=>?_⟩);have s14:=s13.quiet (az.drew w13 []);refine⟨λ y w15=>y=qD S.ps n u x/\St w w15 (Sep [ai r5 x.cells.toArray 174,ai r2 u.vs.toArray 41,ai r1 S.arr 100,emp]),?_,?_⟩
        · rintro w15 y ⟨rfl,s15⟩ -
          cases hc:qD S.ps n u x with
          | true =>
            refine cT rfl ⟨?_,s15.av⟩;rw[ji,if_pos hq,hw,jr hx hc]; rfl
          | false=>exact cF rfl ⟨S.cp.length-(k+1),by omega,k+1,aC ⟨by omega,by omega⟩,by omega,rfl,fV ha hx hc,s15.aq [1,2,3]⟩
        · refine⟨x.a,s14.ag 0 rfl 0,?_⟩;have cu:CP 225 #[.slice S.a1 S.ps.length S.c1,iv x.b,.agg u.vs.toArray] w13.drew (λ r w'=>r=iv (L9 S.ps x.b u)/\az w13.drew w' []):=Ou (h.av s14.av).ps h.h1 hs.ps hu x.b
          by_cases g1:x.a=-1
          · refine cT (by simpa using g1) ⟨_,_,_,s14.ag 2 rfl 0,x.b,s14.ag 0 rfl 1,u,s14.cellsIn 1 rfl,x.c,s14.ag 0 rfl 2,aj cu ?_⟩;rintro v w15 ⟨rfl,c15⟩;have s15:=s14.quiet c15;exact⟨_,rfl,s15.ag 0 rfl 2,by rw[qD,dT g1,Bool.true_or,Bool.true_and],s15⟩
          refine cF (by simpa using g1) ⟨x.a,s14.ag 0 rfl 0,?_⟩
          by_cases g2:x.a=(n:Int)
          · refine cT (by simpa using g2) ⟨_,_,_,s14.ag 2 rfl 0,x.b,s14.ag 0 rfl 1,u,s14.cellsIn 1 rfl,x.c,s14.ag 0 rfl 2,aj cu ?_⟩;rintro v w15 ⟨rfl,c15⟩;have s15:=s14.quiet c15;exact⟨_,rfl,s15.ag 0 rfl 2,by rw[qD,dT g2,Bool.or_true,Bool.true_and],s15⟩
          · exact cF (by simpa using g2) ⟨by rw[qD,dF g1,dF g2]; rfl,s14⟩
      · obtain rfl:S.cp.length=k:=by omega
        rw[List.take_length] at ha;exact cF (dF hlt) ⟨by rw[ji,if_pos hq,hw,ha]; rfl,s11.av⟩
  · have s10:=s9.quiet (az.drew w9 []);refine⟨_,s10.cellsIn 2 rfl,_,_,_,s10.ag 3 rfl 0,aj (oO (h.av s10.av).ps (by omega)) ?_⟩;rintro v w17 ⟨rfl,c17⟩;have s17:=s10.quiet c17;refine⟨_,rfl,s17.cellsIn 2 rfl,aj (tG _ u _) ?_⟩;rintro v w18 ⟨rfl,c18⟩;have s18:=s17.quiet c18;refine⟨_,rfl,?_⟩
    cases hw:within u (bX S.ps) with
    | false=>exact cT rfl ⟨rfl,s18.aq [2,3,4]⟩
    | true =>
      refine cF rfl ⟨_,_,_,_,_,_,_,_,_,_,_,_,s18.cellsIn 3 rfl,_,s18.cellsIn 0 rfl,_,s18.cellsIn 2 rfl,_,s18.cellsIn 1 rfl,aj (II (h.av s18.av) hb _ _) ?_⟩;rintro v w19 ⟨rfl,c19⟩;have s19:=s18.quiet c19;refine⟨_,rfl,s19.cellsIn 1 rfl,aj (tG _ _ _) ?_⟩;rintro v w20 ⟨rfl,c20⟩;exact⟨_,rfl,by rw[Bool.true_and],(s19.quiet c20).aq [2,3,4]⟩
theorem zN{w:World}{S:Se}(h:S.In w)(hs:S.Ok){n:Nat}{b:Br}(hb:S.bd[n]? = some b)(u:I6) :
    CP 144 #[.agg S.arr,iv n,.agg u.vs.toArray] w (λ r w'=>r=iv (ji S n b u)/\az w w' []):=by
  refine uF ?_;unfold qq;refine(St.start w).one.ax S.arr λ r1 w1 s1=>s1.ax u.vs.toArray λ r2 w2 s2=>⟨_,_,_,_,_,_,_,_,_,_,_,_,s2.cellsIn 1 rfl,aj (Eh (h.av s2.av)) ?_⟩;rintro v w3 ⟨⟨e,rfl,he⟩,c3⟩;obtain rfl:=he.2 hs;have s3:=s2.quiet c3;refine⟨_,rfl,cF rfl ⟨_,_,_,_,_,_,_,_,_,_,_,_,s3.cellsIn 1 rfl,_,s3.cellsIn 0 rfl,aj (HJ (h.av s3.av) hs hb u) ?_⟩⟩;rintro v w4 ⟨rfl,c4⟩;exact⟨_,rfl,rfl,(s3.quiet c4).av⟩
section
variable {b:Nat} {C:Ck} {w0 w:World} {B:aD}
theorem Hf{p:I6}(h:nr p=true):I6.Le p 1000000:=sP.1 h
theorem OM(hk:C.Ok){n:Nat}:∀ c∈zn C n,c.Ok:=λ c hc=>by
  obtain⟨x,hx,rfl⟩:=List.mem_map.1 hc;exact⟨Hf (hk.cp x hx),wI (hk.ca x hx) (by omega) n⟩
def ke(C:Ck)(n:Nat)(y:Br)(u:I6):Int :=
  if C.ov||C.dp.getD n false then 10 else if ji C.s n y u≠0 then ji C.s n y u else if CJ y ⟨C.p,u⟩≠0 then CJ y ⟨C.p,u⟩ else EJ C.o.rule C.s y (zn C n) ⟨C.p,u⟩
def qB(C:Ck)(n:Nat)(u:I6):Ck:={ C with ask:=C.ask.set n u,bd:=C.bd.set n true }
theorem Qp(s:St w0 w (Sep (dW b C++[B])))(hk:C.Ok){n:Nat}{y:Br}(hy:C.s.bd[n]? = some y)(u:I6) :
    CP 123 #[.pointer (some ⟨b,0,none⟩),iv n,.agg u.vs.toArray] w (λ r w'=>r=iv (ke C n y u)/\(if ke C n y u=0 then St w0 w' (Sep (dW b (qB C n u)++[B])) else St w0 w' (Sep (dW b C++[B])))):=by
  refine qG ?_;unfold mu;have hn:=(List.getElem?_eq_some_iff.1 hy).1;have z:=hk.s.bd.l2; have z1:=hk.dp; have z2:=hk.ask; have z3:=hk.bd; have z4:=hk.cl;have bad:∀ {e:Int} {w' : World},e≠0->ke C n y u=e->St w0 w' (Sep (dW b C++[B]))->(iv e=iv (ke C n y u)/\(if ke C n y u=0 then St w0 w' (Sep (dW b (qB C n u)++[B])) else St w0 w' (Sep (dW b C++[B])))):=λ he hb hc=>by
    rw[hb,if_neg he]; exact⟨rfl,hc⟩
  refine s.ax u.vs.toArray λ r1 w1 s1=>?_;refine⟨_,s1.ag 1 rfl 18,?_⟩
  cases hov:C.ov with
  | true=>exact cT rfl (bad (by decide) (by rw[ke,hov]; rfl) s1.second)
  | false =>
  have rdO:∀ {w' : World} {L:List aD},St w0 w' (Sep (L++(dW b C++[B])))->C.Rd b w':=λ s=>((s.split _).second.split (dW b C)).first.imp uV;have EH:C.Rd b w1:=rdO (L:=[_]) s1;refine cF rfl (aj (E9 EH n) ?_);rintro v w2 ⟨rfl,rfl⟩;refine⟨_,rfl,cF (by simp; omega) ?_⟩;have hx:C.dp[n]? = some (C.dp[n]'(by omega)):=gE (by omega);generalize C.dp[n]'(by omega)=x at hx;have hgx:C.dp.getD n false=x:=by rw[List.getD_eq_getElem?_getD,hx]; rfl
  obtain⟨q,hq,hcl⟩:=EH.dp.at hx;refine⟨_,_,_,EH.cell 17 rfl,au hq ⟨by omega,by omega,x,hcl.1,?_⟩⟩
  cases x with
  | true=>exact cT rfl (bad (by decide) (by rw[ke,hgx]; simp) s1.second)
  | false =>
  have e0:ke C n y u=if ji C.s n y u≠0 then ji C.s n y u else if CJ y ⟨C.p,u⟩≠0 then CJ y ⟨C.p,u⟩ else EJ C.o.rule C.s y (zn C n) ⟨C.p,u⟩:=by rw[ke,hov,hgx]; rfl
  have s2:=s1.quiet (az.drew w2 []);refine cF rfl ⟨C.p,s2.aP 1 9 rfl rfl,u,s2.cellsIn 0 rfl,s2.ax A6.cells.toArray λ r2 w3 s3=>⟨s3.cellsIn 1 rfl,s3.aP 2 9 rfl rfl,s3.aA 0 rfl (Ch.mk C.p u).cells rfl (Ch.one _) λ w4 s4=>?_⟩⟩;have s5:=s4.quiet (az.drew w4 []);have inC:∀ {w' : World} {L:List aD} {i:Nat},St w0 w' (Sep L)->L[i]? = some (held C.In)->C.In w':=λ s e=>s.iP _ e;have i5:=(inC s5 (i:=7) rfl).s;refine⟨_,_,_,_,_,_,_,_,_,_,_,_,s5.aP 2 0 rfl rfl,u,s5.cellsIn 1 rfl,aj (zN i5 hk.s hy u) ?_⟩;rintro v w5 ⟨rfl,c5⟩;have s6:=(s5.quiet c5);refine⟨_,rfl,?_⟩
  by_cases h1:ji C.s n y u=0
  · rw[if_neg (by simpa using h1)] at e0;have hu:I6.Le u 4:=by
      unfold ji at h1
      split at h1
      · rename_i h; exact Jl h
      · cases h1
    have hc:(Ch.mk C.p u).Ok:=⟨Hf hk.p,hu⟩;have s7:=s6.quiet (az.drew w5 []);have i7:Jq w5.drew C.s:=⟨(inC s7 (i:=7) rfl).s,hk.s⟩;have a7:=s7.aP (vs:=C.s.arr.toList) 2 0 rfl rfl;have b7:af w5.drew ⟨r2,0,none⟩ 0 (C.p.on u.vs):=s7.cellsIn 0 rfl;refine cF (by rw[h1]; rfl) ⟨_,_,_,_,_,_,_,_,_,_,_,_,a7,C.p,u,b7,?_⟩;have h7:=Jt i7 hy hc;refine aj h7 ?_;rintro v w6 ⟨rfl,c6⟩;have s8:=(s7.quiet c6).quiet (az.drew w6 []);refine⟨_,rfl,?_⟩
    by_cases h2:CJ y ⟨C.p,u⟩=0
    · rw[if_neg (by simpa using h2)] at e0;have rd8:C.Rd b w6.drew:=rdO (L:=[_,_]) s8;refine cF (by rw[h2]; rfl) ⟨_,_,_,_,_,_,_,_,_,_,_,_,s8.aP 2 0 rfl rfl,_,s8.ag 2 rfl 7,C.p,u,s8.cellsIn 0 rfl,aj (z7 rd8 hk hn) ?_⟩;rintro v w7 ⟨a',c',rfl,k7⟩;have s9:St w0 w7 (Sep (_ :: _)):=s8.and k7;have hcap:(zn C n).length<=c':=(St.mK s9).1;have hlen:(zn C n).length=C.cl.length:=by simp[zn]
      have i9:Jq w7 C.s:=⟨(inC s9 (i:=8) rfl).s,hk.s⟩;refine⟨_,_,_,rfl,s9.cellsIn 1 rfl,s9.ag 3 rfl 7,s9.aP 3 0 rfl rfl,aj (Jr i9 hy (St.rd Ch.len s9) hcap (by omega) (OM hk) hc C.o.rule) ?_⟩;rintro v w8 ⟨rfl,c8⟩;have s10:=(s9.quiet c8);refine⟨_,rfl,?_⟩
      by_cases h3:EJ C.o.rule C.s y (zn C n) ⟨C.p,u⟩=0
      · have s11:=s10.quiet (az.drew w8 []);obtain⟨g1,e1⟩:=(s11.out 4 rfl).uC (by omega);obtain⟨g2,e2⟩:=(s11.out 5 rfl).uC (by omega);refine cF (by rw[h3]; rfl) ⟨_,_,_,s11.ag 3 rfl 15,_,_,_,s11.ag 3 rfl 16,u,s11.cellsIn 2 rfl,au e1 ⟨by omega,by omega,?_⟩⟩;rw[Int.toNat_natCast];have t1:=s11.out 4 rfl;rw[e1] at t1;refine St.Em cS (x:=u) u.one t1 (i:=n) (by omega) λ w9 s12=>au e2 ⟨by omega,by omega,?_⟩;have t2:=(s12.back (show 4<10 by decide)).out 5 rfl;rw[e2] at t2;refine St.iZ (v:=.bool) (x:=true) rfl t2 (i:=n) (by omega) λ w10 s13=>?_;have s14:=s13.back (show 5<10 by decide);rw[<- e1,<- e2] at s14;have eb:ke C n y u=0:=by rw[e0,h3]
        rw[eb];refine⟨rfl,?_⟩;rw[if_pos rfl];have eC:(qB C n u).cells=C.cells:=by simp[qB,Ck.cells]
        show St w0 w10 (Sep [ai b (qB C n u).cells.toArray 179,_,_,_,_,_,B]);rw[eC]; exact s14.aq [3,4,5,6,7,8,9]
      · exact cT (by simpa using h3) (bad h3 e0 (s10.aq [3,4,5,6,7,8,9]))
    · rw[if_pos (by simpa using h2)] at e0;exact cT (by simpa using h2) (bad h2 e0 ((s7.quiet c6).aq [2,3,4,5,6,7,8]))
  · rw[if_pos (by simpa using h1)] at e0;exact cT (by simpa using h1) (bad h1 e0 (s6.aq [2,3,4,5,6,7,8]))
end
structure Bd where
  x:Xv
  has:Bool
  out:Bool
def Bd.cells(b:Bd):List Value:=b.x.cells++[.bool b.has,.bool b.out]
theorem Bd.len(b:Bd):b.cells.length=11:=rfl
def dH:Bd:=⟨dG,false,false⟩
structure Sx where
  o:Po
  ph:Int
  s:Se
  k:Option Addr
  bd:List Bd
  dec:Int
  cnt:Int
  dig:Int
def Sx.cells(S:Sx):List Value:=S.o.cells++(iv S.ph :: (S.s.arr.toList++(.pointer S.k :: (S.bd.flatMap Bd.cells++[.int .u64 S.dec,iv S.cnt,.int .u64 S.dig]))))
theorem Sx.len{S:Sx}(h:S.bd.length=8):S.cells.length=101:=by
  unfold Sx.cells;simp only[List.length_append,List.length_cons,List.length_nil,cL Bd.len,h];rfl
theorem bO{l:List Bd}(h:l.length=8):∃ a b c d e f g i,l=[a,b,c,d,e,f,g,i]:=by
  match l,h with
  | [a,b,c,d,e,f,g,i],_=>exact⟨a,b,c,d,e,f,g,i,rfl⟩
theorem Hv{S:Sx}(h:S.bd.length=8){i:Nat}(hi:i<8){y:Bd}(hy:S.bd[i]? = some y)(x:Xv) :
    S.cells.take (10+i*11)++x.cells++S.cells.drop (10+i*11+9)=({ S with bd:=S.bd.set i { y with x:=x } }:Sx).cells:=by
  obtain⟨o,ph,s,k,bd,dec,cnt,dig⟩:=S;obtain⟨b0,b1,b2,b3,b4,b5,b6,b7,rfl⟩:=bO h
  match i,hi with
  | 0,_ | 1,_ | 2,_ | 3,_ | 4,_ | 5,_ | 6,_ | 7,_=>cases hy; rfl
theorem Hu{S:Sx}(h:S.bd.length=8){i:Nat}(hi:i<8){y:Bd}(hy:S.bd[i]? = some y)(v:Bool) :
    S.cells.toArray.setIfInBounds (10+i*11+9) (.bool v)=({ S with bd:=S.bd.set i { y with has:=v } }:Sx).cells.toArray:=by
  obtain⟨o,ph,s,k,bd,dec,cnt,dig⟩:=S;obtain⟨b0,b1,b2,b3,b4,b5,b6,b7,rfl⟩:=bO h
  match i,hi with
  | 0,_ | 1,_ | 2,_ | 3,_ | 4,_ | 5,_ | 6,_ | 7,_=>cases hy; rfl
theorem Ol{S:Sx}(h:S.bd.length=8){i:Nat}(hi:i<8){y:Bd}(hy:S.bd[i]? = some y)(v:Bool) :
    S.cells.toArray.setIfInBounds (10+i*11+10) (.bool v)=({ S with bd:=S.bd.set i { y with out:=v } }:Sx).cells.toArray:=by
  obtain⟨o,ph,s,k,bd,dec,cnt,dig⟩:=S;obtain⟨b0,b1,b2,b3,b4,b5,b6,b7,rfl⟩:=bO h
  match i,hi with
  | 0,_ | 1,_ | 2,_ | 3,_ | 4,_ | 5,_ | 6,_ | 7,_=>cases hy; rfl
theorem SN(b i:Nat):Addr.add ⟨b,10,none⟩ (((i:Nat):Int).toNat*11)=⟨b,10+i*11,none⟩:=by rw[bG,Int.toNat_natCast]
def Gw(y:Bd):Bd:={ y with x:=dG,has:=false }
def bp(S:Sx)(i:Nat):Sx:={ S with bd:=S.bd.set i (Gw (S.bd.getD i dH)) }
theorem Cn{w0 w:World}{b:Nat}{S:Sx}{m:List aD}(s:St w0 w (Sep (ai b S.cells.toArray 114 :: m)))(h:S.bd.length=8){i:Nat}(hi:i<8) :
    CP 127 #[.pointer (some ⟨b,0,none⟩),iv i] w (λ r w'=>r=.tuple #[]/\St w0 w' (Sep (ai b (bp S i).cells.toArray 114 :: m))):=by
  refine p5 ?_;unfold kS;have hy:S.bd[i]? = some (S.bd[i]'(by omega)):=gE (by omega);have hd:S.bd.getD i dH=S.bd[i]'(by omega):=by rw[List.getD_eq_getElem?_getD,hy]; rfl
  generalize S.bd[i]'(by omega)=y at hy hd;have s1:=s.quiet (az.drew w []);have hsz:S.cells.toArray.size=101:=by simpa using Sx.len h
  refine⟨by omega,by omega,?_⟩;rw[SN];refine s1.oF 0 (10+i*11) rfl (vs:=dG.cells) ({ S with bd:=S.bd.set i { y with x:=dG } }:Sx).cells.toArray (by rw[hsz,Xv.len]; omega) (Xv.one _) (by rw[Xv.len]; exact congrArg List.toArray (Hv h hi hy dG)) λ w1 s2=>⟨by omega,by omega,?_⟩;rw[bG];let S1:Sx:={ S with bd:=S.bd.set i { y with x:=dG } };have h1:S1.bd.length=8:=by simpa[S1] using h
  have hy1:S1.bd[i]? = some { y with x:=dG }:=by
    show(S.bd.set i _)[i]? = _;rw[List.getElem?_set_self (by omega)]
  have hsz1:S1.cells.toArray.size=101:=by simpa using Sx.len h1
  refine s2.aH 0 rfl (j:=10+i*11+9) (by show _<S1.cells.toArray.size; rw[hsz1]; omega) rfl λ w2 s3=>⟨rfl,?_⟩;have e:=Hu h1 hi hy1 false;have e2:({ S1 with bd:=S1.bd.set i { ({ y with x:=dG }:Bd) with has:=false } }:Sx)=bp S i:=by
    unfold bp;rw[hd];show({ S with bd:=(S.bd.set i _).set i _ }:Sx)=_;rw[List.set_set]; rfl
  rw[e2] at e;rw[<- e];exact s3
end Go.Proofs.YtpihmghnbplohaaGreatDoor
