import Derived.Test.YtemiicbbbojdiaaGreatDoorProg
import Derived.KernelRfl
import Derived.Shelf.Strings.Builder1
import Derived.Shelf.Strings.Builder2
import Derived.Shelf.Strings.OnBuilder
import Derived.Shelf.Small.Utf8
import Derived.Shelf.Small.Strs
import Derived.Shelf.Strconv.Atoi
import Derived.Shelf.Strconv.Itoa0
import Derived.Shelf.Strconv.Itoa1
import Derived.Shelf.LaysM
import Derived.Shelf.Strconv.Itoa2
import Derived.Shelf.Strconv.Itoa3
import Derived.Shelf.Strconv.Itoa4
import Derived.Shelf.Strings.Search1
import Derived.Shelf.Strings.Search2
import Derived.Shelf.Strings.Search3
import Derived.Shelf.Strings.Count
import Derived.Shelf.Strings.Shaped
import Derived.Shelf.Strings.Split
import Derived.Shelf.Strings.Runes
import Derived.Shelf.Unicode.DecodeSlow
import Derived.WalkMore
import Derived.Outline
import Derived.RegionTactic
import Derived.Deep.RegionWith
import Derived.Scope
import Derived.DataElems
import Derived.Test.YtemiicbbbojdiaaGreatDoorT01
set_option linter.unusedVariables false
set_option maxRecDepth 100000
namespace Go.Proofs.YtemiicbbbojdiaaGreatDoor
open Go Go.Vc _root_.Go.Proofs.Tryz
def mL(a:Int)(w:World)(K:KP):Prop:=cond (decide (a>=48)) (K (.bool (decide (a<=57))) w) (K (.bool false) w)
theorem mM{n1 w K}(h:mL n1 w K):CP 180 #[.int .u8 n1] w (K):=ai (aZ []) func180 (by kernel_rfl) (by kernel_rfl) h
def jK(a:Int)(w:World)(K:KP):Prop:=cond (decide (a>=97)) (K (.bool (decide (a<=122))) w) (K (.bool false) w)
theorem kK{n1 w K}(h:jK n1 w K):CP 158 #[.int .u8 n1] w (K):=ai (aZ []) func158 (by kernel_rfl) (by kernel_rfl) h
def rI(a:ByteArray)(w:World)(K:KP):Prop:=aI w (.cells #[iv 0,.string (bs []),iv 0,iv 0] 213) λ b c=>0<=(0:Int)/\ah a[((0:Int)).toNat]? λ d=>Calls prog 158 #[.int .u8 (d.toNat:Int)] c λ c d=>∃ e,c=.returned (.bool e)/\cond e (∃ c:Int->World->Nat->Prop,(∃ e,c 1 d e)/\∀ f e g,c g f e->∀ h:Nat->Value,∃ h:Bool->World->Prop,(∀ i j,h j i->∀ k:Nat->Value,cond j (∃ j,j<e/\c (IntKind.i64.wrap (g+1)) i j) (cond (decide (g>12)) (fS ⟨b,0,none⟩ 0 [iv 0,.string (bs []),iv 0,iv 0] i λ c=>∃ e j k l,aa c ⟨b,0,none⟩ 0 [iv e,.string j,iv k,iv l]/\K (.tuple #[.agg #[iv e,.string j,iv k,iv l],iv 3]) c) (0<=g/\g<=((a.size:Nat):Int)/\fS ⟨b,0,none⟩ 0 [iv 1,.string (a.extract 0 ((g).toNat)),iv 0,iv 0] i λ c=>∃ e i j k,aa c ⟨b,0,none⟩ 0 [iv e,.string i,iv j,iv k]/\K (.tuple #[.agg #[iv e,.string i,iv j,iv k],iv 0]) c)))/\cond (decide (g<((a.size:Nat):Int))) (0<=g/\ah a[(g).toNat]? λ c=>Calls prog 158 #[.int .u8 (c.toNat:Int)] f λ c e=>∃ i,c=.returned (.bool i)/\cond i (h true e) (0<=g/\ah a[(g).toNat]? λ c=>Calls prog 180 #[.int .u8 (c.toNat:Int)] e λ c e=>∃ i,c=.returned (.bool i)/\cond i (h true e) (0<=g/\ah a[(g).toNat]? λ c=>h ((c.toNat:Int)==(95:Int)) e))) (h false f)) (0<=(0:Int)/\ah a[((0:Int)).toNat]? λ c=>Calls prog 180 #[.int .u8 (c.toNat:Int)] d λ c d=>∃ e,c=.returned (.bool e)/\cond e (∃ c:Int->World->Nat->Prop,(∃ e,c 1 d e)/\∀ f e g,c g f e->∀ h:Nat->Value,∃ h:Bool->World->Prop,(∀ i j,h j i->∀ k:Nat->Value,cond j (∃ j,j<e/\c (IntKind.i64.wrap (g+1)) i j) (∃ c:Bool->World->Prop,(∀ e j,c j e->∀ k:Nat->Value,cond j (fS ⟨b,0,none⟩ 0 [iv 0,.string (bs []),iv 0,iv 0] e λ j=>∃ k l m n,aa j ⟨b,0,none⟩ 0 [iv k,.string l,iv m,iv n]/\K (.tuple #[.agg #[iv k,.string l,iv m,iv n],iv 2]) j) (cond (decide (g>9)) (fS ⟨b,0,none⟩ 0 [iv 0,.string (bs []),iv 0,iv 0] e λ j=>∃ k l m n,aa j ⟨b,0,none⟩ 0 [iv k,.string l,iv m,iv n]/\K (.tuple #[.agg #[iv k,.string l,iv m,iv n],iv 4]) j) (∃ j:Int->Int->World->Nat->Prop,(∃ k,j 0 (0:Int) e k)/\∀ e k l m,j l m e k->∀ n:Nat->Value,cond (decide (m<g)) (0<=m/\ah a[(m).toNat]? λ n=>∃ o,o<k/\j (IntKind.i64.wrap ((IntKind.i64.wrap (l*10))+(IntKind.i64.wrap (IntKind.u8.wrap ((n.toNat:Int)-(48:Int)))))) (IntKind.i64.wrap (m+1)) e o) (0<=g/\g<=((a.size:Nat):Int)/\fS ⟨b,0,none⟩ 0 [iv 2,.string (a.extract 0 ((g).toNat)),iv l,iv 0] e λ e=>∃ j k l m,aa e ⟨b,0,none⟩ 0 [iv j,.string k,iv l,iv m]/\K (.tuple #[.agg #[iv j,.string k,iv l,iv m],iv 0]) e))))/\cond (decide (g>1)) (0<=(0:Int)/\ah a[((0:Int)).toNat]? λ e=>c ((e.toNat:Int)==(48:Int)) i) (c false i)))/\cond (decide (g<((a.size:Nat):Int))) (0<=g/\ah a[(g).toNat]? λ c=>Calls prog 180 #[.int .u8 (c.toNat:Int)] f λ c e=>∃ g,c=.returned (.bool g)/\h g e) (h false f)) (0<=(0:Int)/\ah a[((0:Int)).toNat]? λ c=>Calls prog 181 #[.int .u8 (c.toNat:Int)] d λ c d=>∃ e,c=.returned (.bool e)/\cond e (0<=(1:Int)/\(1:Int)<=((a.size:Nat):Int)/\fS ⟨b,0,none⟩ 0 [iv 3,.string (a.extract 0 (((1:Int)).toNat)),iv 0,iv 0] d λ a=>∃ c e f g,aa a ⟨b,0,none⟩ 0 [iv c,.string e,iv f,iv g]/\K (.tuple #[.agg #[iv c,.string e,iv f,iv g],iv 0]) a) (fS ⟨b,0,none⟩ 0 [iv 0,.string (bs []),iv 0,iv 0] d λ a=>∃ c d e f,aa a ⟨b,0,none⟩ 0 [iv c,.string d,iv e,iv f]/\K (.tuple #[.agg #[iv c,.string d,iv e,iv f],iv 2]) a)))
theorem p7{s1 w K}(h:rI s1 w K):CP 159 #[.string s1] w (K):=ai (aZ [(456,[(4,.s (.int .i64))]),(1824,[(32,.s .bool)]),(1848,[(4,.s (.int .i64))]),(7392,[(55,.s .bool)]),(1850,[(64,.s .bool)]),(59258,[(5,.s (.int .i64)),(6,.s (.int .i64))])]) func159 (by kernel_rfl) (by kernel_rfl) h
def jI(a:ByteArray)(w:World)(K:KP):Prop:=∃ b:Bool->World->Prop,(∀ c d,b d c->∀ e:Nat->Value,cond d (K (.bool false) c) (Calls prog 159 #[.string a] c λ c d=>∃ e f g h i,c=.returned (.tuple #[.agg #[iv e,.string f,iv g,iv h],iv i])/\aI d (.cells #[iv 0,.string (bs []),iv 0,iv 0] 213) λ c d=>fS ⟨c,0,none⟩ 0 [iv e,.string f,iv g,iv h] d λ d=>cond (i==0) (∃ e,d.cell? ⟨c,1,none⟩=some (.string e)/\K (.bool (e.toList==a.toList)) d) (K (.bool false) d)))/\cond (a.toList==(bs []).toList) (b true w) (cond (decide (((a.size:Nat):Int)>(12:Int))) (b true w) (0<=(0:Int)/\ah a[((0:Int)).toNat]? λ a=>Calls prog 158 #[.int .u8 (a.toNat:Int)] w λ a c=>∃ d,a=.returned (.bool d)/\b (!d) c))
theorem kI{s1 w K}(h:jI s1 w K):CP 128 #[.string s1] w (K):=ai (aZ [(6,[(17,.s .bool)])]) func128 (by kernel_rfl) (by kernel_rfl) h
def jJ(a:ByteArray)(w:World)(K:KP):Prop:=∃ b:Bool->World->Prop,(∀ c d,b d c->∀ e:Nat->Value,cond d (K (.bool false) c) (∃ d:Int->World->Nat->Prop,(∃ e,d 0 c e)/\∀ c e f,d f c e->∀ g:Nat->Value,cond (decide (f<((a.size:Nat):Int))) (∃ g:Bool->World->Prop,(∀ h i,g i h->∀ j:Nat->Value,∃ j:Bool->World->Prop,(∀ k l,j l k->∀ m:Nat->Value,cond l (K (.bool false) k) (∃ l,l<e/\d (IntKind.i64.wrap (f+1)) k l))/\cond (!i) (cond (f==0) (j true h) (0<=f/\ah a[(f).toNat]? λ d=>cond ((d.toNat:Int) !=(95:Int)) (0<=f/\ah a[(f).toNat]? λ d=>cond (decide ((d.toNat:Int)<(48:Int))) (j true h) (0<=f/\ah a[(f).toNat]? λ d=>j (decide ((d.toNat:Int)>(57:Int))) h)) (j false h))) (j false h))/\0<=f/\ah a[(f).toNat]? λ d=>cond (decide ((d.toNat:Int)>=(97:Int))) (0<=f/\ah a[(f).toNat]? λ d=>g (decide ((d.toNat:Int)<=(122:Int))) c) (g false c)) (K (.bool true) c)))/\cond (decide (((a.size:Nat):Int)<(1:Int))) (b true w) (b (decide (((a.size:Nat):Int)>(12:Int))) w)
theorem kJ{s1 w K}(h:jJ s1 w K):CP 127 #[.string s1] w (K):=ai (aZ [(6,[(12,.s .bool)]),(58,[(3,.s (.int .i64))]),(932,[(4,.s .bool)]),(1865,[(52,.s .bool)])]) func127 (by kernel_rfl) (by kernel_rfl) h
def mN(a:I6)(w:World)(K:KP):Prop:=aI w (.cells a.vs.toArray 39) λ a b=>∃ c:Int->World->Nat->Prop,(∃ d,c 0 b d)/\∀ b d e,c e b d->∀ f:Nat->Value,cond (decide (e<6)) (∃ f:Bool->World->Prop,(∀ g h,f h g->∀ i:Nat->Value,cond h (K (.bool false) g) (∃ h,h<d/\c (IntKind.i64.wrap (e+1)) g h))/\0<=e/\e<6/\∃ c,b.cell? (Addr.add ⟨a,0,none⟩ ((e).toNat*1))=some (iv c)/\cond (decide (c<0)) (f true b) (0<=e/\e<6/\∃ c,b.cell? (Addr.add ⟨a,0,none⟩ ((e).toNat*1))=some (iv c)/\f (decide (c>4)) b)) (K (.bool true) b)
theorem mO{u1 w K}(h:mN u1 w K):CP 130 #[.agg u1.vs.toArray] w (K):=ai (aZ [(26,[(3,.s (.int .i64))]),(420,[(17,.s .bool)])]) func130 (by kernel_rfl) (by kernel_rfl) h
def o4(a:OA)(b c:Nat)(d:I6)(w:World)(K:KP):Prop:=aI w (.cells d.vs.toArray 39) λ d e=>∃ f:Int->World->Nat->Prop,(∃ g,f (b:Int) e g)/\∀ e g h,f h e g->∀ i:Nat->Value,cond (decide (h<6)) (0<=h/\h<6/\∃ i,e.cell? (Addr.add ⟨d,0,none⟩ ((h).toNat*1))=some (iv i)/\cond (i !=0) (K (.bool false) e) (∃ i,i<g/\f (IntKind.i64.wrap (h+1)) e i)) (Calls prog 87 #[.slice a b c] e λ a b=>∃ c,a=.returned (iv c)/\cond (c==0) (∃ (a:I6),aa b ⟨d,0,none⟩ 0 a.vs/\Calls prog 130 #[.agg a.vs.toArray] b λ a c=>∃ d,a=.returned (.bool d)/\K (.bool d) c) (K (.bool false) b))
theorem nU{a1 l1 c1 u1 w K}(h:o4 a1 l1 c1 u1 w K):CP 90 #[.slice a1 l1 c1,.agg u1.vs.toArray] w (K):=ai (aZ [(26,[(5,.s (.int .i64))])]) func90 (by kernel_rfl) (by kernel_rfl) h
def mF(a:OA)(b c:Nat)(w:World)(K:KP):Prop:=cond ((b:Int)==(0:Int)) (K (iv 1) w) (cond (decide ((b:Int)>(6:Int))) (K (iv 3) w) (∃ c:Int->World->Nat->Prop,(∃ d,c 0 w d)/\∀ e d f,c f e d->∀ g:Nat->Value,cond (decide (f<(b:Int))) (ah a λ g=>0<=f/\f<(b:Int)/\∃ h,e.cell? (Addr.add g ((f).toNat*5))=some (.string h)/\Calls prog 127 #[.string h] e λ g h=>∃ i,g=.returned (.bool i)/\cond (!i) (K (iv 5) h) (∃ g:Int->World->Nat->Prop,(∃ i,g 0 h i)/\∀ h i j,g j h i->∀ k:Nat->Value,cond (decide (j<f)) (ah a λ k=>0<=j/\j<(b:Int)/\∃ l,h.drew.cell? (Addr.add k ((j).toNat*5))=some (.string l)/\ah a λ k=>0<=f/\f<(b:Int)/\∃ m,h.drew.cell? (Addr.add k ((f).toNat*5))=some (.string m)/\cond (l.toList==m.toList) (K (iv 7) h.drew) (∃ k,k<i/\g (IntKind.i64.wrap (j+1)) h.drew k)) (ah a λ g=>0<=f/\f<(b:Int)/\∃ i j k l m,aa h (Addr.add g ((f).toNat*5)) 0 [.string i,iv j,iv k,iv l,iv m]/\aI h (.cells #[.string (bs []),iv 0,iv 0,iv 0,iv 0] 89) λ g h=>fS ⟨g,0,none⟩ 0 [.string i,iv j,iv k,iv l,iv m] h λ h=>∃ i:Bool->World->Prop,(∀ j k,i k j->∀ l:Nat->Value,cond k (K (iv 4) j) (∃ k,k<d/\c (IntKind.i64.wrap (f+1)) j k))/\∃ c,h.cell? ⟨g,1,none⟩=some (iv c)/\cond (decide (c<1)) (i true h) (∃ c,h.cell? ⟨g,1,none⟩=some (iv c)/\cond (decide (c>4)) (i true h) (∃ c,h.cell? ⟨g,2,none⟩=some (iv c)/\cond (decide (c<0)) (i true h) (∃ c,h.cell? ⟨g,2,none⟩=some (iv c)/\cond (decide (c>1000000)) (i true h) (∃ c,h.cell? ⟨g,3,none⟩=some (iv c)/\cond (decide (c<0)) (i true h) (∃ c,h.cell? ⟨g,3,none⟩=some (iv c)/\cond (decide (c>1000)) (i true h) (∃ c,h.cell? ⟨g,4,none⟩=some (iv c)/\cond (decide (c<0)) (i true h) (∃ c,h.cell? ⟨g,4,none⟩=some (iv c)/\i (decide (c>4)) h)))))))))) (∃ c:Int->Int->World->Nat->Prop,(∃ d,c 1 (0:Int) e d)/\∀ e d f g,c f g e d->∀ h:Nat->Value,cond (decide (g<(b:Int))) (ah a λ a=>0<=g/\g<(b:Int)/\∃ b,e.cell? (Addr.add (Addr.add a ((g).toNat*5)) 1)=some (iv b)/\∃ a,a<d/\c (IntKind.i64.wrap (f*(IntKind.i64.wrap (b+1)))) (IntKind.i64.wrap (g+1)) e a) (cond (decide (f>1024)) (K (iv 12) e) (K (iv 0) e)))))
theorem mG{a1 l1 c1 w K}(h:mF a1 l1 c1 w K):CP 87 #[.slice a1 l1 c1] w (K):=ai (aZ [(122,[(3,.s (.int .i64))]),(31306,[(4,.s (.int .i64))]),(15655,[(84,.s .bool)]),(506,[(6,.s (.int .i64)),(7,.s (.int .i64))])]) func87 (by kernel_rfl) (by kernel_rfl) h
def oZ(a:OA)(b c:Nat)(d:ByteArray)(w:World)(K:KP):Prop:=∃ c:Int->World->Nat->Prop,(∃ e,c 0 w e)/\∀ f e g,c g f e->∀ h:Nat->Value,cond (decide (g<(b:Int))) (ah a λ a=>0<=g/\g<(b:Int)/\∃ b,f.cell? (Addr.add a ((g).toNat*4))=some (.string b)/\cond (b.toList==d.toList) (K (.tuple #[iv g,.bool true]) f) (∃ a,a<e/\c (IntKind.i64.wrap (g+1)) f a)) (K (.tuple #[iv 0,.bool false]) f)
theorem nT{a1 l1 c1 s1 w K}(h:oZ a1 l1 c1 s1 w K):CP 129 #[.slice a1 l1 c1,.string s1] w (K):=ai (aZ [(26,[(6,.s (.int .i64))])]) func129 (by kernel_rfl) (by kernel_rfl) h
def mH(a:OA)(b c:Nat)(w:World)(K:KP):Prop:=cond ((b:Int)==(0:Int)) (K (iv 1) w) (cond (decide ((b:Int)>(8:Int))) (K (iv 3) w) (∃ d:Int->World->Nat->Prop,(∃ e,d 0 w e)/\∀ f e g,d g f e->∀ h:Nat->Value,cond (decide (g<(b:Int))) (ah a λ h=>0<=g/\g<(b:Int)/\∃ i,f.cell? (Addr.add h ((g).toNat*4))=some (.string i)/\Calls prog 128 #[.string i] f λ h i=>∃ j,h=.returned (.bool j)/\cond (!j) (K (iv 5) i) (ah a λ h=>0<=g/\g<(b:Int)/\∃ j,i.cell? (Addr.add h ((g).toNat*4))=some (.string j)/\Calls prog 129 #[.slice a b c,.string j] i λ c h=>∃ i j,c=.returned (.tuple #[iv i,.bool j])/\cond (i !=g) (K (iv 7) h) (∃ c:Bool->World->Prop,(∀ i j,c j i->∀ k:Nat->Value,cond j (K (iv 4) i) (∃ j,j<e/\d (IntKind.i64.wrap (g+1)) i j))/\ah a λ d=>0<=g/\g<(b:Int)/\∃ e,h.cell? (Addr.add (Addr.add d ((g).toNat*4)) 1)=some (iv e)/\cond (decide (e<0)) (c true h) (ah a λ d=>0<=g/\g<(b:Int)/\∃ e,h.cell? (Addr.add (Addr.add d ((g).toNat*4)) 1)=some (iv e)/\cond (decide (e>4)) (c true h) (ah a λ d=>0<=g/\g<(b:Int)/\∃ e,h.cell? (Addr.add (Addr.add d ((g).toNat*4)) 2)=some (iv e)/\cond (decide (e<0)) (c true h) (ah a λ d=>0<=g/\g<(b:Int)/\∃ e,h.cell? (Addr.add (Addr.add d ((g).toNat*4)) 2)=some (iv e)/\cond (decide (e>1000000)) (c true h) (ah a λ d=>0<=g/\g<(b:Int)/\∃ e,h.cell? (Addr.add (Addr.add d ((g).toNat*4)) 3)=some (iv e)/\cond (decide (e<0)) (c true h) (ah a λ a=>0<=g/\g<(b:Int)/\∃ b,h.cell? (Addr.add (Addr.add a ((g).toNat*4)) 3)=some (iv b)/\c (decide (b>24000)) h)))))))) (K (iv 0) f)))
theorem mI{a1 l1 c1 w K}(h:mH a1 l1 c1 w K):CP 88 #[.slice a1 l1 c1] w (K):=ai (aZ [(122,[(3,.s (.int .i64))]),(7827,[(83,.s .bool)])]) func88 (by kernel_rfl) (by kernel_rfl) h
def mJ(a:OA)(b c:Nat)(d:OA)(e f:Nat)(g:OA)(h i:Nat)(j:OA)(k l:Nat)(w:World)(K:KP):Prop:=aI w (.cells #[.slice a b c,.slice d e f,.slice g h i,.slice j k l] 34) λ a b=>∃ c d e,b.cell? ⟨a,0,none⟩=some (.slice c d e)/\Calls prog 87 #[.slice c d e] b λ b c=>∃ d,b=.returned (iv d)/\∃ b:Int->World->Prop,(∀ e f,b f e->∀ g:Nat->Value,cond (f !=0) (K (iv f) e) (∃ f g h,e.cell? ⟨a,2,none⟩=some (.slice f g h)/\cond (decide ((g:Int)>(16:Int))) (K (iv 3) e) (∃ f:Int->World->Nat->Prop,(∃ g,f 0 e g)/\∀ e g h,f h e g->∀ i:Nat->Value,∃ i j k,e.cell? ⟨a,2,none⟩=some (.slice i j k)/\cond (decide (h<(j:Int))) (∃ i j k,e.cell? ⟨a,2,none⟩=some (.slice i j k)/\ah i λ i=>0<=h/\h<(j:Int)/\∃ j k l,aa e (Addr.add i ((h).toNat*3)) 0 [iv j,iv k,iv l]/\aI e (.cells #[iv 0,iv 0,iv 0] 95) λ i m=>fS ⟨i,0,none⟩ 0 [iv j,iv k,iv l] m λ j=>∃ k:Bool->World->Prop,(∀ l m,k m l->∀ n:Nat->Value,cond m (K (iv 6) l) (∃ m:Bool->World->Prop,(∀ n o,m o n->∀ p:Nat->Value,cond o (K (iv 4) n) (∃ o:Int->World->Nat->Prop,(∃ p,o 0 n p)/\∀ n p q,o q n p->∀ r:Nat->Value,cond (decide (q<h)) (∃ r:Bool->World->Prop,(∀ s t,r t s->∀ u:Nat->Value,cond t (K (iv 7) s) (∃ t,t<p/\o (IntKind.i64.wrap (q+1)) s t))/\∃ o p s,n.drew.cell? ⟨a,2,none⟩=some (.slice o p s)/\ah o λ o=>0<=q/\q<(p:Int)/\∃ p,n.drew.cell? (Addr.add o ((q).toNat*3))=some (iv p)/\∃ o,n.drew.cell? ⟨i,0,none⟩=some (iv o)/\cond (p==o) (∃ o p s,n.drew.cell? ⟨a,2,none⟩=some (.slice o p s)/\ah o λ o=>0<=q/\q<(p:Int)/\∃ p,n.drew.cell? (Addr.add (Addr.add o ((q).toNat*3)) 1)=some (iv p)/\∃ o,n.drew.cell? ⟨i,1,none⟩=some (iv o)/\r (p==o) n.drew) (r false n.drew)) (∃ o,o<g/\f (IntKind.i64.wrap (h+1)) n o)))/\∃ f,l.cell? ⟨i,1,none⟩=some (iv f)/\cond (decide (f<0)) (m true l) (∃ f,l.cell? ⟨i,1,none⟩=some (iv f)/\cond (decide (f>4)) (m true l) (∃ f,l.cell? ⟨i,2,none⟩=some (iv f)/\cond (decide (f<0)) (m true l) (∃ f,l.cell? ⟨i,2,none⟩=some (iv f)/\m (decide (f>24)) l)))))/\∃ f,j.cell? ⟨i,0,none⟩=some (iv f)/\cond (decide (f<(-1:Int))) (k true j) (∃ f,j.cell? ⟨i,0,none⟩=some (iv f)/\∃ g h i,j.cell? ⟨a,1,none⟩=some (.slice g h i)/\k (decide (f>=(h:Int))) j)) (∃ f g h,e.cell? ⟨a,3,none⟩=some (.slice f g h)/\cond (decide ((g:Int)>(6:Int))) (K (iv 3) e) (∃ f:Int->World->Nat->Prop,(∃ g,f 0 e g)/\∀ e g h,f h e g->∀ i:Nat->Value,∃ i j k,e.cell? ⟨a,3,none⟩=some (.slice i j k)/\cond (decide (h<(j:Int))) (∃ i j k,e.cell? ⟨a,3,none⟩=some (.slice i j k)/\ah i λ i=>0<=h/\h<(j:Int)/\∃ j k l,aa e (Addr.add i ((h).toNat*3)) 0 [iv j,iv k,iv l]/\aI e (.cells #[iv 0,iv 0,iv 0] 98) λ i m=>fS ⟨i,0,none⟩ 0 [iv j,iv k,iv l] m λ j=>∃ k:Bool->World->Prop,(∀ l m,k m l->∀ n:Nat->Value,cond m (K (iv 6) l) (∃ m:Bool->World->Prop,(∀ n o,m o n->∀ p:Nat->Value,cond o (K (iv 4) n) (∃ o:Int->World->Nat->Prop,(∃ p,o 0 n p)/\∀ n p q,o q n p->∀ r:Nat->Value,cond (decide (q<h)) (∃ r s t,n.drew.cell? ⟨a,3,none⟩=some (.slice r s t)/\ah r λ r=>0<=q/\q<(s:Int)/\∃ s,n.drew.cell? (Addr.add r ((q).toNat*3))=some (iv s)/\∃ r,n.drew.cell? ⟨i,0,none⟩=some (iv r)/\cond (s==r) (K (iv 7) n.drew) (∃ r,r<p/\o (IntKind.i64.wrap (q+1)) n.drew r)) (∃ o,o<g/\f (IntKind.i64.wrap (h+1)) n o)))/\∃ f,l.drew.cell? ⟨i,1,none⟩=some (iv f)/\cond (decide (f<1)) (m true l.drew) (∃ f,l.drew.cell? ⟨i,1,none⟩=some (iv f)/\cond (decide (f>4)) (m true l.drew) (∃ f,l.drew.cell? ⟨i,2,none⟩=some (iv f)/\cond (decide (f<1)) (m true l.drew) (∃ f,l.drew.cell? ⟨i,2,none⟩=some (iv f)/\∃ g h n,l.drew.cell? ⟨a,0,none⟩=some (.slice g h n)/\∃ n,l.drew.cell? ⟨i,0,none⟩=some (iv n)/\ah g λ g=>0<=n/\n<(h:Int)/\∃ h,l.drew.cell? (Addr.add (Addr.add g ((n).toNat*5)) 1)=some (iv h)/\m (decide (f>h)) l.drew)))))/\∃ f,j.cell? ⟨i,0,none⟩=some (iv f)/\cond (decide (f<0)) (k true j) (∃ f,j.cell? ⟨i,0,none⟩=some (iv f)/\∃ g h i,j.cell? ⟨a,0,none⟩=some (.slice g h i)/\k (decide (f>=(h:Int))) j)) (K (iv 0) e))))))/\cond (d==0) (∃ e f g,c.cell? ⟨a,1,none⟩=some (.slice e f g)/\Calls prog 88 #[.slice e f g] c λ a e=>∃ f,a=.returned (iv f)/\b f e) (b d c)
theorem mK{a1 l1 c1 a2 l2 c2 a3 l3 c3 a4 l4 c4 w K}(h:mJ a1 l1 c1 a2 l2 c2 a3 l3 c3 a4 l4 c4 w K):CP 58 #[.agg #[.slice a1 l1 c1,.slice a2 l2 c2,.slice a3 l3 c3,.slice a4 l4 c4]] w (K):=ai (aZ [(7,[(3,.s (.int .i64))]),(506,[(4,.s (.int .i64))]),(32402,[(47,.s .bool)]),(64806,[(65,.s .bool)]),(259230,[(6,.s (.int .i64))]),(4147684,[(90,.s .bool)]),(2042,[(7,.s (.int .i64))]),(130706,[(117,.s .bool)]),(261414,[(142,.s .bool)]),(1045662,[(9,.s (.int .i64))])]) func58 (by kernel_rfl) (by kernel_rfl) h
def jD(n:Int):Bool:=decide (97<=n)&&decide (n<=122)
def nt(n:Int):Bool:=decide (48<=n)&&decide (n<=57)
def inr(n:Int):Bool:=jD n||(nt n||(n==95))
def un(c:UInt8):Int:=(c.toNat:Int)
def aK(l:List UInt8):Bool:=!l.isEmpty&&(decide (l.length<=12)&&((l.head?.map λ c=>jD (un c)).getD false&&l.all λ c=>inr (un c)))
theorem wrap32(c:UInt8):IntKind.i32.wrap (c.toNat:Int)=un c:=by
  have:=c.toNat_lt;simp only[IntKind.wrap,IntKind.signed,IntKind.bits,un]
  simp
  omega
theorem l8(w:World)(n:Int):CP 149 #[.int .i32 n] w (λ r w'=>r=.bool (jD n)/\w' = w):=by
  refine mA ?_;unfold mz
  by_cases h:97<=n
  · exact cT (by simpa using h) ⟨by simp[jD,h],rfl⟩
  · exact cF (by simpa using h) ⟨by simp[jD,h],rfl⟩
theorem tu(w:World)(n:Int):CP 175 #[.int .i32 n] w (λ r w'=>r=.bool (nt n)/\w' = w):=by
  refine nO ?_;unfold oU
  by_cases h:48<=n
  · exact cT (by simpa using h) ⟨by simp[nt,h],rfl⟩
  · exact cF (by simpa using h) ⟨by simp[nt,h],rfl⟩
theorem gr(w:World)(n:Int):CP 158 #[.int .u8 n] w (λ r w'=>r=.bool (jD n)/\w' = w):=by
  refine kK ?_;unfold jK
  by_cases h:97<=n
  · exact cT (by simpa using h) ⟨by simp[jD,h],rfl⟩
  · exact cF (by simpa using h) ⟨by simp[jD,h],rfl⟩
theorem rK(w:World)(n:Int):CP 180 #[.int .u8 n] w (λ r w'=>r=.bool (nt n)/\w' = w):=by
  refine mM ?_;unfold mL
  by_cases h:48<=n
  · exact cT (by simpa using h) ⟨by simp[nt,h],rfl⟩
  · exact cF (by simpa using h) ⟨by simp[nt,h],rfl⟩
theorem uk(w:World)(n:Int):CP 151 #[.int .i32 n] w (λ r w'=>r=.bool (inr n)/\w' = w):=by
  refine nQ ?_;unfold oW;refine aD (l8 w n) ?_;rintro v w1 ⟨rfl,rfl⟩;refine⟨_,rfl,?_⟩
  cases h1:jD n with
  | true=>exact cT rfl ⟨by simp[inr,h1],rfl⟩
  | false =>
    refine cF rfl (aD (tu w1 n) ?_);rintro v w2 ⟨rfl,rfl⟩;refine⟨_,rfl,?_⟩
    cases h2:nt n with
    | true=>exact cT rfl ⟨by simp[inr,h1,h2],rfl⟩
    | false=>exact cF rfl ⟨by simp[inr,h1,h2],rfl⟩
theorem mU{l:List UInt8}{p:UInt8->Bool}{k:Nat}(h:(l.take k).all p=true)(hk:k<=l.length)(he:k=l.length\/∃ c,l[k]? = some c/\p c=false):(l.take k==l)=l.all p:=by
  rcases he with rfl | ⟨c,hc,hp⟩
  · rw[List.take_length] at h ⊢; rw[h]; simp
  · have hlt:=(List.getElem?_eq_some_iff.1 hc).1;have h1:l.all p=false:=by
      rw[List.all_eq_false];exact⟨c,List.mem_of_getElem? hc,by simp[hp]⟩
    rw[h1];simp only[beq_eq_false_iff_ne,ne_eq];intro e;have:=congrArg List.length e;rw[List.length_take] at this;omega
theorem ld{l:List UInt8}{p:UInt8->Bool}{k:Nat}{c:UInt8}(h:(l.take k).all p=true)(hc:l[k]? = some c)(hp:p c=true):(l.take (k+1)).all p=true:=by
  rw[cj hc,List.all_append,h]; simp[hp]
theorem yg(w:World){l:List UInt8}(hl:l.length<=9223372036854775806):CP 150 #[sv l,iv 0,.func (.func 151) #[] #[]] w (λ r w'=>∃ k,r=sv (l.take k)/\(l.take k==l)=(l.all λ c=>inr (un c))/\w' = w):=by
  refine rD ?_;unfold vv;refine⟨λ n w1 m=>∃ k:Nat,n=k/\k<=l.length/\m=l.length-k/\(l.take k).all (λ c=>inr (un c))=true/\w1=w,⟨l.length,0,rfl,by omega,by omega,by simp,rfl⟩,?_⟩;rintro w1 m n ⟨k,rfl,hk,hm,ha,rfl⟩ -;refine⟨λ b w2=>w2=w1/\((b=true/\∃ c,l[k]? = some c/\inr (un c)=true)\/(b=false/\(k=l.length\/∃ c,l[k]? = some c/\inr (un c)=false))),?_,?_⟩
  · rintro w2 b ⟨rfl,h⟩ -;rcases h with⟨rfl,c,hc,hp⟩ | ⟨rfl,he⟩
    · have hlt:=(List.getElem?_eq_some_iff.1 hc).1;exact cT rfl ⟨l.length-(k+1),by omega,k+1,by rw[aH ⟨by omega,by omega⟩]; rfl,by omega,rfl,ld (p:=λ c=>inr (un c)) ha hc hp,rfl⟩
    · refine cF rfl ⟨by omega,by rw[bF]; omega,by omega,by omega,k,?_,mU ha hk he,rfl⟩;show Value.string ((bs l).extract (0:Int).toNat ((k:Int)).toNat)=_;rw[show(0:Int).toNat=0 from rfl,Int.toNat_natCast,uZ]
  · by_cases hlt:(k:Int)<(l.length:Int)
    · have hc:l[k]? = some (l[k]'(by omega)):=gE (by omega);generalize l[k]'(by omega)=c at hc;refine cT (by rw[bF]; simpa using hlt) ⟨by omega,?_⟩;rw[Int.toNat_natCast,fX,hc]
      change lE prog (.func (.func 151) #[] #[]) #[.int .i32 (IntKind.i32.wrap (c.toNat:Int))] w1 _
      refine qu (by kernel_rfl) ?_;rw[wrap32];refine aD (uk w1 (un c)) ?_;rintro v w3 ⟨rfl,rfl⟩;refine⟨_,rfl,rfl,?_⟩
      cases hp:inr (un c) with
      | true=>exact .inl ⟨rfl,c,rfl,hp⟩
      | false=>exact .inr ⟨rfl,.inr ⟨c,rfl,hp⟩⟩
    · exact cF (by rw[bF]; simpa using hlt) ⟨rfl,.inr ⟨rfl,.inl (by omega)⟩⟩
theorem lX(w:World)(l:List UInt8):CP 115 #[sv l] w (λ r w'=>r=.bool (aK l)/\w' = w):=by
  refine mw ?_;unfold mu
  cases l with
  | nil=>exact cF (by rw[gO]; rfl) ⟨rfl,rfl⟩
  | cons c l =>
    refine cT (by rw[gO,gO]; rfl) ?_
    by_cases h12:(c :: l).length<=12
    · refine cT (by rw[bF]; exact dT (by omega)) ⟨by omega,?_⟩;rw[show(0:Int).toNat=0 from rfl,fX];show ah (some c) _;rw[ah,wrap32];refine aD (l8 w (un c)) ?_;rintro v w1 ⟨rfl,rfl⟩;refine⟨_,rfl,?_⟩
      cases h1:jD (un c) with
      | false=>exact cF rfl ⟨by simp[aK,h1],rfl⟩
      | true =>
        refine cT rfl (aD (yg w1 (by omega)) ?_);rintro v w2 ⟨k,rfl,hk,rfl⟩;refine⟨_,rfl,?_,rfl⟩;rw[gO,gO,hk];have e:aK (c :: l)=(c :: l).all λ c=>inr (un c):=by
          unfold aK;simp only[List.isEmpty_cons,Bool.not_false,Bool.true_and,List.head?_cons,Option.map_some,Option.getD_some,h1];rw[dT h12]; rfl
        rw[e]
    · refine cF (by rw[bF]; exact dF (by omega)) ⟨?_,rfl⟩;simp only[aK,dF h12]
      simp
end Go.Proofs.YtemiicbbbojdiaaGreatDoor
namespace Go.Proofs
open Go.Shelf
def Tryz.kn:Go.Shelf.Ren:=⟨fun | 173=>56 | 246=>85 | 283=>123 | 284=>124 | 285=>125 | 286=>126 | 129=>114 | 317=>154 | 318=>155 | 319=>156 | 320=>157 | 337=>178 | 338=>179 | n=>n,fun | 2=>2 | 3=>3 | 9=>9 | 4=>4 | 171=>180 | 0=>0 | 53=>69 | 37=>148 | 5=>5 | 173=>182 | 212=>209 | 51=>164 | 20=>20 | 213=>210 | 46=>138 | 232=>279 | 233=>280 | n=>n,fun | 17=>0 | 18=>2 | 19=>3 | n=>n⟩
theorem Tryz.qW:Go.Proofs.LaysM.n173 Tryz.prog Tryz.kn:={
  mixed:=by kernel_rfl
  f129:=Tryz.func114.trans (congrArg some (by kernel_rfl))
  f173:=Tryz.func56.trans (congrArg some (by kernel_rfl))
  f246:=Tryz.func85.trans (congrArg some (by kernel_rfl))
  f283:=Tryz.func123.trans (congrArg some (by kernel_rfl))
  f284:=Tryz.func124.trans (congrArg some (by kernel_rfl))
  f285:=Tryz.func125.trans (congrArg some (by kernel_rfl))
  f286:=Tryz.func126.trans (congrArg some (by kernel_rfl))
  f317:=Tryz.func154.trans (congrArg some (by kernel_rfl))
  f318:=Tryz.func155.trans (congrArg some (by kernel_rfl))
  f319:=Tryz.func156.trans (congrArg some (by kernel_rfl))
  f320:=Tryz.func157.trans (congrArg some (by kernel_rfl))
  f337:=Tryz.func178.trans (congrArg some (by kernel_rfl))
  f338:=Tryz.func179.trans (congrArg some (by kernel_rfl))
  t0:=Tryz.underlying0
  a0:=Tryz.isAgg0
  z0:=Tryz.sizeOf0
  v0:=Tryz.zeroValue0
  t2:=Tryz.underlying2
  a2:=Tryz.isAgg2
  z2:=Tryz.sizeOf2
  v2:=Tryz.zeroValue2
  t3:=Tryz.underlying3
  a3:=Tryz.isAgg3
  z3:=Tryz.sizeOf3
  v3:=Tryz.zeroValue3
  t4:=Tryz.underlying4
  a4:=Tryz.isAgg4
  z4:=Tryz.sizeOf4
  v4:=Tryz.zeroValue4
  t5:=Tryz.underlying5
  a5:=Tryz.isAgg5
  z5:=Tryz.sizeOf5
  v5:=Tryz.zeroValue5
  t9:=Tryz.underlying9
  a9:=Tryz.isAgg9
  z9:=Tryz.sizeOf9
  v9:=Tryz.zeroValue9
  t20:=Tryz.underlying20
  a20:=Tryz.isAgg20
  z20:=Tryz.sizeOf20
  v20:=Tryz.zeroValue20
  t37:=Tryz.underlying148
  a37:=Tryz.isAgg148
  z37:=Tryz.sizeOf148
  v37:=Tryz.zeroValue148
  t46:=Tryz.underlying138
  a46:=Tryz.isAgg138
  z46:=Tryz.sizeOf138
  v46:=Tryz.zeroValue138
  t51:=Tryz.underlying164
  a51:=Tryz.isAgg164
  z51:=Tryz.sizeOf164
  v51:=Tryz.zeroValue164
  t53:=Tryz.underlying69
  a53:=Tryz.isAgg69
  z53:=Tryz.sizeOf69
  v53:=Tryz.zeroValue69
  t171:=Tryz.underlying180
  a171:=Tryz.isAgg180
  z171:=Tryz.sizeOf180
  v171:=Tryz.zeroValue180
  t173:=Tryz.underlying182
  a173:=Tryz.isAgg182
  z173:=Tryz.sizeOf182
  v173:=Tryz.zeroValue182
  t212:=Tryz.underlying209
  a212:=Tryz.isAgg209
  z212:=Tryz.sizeOf209
  v212:=Tryz.zeroValue209
  t213:=Tryz.underlying210
  a213:=Tryz.isAgg210
  z213:=Tryz.sizeOf210
  t232:=Tryz.underlying279
  a232:=Tryz.isAgg279
  z232:=Tryz.sizeOf279
  v232:=Tryz.zeroValue279
  t233:=Tryz.underlying280
  a233:=Tryz.isAgg280
  z233:=Tryz.sizeOf280
  v233:=Tryz.zeroValue280
  g17:=by kernel_rfl
  g18:=by kernel_rfl
  g19:=by kernel_rfl
  i0:=by kernel_rfl
  i2:=by kernel_rfl
  i3:=by kernel_rfl
  i4:=by kernel_rfl
  i5:=by kernel_rfl
  i9:=by kernel_rfl
  i20:=by kernel_rfl
  i37:=by kernel_rfl
  i46:=by kernel_rfl
  i51:=by kernel_rfl
  i53:=by kernel_rfl
  i171:=by kernel_rfl
  i173:=by kernel_rfl
  i212:=by kernel_rfl
  i232:=by kernel_rfl
  i233:=by kernel_rfl
  m17:=by kernel_rfl
  m18:=by kernel_rfl
  m19:=by kernel_rfl }
open Go.RowKit Go.Sort Go.Lib in
theorem Tryz.strconv_FormatInt_10(n:Int)(h0 : -9223372036854775808<=n)(h1:n<=9223372036854775807)(w:World) (htab:Lib.TabIs Tryz.prog w "internal/strconv.uint64pow10" .u64 Lib.pow10Tab) :
    Calls Tryz.prog 56 #[.int .i64 n,.int .i64 10] w λ e w'=>e=.returned (.string ⟨(Lib.itoa n).toArray⟩)/\∃ k os,w' = grow (w.drewN k) os:=Any.strconv_FormatInt_10 Tryz.qW n h0 h1 w htab
def Tryz.kj:Go.Shelf.Ren:=⟨fun | 171=>55 | 243=>84 | 246=>85 | 283=>123 | 284=>124 | 285=>125 | 286=>126 | 129=>114 | 317=>154 | 318=>155 | 319=>156 | 320=>157 | 337=>178 | 338=>179 | n=>n,fun | 3=>3 | 9=>9 | 2=>2 | 4=>4 | 171=>180 | 0=>0 | 53=>69 | 37=>148 | 5=>5 | 173=>182 | 212=>209 | 51=>164 | 20=>20 | 213=>210 | 46=>138 | 232=>279 | 233=>280 | n=>n,fun | 17=>0 | 18=>2 | 19=>3 | n=>n⟩
theorem Tryz.qV:Go.Proofs.LaysM.n171 Tryz.prog Tryz.kj:={
  mixed:=by kernel_rfl
  f129:=Tryz.func114.trans (congrArg some (by kernel_rfl))
  f171:=Tryz.func55.trans (congrArg some (by kernel_rfl))
  f243:=Tryz.func84.trans (congrArg some (by kernel_rfl))
  f246:=Tryz.func85.trans (congrArg some (by kernel_rfl))
  f283:=Tryz.func123.trans (congrArg some (by kernel_rfl))
  f284:=Tryz.func124.trans (congrArg some (by kernel_rfl))
  f285:=Tryz.func125.trans (congrArg some (by kernel_rfl))
  f286:=Tryz.func126.trans (congrArg some (by kernel_rfl))
  f317:=Tryz.func154.trans (congrArg some (by kernel_rfl))
  f318:=Tryz.func155.trans (congrArg some (by kernel_rfl))
  f319:=Tryz.func156.trans (congrArg some (by kernel_rfl))
  f320:=Tryz.func157.trans (congrArg some (by kernel_rfl))
  f337:=Tryz.func178.trans (congrArg some (by kernel_rfl))
  f338:=Tryz.func179.trans (congrArg some (by kernel_rfl))
  t0:=Tryz.underlying0
  a0:=Tryz.isAgg0
  z0:=Tryz.sizeOf0
  v0:=Tryz.zeroValue0
  t2:=Tryz.underlying2
  a2:=Tryz.isAgg2
  z2:=Tryz.sizeOf2
  v2:=Tryz.zeroValue2
  t3:=Tryz.underlying3
  a3:=Tryz.isAgg3
  z3:=Tryz.sizeOf3
  v3:=Tryz.zeroValue3
  t4:=Tryz.underlying4
  a4:=Tryz.isAgg4
  z4:=Tryz.sizeOf4
  v4:=Tryz.zeroValue4
  t5:=Tryz.underlying5
  a5:=Tryz.isAgg5
  z5:=Tryz.sizeOf5
  v5:=Tryz.zeroValue5
  t9:=Tryz.underlying9
  a9:=Tryz.isAgg9
  z9:=Tryz.sizeOf9
  v9:=Tryz.zeroValue9
  t20:=Tryz.underlying20
  a20:=Tryz.isAgg20
  z20:=Tryz.sizeOf20
  v20:=Tryz.zeroValue20
  t37:=Tryz.underlying148
  a37:=Tryz.isAgg148
  z37:=Tryz.sizeOf148
  v37:=Tryz.zeroValue148
  t46:=Tryz.underlying138
  a46:=Tryz.isAgg138
  z46:=Tryz.sizeOf138
  v46:=Tryz.zeroValue138
  t51:=Tryz.underlying164
  a51:=Tryz.isAgg164
  z51:=Tryz.sizeOf164
  v51:=Tryz.zeroValue164
  t53:=Tryz.underlying69
  a53:=Tryz.isAgg69
  z53:=Tryz.sizeOf69
  v53:=Tryz.zeroValue69
  t171:=Tryz.underlying180
  a171:=Tryz.isAgg180
  z171:=Tryz.sizeOf180
  v171:=Tryz.zeroValue180
  t173:=Tryz.underlying182
  a173:=Tryz.isAgg182
  z173:=Tryz.sizeOf182
  v173:=Tryz.zeroValue182
  t212:=Tryz.underlying209
  a212:=Tryz.isAgg209
  z212:=Tryz.sizeOf209
  v212:=Tryz.zeroValue209
  t213:=Tryz.underlying210
  a213:=Tryz.isAgg210
  z213:=Tryz.sizeOf210
  t232:=Tryz.underlying279
  a232:=Tryz.isAgg279
  z232:=Tryz.sizeOf279
  v232:=Tryz.zeroValue279
  t233:=Tryz.underlying280
  a233:=Tryz.isAgg280
  z233:=Tryz.sizeOf280
  v233:=Tryz.zeroValue280
  g17:=by kernel_rfl
  g18:=by kernel_rfl
  g19:=by kernel_rfl
  i0:=by kernel_rfl
  i2:=by kernel_rfl
  i3:=by kernel_rfl
  i4:=by kernel_rfl
  i5:=by kernel_rfl
  i9:=by kernel_rfl
  i20:=by kernel_rfl
  i37:=by kernel_rfl
  i46:=by kernel_rfl
  i51:=by kernel_rfl
  i53:=by kernel_rfl
  i171:=by kernel_rfl
  i173:=by kernel_rfl
  i212:=by kernel_rfl
  i232:=by kernel_rfl
  i233:=by kernel_rfl
  m17:=by kernel_rfl
  m18:=by kernel_rfl
  m19:=by kernel_rfl }
open Go.RowKit Go.Sort Go.Lib in
theorem Tryz.strconv_Itoa(n:Int)(h0 : -9223372036854775808<=n)(h1:n<=9223372036854775807)(w:World) (htab:Lib.TabIs Tryz.prog w "internal/strconv.uint64pow10" .u64 Lib.pow10Tab) :
    Calls Tryz.prog 55 #[.int .i64 n] w λ e w'=>e=.returned (.string ⟨(Lib.itoa n).toArray⟩)/\∃ k os,w' = grow (w.drewN k) os:=Any.strconv_Itoa Tryz.qV n h0 h1 w htab
def Tryz.gz:Go.Shelf.Ren:=⟨fun | 156=>83 | 165=>120 | 166=>121 | 169=>122 | 240=>152 | 241=>153 | 276=>176 | 277=>177 | n=>n,fun | 31=>42 | 9=>9 | 3=>3 | 4=>4 | 0=>0 | 20=>20 | 72=>173 | 76=>177 | 70=>171 | 37=>148 | 75=>176 | 127=>207 | 164=>240 | 5=>5 | 80=>179 | n=>n,fun | n=>n⟩
theorem Tryz.oJ:Go.Proofs.Lays.n156 Tryz.prog Tryz.gz:={
  mixed:=by kernel_rfl
  f156:=Tryz.func83.trans (congrArg some (by kernel_rfl))
  f165:=Tryz.func120.trans (congrArg some (by kernel_rfl))
  f166:=Tryz.func121.trans (congrArg some (by kernel_rfl))
  f169:=Tryz.func122.trans (congrArg some (by kernel_rfl))
  f240:=Tryz.func152.trans (congrArg some (by kernel_rfl))
  f241:=Tryz.func153.trans (congrArg some (by kernel_rfl))
  f276:=Tryz.func176.trans (congrArg some (by kernel_rfl))
  f277:=Tryz.func177.trans (congrArg some (by kernel_rfl))
  t0:=Tryz.underlying0
  a0:=Tryz.isAgg0
  z0:=Tryz.sizeOf0
  v0:=Tryz.zeroValue0
  t3:=Tryz.underlying3
  a3:=Tryz.isAgg3
  z3:=Tryz.sizeOf3
  v3:=Tryz.zeroValue3
  t4:=Tryz.underlying4
  a4:=Tryz.isAgg4
  z4:=Tryz.sizeOf4
  v4:=Tryz.zeroValue4
  t9:=Tryz.underlying9
  a9:=Tryz.isAgg9
  z9:=Tryz.sizeOf9
  v9:=Tryz.zeroValue9
  t20:=Tryz.underlying20
  a20:=Tryz.isAgg20
  z20:=Tryz.sizeOf20
  v20:=Tryz.zeroValue20
  t31:=Tryz.underlying42
  a31:=Tryz.isAgg42
  z31:=Tryz.sizeOf42
  v31:=Tryz.zeroValue42
  t37:=Tryz.underlying148
  a37:=Tryz.isAgg148
  z37:=Tryz.sizeOf148
  v37:=Tryz.zeroValue148
  t70:=Tryz.underlying171
  a70:=Tryz.isAgg171
  z70:=Tryz.sizeOf171
  v70:=Tryz.zeroValue171
  t72:=Tryz.underlying173
  a72:=Tryz.isAgg173
  z72:=Tryz.sizeOf173
  v72:=Tryz.zeroValue173
  t75:=Tryz.underlying176
  a75:=Tryz.isAgg176
  z75:=Tryz.sizeOf176
  v75:=Tryz.zeroValue176
  t76:=Tryz.underlying177
  a76:=Tryz.isAgg177
  z76:=Tryz.sizeOf177
  v76:=Tryz.zeroValue177
  t127:=Tryz.underlying207
  a127:=Tryz.isAgg207
  z127:=Tryz.sizeOf207
  v127:=Tryz.zeroValue207
  t164:=Tryz.underlying240
  a164:=Tryz.isAgg240
  z164:=Tryz.sizeOf240
  v164:=Tryz.zeroValue240 }
theorem Tryz.cZ:Builder.Extra Tryz.prog Tryz.gz:={
  sizeBuilder:=by kernel_rfl
  liesBuilder:=by kernel_rfl
  t5:=Tryz.underlying5
  a5:=Tryz.isAgg5
  z5:=Tryz.sizeOf5
  v5:=Tryz.zeroValue5
  infoByte:=by kernel_rfl
  cellsByte:=by kernel_rfl
  sizeByte:=by kernel_rfl
  neB5:=by decide }
open Go.RowKit in
theorem Tryz.strings_Join(bk o c:Nat)(xs:List ByteArray)(sep:ByteArray)(w:World)(hcells:∀ (j:Nat) x,xs[j]? = some x->w.cell? ⟨bk,o+j,none⟩=some (.string x))(hbk:bk<w.heap.size)(hN:xs.length<=140737488355328)(hcap:xs.length<=c)(hlen:(Lib.join (xs.map (·.data.toList)) sep.data.toList).length<=140737488355328) :
    Calls Tryz.prog 83 #[.slice (some ⟨bk,o,none⟩) xs.length c,.string sep] w λ e w'=>e=.returned (.string ⟨(Lib.join (xs.map (·.data.toList)) sep.data.toList).toArray⟩)/\Below w.heap.size w w':=Any.strings_Join Tryz.oJ Tryz.cZ bk o c xs sep w hcells hbk hN hcap hlen
open Go.RowKit in
theorem Tryz.strings_Join_none(a:Go.Vc.OA)(c:Nat)(sep:ByteArray)(w:World) :
    Calls Tryz.prog 83 #[.slice a 0 c,.string sep] w λ e w'=>e=.returned (.string ⟨#[]⟩)/\w' = w:=Any.strings_Join_none Tryz.oJ Tryz.cZ a c sep w
end Go.Proofs
namespace Go.Proofs.YtemiicbbbojdiaaGreatDoor
open Go Go.Vc _root_.Go.Proofs.Tryz
structure Tk where
  k:Int
  t:List UInt8
  v:Int
  a:Int
abbrev pt (b:Nat):Value:=.pointer (some ⟨b,0,none⟩)
section
variable {w0 w:World} {b:Nat} {l:List Tk} {e:Int} {B:aQ}
end
def oO(i:Nat)(c:UInt8):Bool:=jD (un c)||(decide (i≠0)&&inr (un c))
theorem pU{l:List UInt8}(h1:1<=l.length)(h2:l.length<=12)(h:∀ (i:Nat) (c:UInt8),l[i]? = some c->oO i c=true):aK l=true:=by
  cases l with
  | nil=>simp at h1
  | cons c l =>
    have h0:jD (un c)=true:=by have:=h 0 c rfl; simpa[oO] using this
    unfold aK;simp only[List.isEmpty_cons,Bool.not_false,Bool.true_and,List.head?_cons,Option.map_some,Option.getD_some,h0];rw[dT h2,Bool.true_and,List.all_eq_true];intro x hx;obtain⟨i,hi,rfl⟩:=List.mem_iff_getElem.1 hx;have:=h i _ (gE hi);simp only[oO,Bool.or_eq_true,Bool.and_eq_true] at this;rcases this with h | ⟨_,h⟩
    · simp[inr,h]
    · exact h
theorem qY{l:List UInt8}(i:Nat)(c:UInt8)(hc:l[i]? = some c)(h:oO i c=false):aK l=false:=by
  cases hn:aK l with
  | false=>rfl
  | true =>
    cases l with
    | nil=>simp at hc
    | cons x l =>
      unfold aK at hn;simp only[List.isEmpty_cons,Bool.not_false,Bool.true_and,List.head?_cons,Option.map_some,Option.getD_some,Bool.and_eq_true,List.all_eq_true] at hn;obtain⟨_,h0,ha⟩:=hn;have hi:=ha c (List.mem_of_getElem? hc);unfold oO at h;rw[hi,Bool.and_true,Bool.or_eq_false_iff] at h
      cases i with
      | zero=>simp at hc; subst hc; rw[h0] at h; cases h.1
      | succ i=>simp at h
theorem nE(w:World)(l:List UInt8):CP 127 #[sv l] w (λ r w'=>r=.bool (aK l)/\w' = w):=by
  refine kJ ?_;unfold jJ;refine⟨λ b w1=>w1=w/\((b=true/\aK l=false)\/(b=false/\1<=l.length/\l.length<=12)),?_,?_⟩
  · rintro w1 b ⟨rfl,h⟩ -;rcases h with⟨rfl,hb⟩ | ⟨rfl,h1,h2⟩
    · exact cT rfl ⟨by rw[hb],rfl⟩
    · refine cF rfl ⟨λ n w2 m=>∃ k:Nat,n=k/\k<=l.length/\m=l.length-k/\(∀ (i:Nat) (c:UInt8),i<k->l[i]? = some c->oO i c=true)/\w2=w1,⟨l.length,0,rfl,by omega,by omega,λ i c hi=>by omega,rfl⟩,?_⟩;rintro w2 m n ⟨k,rfl,hk,hm,ha,rfl⟩ -
      by_cases hlt:(k:Int)<(l.length:Int)
      · have hc:l[k]? = some (l[k]'(by omega)):=gE (by omega);generalize l[k]'(by omega)=c at hc;have get:∀ {R:UInt8->Prop},R c->ah ((bs l)[((k:Nat):Int).toNat]?) R:=λ {R} h=>by
          rw[Int.toNat_natCast,fX,hc]; exact h
        refine cT (by rw[bF]; simpa using hlt) ⟨λ b w3=>w3=w2/\b=jD (un c),?_,by omega,get ?_⟩
        · rintro w3 b ⟨rfl,rfl⟩ -;refine⟨λ b w4=>w4=w3/\b = !oO k c,?_,?_⟩
          · rintro w4 b ⟨rfl,rfl⟩ -
            cases ho:oO k c with
            | true =>
              refine cF rfl ⟨l.length-(k+1),by omega,k+1,by rw[aH ⟨by omega,by omega⟩]; rfl,by omega,rfl,λ i x hi hx=>?_,rfl⟩;rcases Nat.lt_or_ge i k with h' | h'
              · exact ha i x h' hx
              · obtain rfl:i=k:=by omega
                rw[hc] at hx; cases hx; exact ho
            | false=>exact cT rfl ⟨by rw[qY k c hc ho],rfl⟩
          · cases hL:jD (un c) with
            | true=>exact cF rfl ⟨rfl,by simp[oO,hL]⟩
            | false =>
              refine cT rfl ?_
              by_cases h0:k=0
              · subst h0; exact cT rfl ⟨rfl,by simp[oO,hL]⟩
              · refine cF (by simp; omega) ⟨by omega,get ?_⟩
                by_cases h95:un c=95
                · refine cF (by simp; exact h95) ⟨rfl,by simp[oO,inr,h95,h0]⟩
                · refine cT (by simp; exact h95) ⟨by omega,get ?_⟩
                  by_cases h48:un c<48
                  · refine cT (dT h48) ⟨rfl,?_⟩;have:nt (un c)=false:=by simp[nt]; omega
                    simp[oO,hL,inr,this,h95]
                  · refine cF (dF h48) ⟨by omega,get ⟨rfl,?_⟩⟩
                    by_cases h57:un c>57
                    · have:nt (un c)=false:=by simp[nt]; omega
                      rw[dT (show(c.toNat:Int)>57 from h57)];simp[oO,hL,inr,this,h95]
                    · have:nt (un c)=true:=by simp[nt]; omega
                      rw[dF (show ¬ (c.toNat:Int)>57 from h57)];simp[oO,hL,inr,this,h0]
        · by_cases h97:un c>=97
          · refine cT (dT h97) ⟨by omega,get ⟨rfl,?_⟩⟩;have:decide (97<=un c)=true:=dT h97;unfold jD; rw[this]; rfl
          · refine cF (dF h97) ⟨rfl,?_⟩;have:decide (97<=un c)=false:=dF h97;unfold jD; rw[this]; rfl
      · refine cF (by rw[bF]; simpa using hlt) ⟨?_,rfl⟩;rw[pU h1 h2 λ i c hc=>ha i c (by have:=(List.getElem?_eq_some_iff.1 hc).1; omega) hc]
  · by_cases h1:l.length<1
    · refine cT (by rw[bF]; exact dT (by omega)) ⟨rfl,.inl ⟨rfl,?_⟩⟩;have:l=[]:=List.length_eq_zero_iff.1 (by omega);subst this; rfl
    · refine cF (by rw[bF]; exact dF (by omega)) ⟨rfl,?_⟩
      by_cases h12:l.length<=12
      · exact .inr ⟨by rw[bF]; exact dF (by omega),by omega,h12⟩
      · refine .inl ⟨by rw[bF]; exact dT (by omega),?_⟩;simp[aK,dF h12]
theorem yd(w:World){c0:UInt8}{t:List UInt8}(hl:(c0 :: t).length<=12)(h0:jD (un c0)=true) :
    CP 159 #[sv (c0 :: t)] w (λ r w'=>∃ k,r=.tuple #[.agg #[iv 1,sv ((c0 :: t).take k),iv 0,iv 0],iv 0]/\((c0 :: t).take k==(c0 :: t))=((c0 :: t).all λ c=>inr (un c))/\an w w' []):=by
  refine p7 ?_;unfold rI;refine aE ?_;have s1:=(St.start w).one.cr #[(.int .i64 (0:Int)),(.string (bs [])),(.int .i64 (0:Int)),(.int .i64 (0:Int))] 213;generalize hw1:w.alloc _=w1 at s1 ⊢;generalize hr1:w.heap.size=r1 at s1 ⊢;generalize hL:c0 :: t=l at *;have hg0:l[0]? = some c0:=by rw[<- hL]; rfl
  have hp:1<=l.length:=by rw[<- hL]; simp
  have hin0:inr (un c0)=true:=by simp[inr,h0]
  refine⟨by omega,?_⟩;rw[show(0:Int).toNat=0 from rfl,fX,hg0];refine aD (gr w1 (un c0)) ?_;rintro v w2 ⟨rfl,rfl⟩;refine⟨_,rfl,cT h0 ⟨λ n w3 m=>∃ k:Nat,n=k/\1<=k/\k<=l.length/\m=l.length-k/\(l.take k).all (λ c=>inr (un c))=true/\w3=w2,⟨l.length-1,1,rfl,by omega,by omega,rfl,?_,rfl⟩,?_⟩⟩
  · rw[<- hL]; simp[hin0]
  rintro w3 m n ⟨k,rfl,hk1,hk,hm,ha,rfl⟩ -;refine⟨λ b w4=>w4=w3/\((b=true/\∃ c,l[k]? = some c/\inr (un c)=true)\/(b=false/\(k=l.length\/∃ c,l[k]? = some c/\inr (un c)=false))),?_,?_⟩
  · rintro w4 b ⟨rfl,h⟩ -;rcases h with⟨rfl,c,hc,hp'⟩ | ⟨rfl,he⟩
    · have hlt:=(List.getElem?_eq_some_iff.1 hc).1;exact cT rfl ⟨l.length-(k+1),by omega,k+1,by rw[aH ⟨by omega,by omega⟩]; rfl,by omega,by omega,rfl,ld (p:=λ c=>inr (un c)) ha hc hp',rfl⟩
    · refine cF rfl (cF (by simp; omega) ⟨by omega,by rw[bF]; omega,?_⟩);rw[Int.toNat_natCast,uZ];refine s1.bP 0 rfl [iv 1,sv (l.take k),iv 0,iv 0] rfl (by intro v hv; simp at hv; rcases hv with rfl | rfl | rfl<;>rfl) λ w6 s6=>?_;exact⟨_,_,_,_,s6.cellsIn 0 rfl,k,rfl,mU ha hk he,s6.au⟩
  · by_cases hlt:(k:Int)<(l.length:Int)
    · have hc:l[k]? = some (l[k]'(by omega)):=gE (by omega);generalize l[k]'(by omega)=c at hc;have get:∀ {R:UInt8->Prop},R c->ah ((bs l)[((k:Nat):Int).toNat]?) R:=λ {R} h=>by
        rw[Int.toNat_natCast,fX,hc]; exact h
      refine cT (by rw[bF]; simpa using hlt) ⟨by omega,get (aD (gr w3 (un c)) ?_)⟩;rintro v w7 ⟨rfl,rfl⟩;refine⟨_,rfl,?_⟩
      cases h1:jD (un c) with
      | true=>exact cT rfl ⟨rfl,.inl ⟨rfl,c,hc,by simp[inr,h1]⟩⟩
      | false =>
        refine cF rfl ⟨by omega,get (aD (rK w7 (un c)) ?_)⟩;rintro v w8 ⟨rfl,rfl⟩;refine⟨_,rfl,?_⟩
        cases h2:nt (un c) with
        | true=>exact cT rfl ⟨rfl,.inl ⟨rfl,c,hc,by simp[inr,h1,h2]⟩⟩
        | false =>
          refine cF rfl ⟨by omega,get ⟨rfl,?_⟩⟩;have e:inr (un c)=(un c==95):=by simp[inr,h1,h2]
          by_cases h95:un c=95
          · exact .inl ⟨by simp; exact h95,c,hc,by rw[e,h95]; rfl⟩
          · exact .inr ⟨by simp; exact h95,.inr ⟨c,hc,by rw[e]; simpa using h95⟩⟩
    · exact cF (by rw[bF]; simpa using hlt) ⟨rfl,.inr ⟨rfl,.inl (by omega)⟩⟩
theorem nD(w:World)(l:List UInt8):CP 128 #[sv l] w (λ r w'=>r=.bool (aK l)/\an w w' []):=by
  refine kI ?_;unfold jI;refine⟨λ b w1=>w1=w/\((b=true/\aK l=false)\/(b=false/\∃ c t,l=c :: t/\l.length<=12/\jD (un c)=true)),?_,?_⟩
  · rintro w1 b ⟨rfl,h⟩ -;rcases h with⟨rfl,hb⟩ | ⟨rfl,c,t,rfl,h12,hc⟩
    · exact cT rfl ⟨by rw[hb],an.refl _ _⟩
    · refine cF rfl (aD (yd w1 h12 hc) ?_);rintro v w2 ⟨k,rfl,hk,c2⟩;refine⟨_,_,_,_,_,rfl,aE ?_⟩;refine((St.start' c2).one.cr _ 213).bP 0 rfl [iv 1,sv ((c :: t).take k),iv 0,iv 0] rfl (by intro v hv; simp at hv; rcases hv with rfl | rfl | rfl<;>rfl) λ w4 s4=>?_;refine cT rfl ⟨_,by rw[s4.af 0 rfl]; rfl,?_,s4.au⟩;rw[gO,gO,hk];unfold aK;simp only[List.isEmpty_cons,Bool.not_false,Bool.true_and,List.head?_cons,Option.map_some,Option.getD_some,hc];rw[dT h12]; rfl
  · cases l with
    | nil=>exact cT (by rw[gO]; rfl) ⟨rfl,.inl ⟨rfl,rfl⟩⟩
    | cons c t =>
      refine cF (by rw[gO,gO]; rfl) ?_
      by_cases h12:(c :: t).length<=12
      · refine cF (by rw[bF]; exact dF (by omega)) ⟨by omega,?_⟩;rw[show(0:Int).toNat=0 from rfl,fX]
        change ah (some c) _
        refine aD (R:=_) (gr w (un c)) ?_;rintro v w5 ⟨rfl,rfl⟩;refine⟨_,rfl,rfl,?_⟩
        cases h:jD (un c) with
        | true=>exact .inr ⟨rfl,c,t,rfl,h12,h⟩
        | false=>exact .inl ⟨rfl,by simp[aK,h]⟩
      · refine cT (by rw[bF]; exact dT (by omega)) ⟨rfl,.inl ⟨rfl,?_⟩⟩;simp only[aK,dF h12]
        simp
def eE(n:Int):Bool:=decide (0<=n)&&decide (n<=4)
def pr(l:List Int):Int:=l.foldl (λ n s=>n*(s+1)) 1
theorem kF(l:List Int)(s:Int):pr (l++[s])=pr l*(s+1):=by simp[pr]
theorem jt{l:List Int}{p:Int->Bool}{k:Nat}{c:Int}(h:(l.take k).all p=true)(hc:l[k]? = some c)(hp:p c=true):(l.take (k+1)).all p=true:=by
  rw[cj hc,List.all_append,h]; simp[hp]
theorem k9{l:List Int}{p:Int->Bool}{k:Nat}{c:Int}(hc:l[k]? = some c)(hp:p c=false):l.all p=false:=by
  rw[List.all_eq_false]; exact⟨c,List.mem_of_getElem? hc,by simp[hp]⟩
theorem lz(w:World)(u:I6):CP 93 #[.agg u.vs.toArray] w (λ r w'=>r=iv (if u.l.all eE then 0 else 4)/\an w w' []):=by
  refine nJ ?_;unfold oP;refine aE ?_;have s1:=(St.start w).one.cr u.vs.toArray 39;generalize hw1:w.alloc _=w1 at s1 ⊢;generalize hr1:w.heap.size=r1 at s1 ⊢;refine⟨_,s1.cellsIn 0 rfl,λ n w2 m=>∃ k:Nat,n=k/\k<=6/\m=6-k/\(u.l.take k).all eE=true/\w2=w1,⟨6,0,rfl,by omega,by omega,rfl,rfl⟩,?_⟩;rintro w2 m n ⟨k,rfl,hk,hm,ha,rfl⟩ -
  by_cases hlt:(k:Int)<6
  · have hk' : k<6:=by omega
    have g1:=u.get k hk';have g2:=u.gK k hk';generalize u.at' k=x at g1 g2;refine cT (by simpa using hlt) ⟨by omega,by omega,x,g1,λ b w3=>w3=w2/\b = !eE x,?_,?_⟩
    · rintro w3 b ⟨rfl,rfl⟩ -
      cases hx:eE x with
      | true=>exact cF rfl ⟨6-(k+1),by omega,k+1,inc (by decide) hk',by omega,rfl,jt ha g2 hx,rfl⟩
      | false=>exact cT rfl ⟨by rw[k9 g2 hx]; rfl,s1.au⟩
    · by_cases h0:x<0
      · exact cT (by simpa using h0) ⟨rfl,by simp[eE]; omega⟩
      · refine cF (by simpa using h0) ⟨rfl,?_⟩;have:decide (0<=x)=true:=dT (by omega);unfold eE;rw[this,Bool.true_and]
        by_cases h4:x<=4
        · rw[dT h4,dF (by omega)]; rfl
        · rw[dF h4,dT (by omega)]; rfl
  · obtain rfl:k=6:=by omega
    refine cF (by simp) ⟨?_,s1.au⟩;rw[show u.l.all eE=true from ha]; rfl
theorem iO{l:List Int}(h:l.all eE=true):1<=pr l/\pr l<=5 ^ l.length:=by
  suffices H:∀ (l:List Int) (a:Int),l.all eE=true->1<=a->1<=l.foldl (λ n s=>n*(s+1)) a/\l.foldl (λ n s=>n*(s+1)) a<=a*5 ^ l.length by
    have:=H l 1 h (by omega);unfold pr; omega
  intro l
  induction l with
  | nil=>intro a _ h1; simp; exact h1
  | cons x l ih =>
    intro a ha h1;simp only[List.all_cons,Bool.and_eq_true] at ha;have hx:=ha.1;simp only[eE,Bool.and_eq_true,decide_eq_true_eq] at hx;have h2:1<=a*(x+1):=by
      have:a*1<=a*(x+1):=Int.mul_le_mul_of_nonneg_left (by omega) (by omega);omega
    obtain⟨h3,h4⟩:=ih (a*(x+1)) ha.2 h2;refine⟨h3,?_⟩;simp only[List.foldl_cons,List.length_cons,Int.pow_succ];have h5:a*(x+1)<=a*5:=Int.mul_le_mul_of_nonneg_left (by omega) (by omega);have h6:(a*(x+1))*5 ^ l.length<=(a*5)*5 ^ l.length:=Int.mul_le_mul_of_nonneg_right h5 (Int.pow_nonneg (by omega));have h7:a*5*5 ^ l.length=a*(5 ^ l.length*5):=by rw[Int.mul_assoc,Int.mul_comm 5 (5 ^ l.length)]
    rw[<- h7];omega
theorem tq(w:World)(u:I6):CP 118 #[.agg u.vs.toArray] w (λ r w'=>r=iv (if u.l.all eE=true/\pr u.l<=1024 then pr u.l else 0)/\an w w' []):=by
  refine nN ?_;unfold oT;refine aE ?_;have s1:=(St.start w).one.cr u.vs.toArray 39;generalize hw1:w.alloc _=w1 at s1 ⊢;generalize hr1:w.heap.size=r1 at s1 ⊢;refine⟨_,s1.cellsIn 0 rfl,aD (lz w1 u) ?_⟩;rintro v w2 ⟨rfl,c2⟩;refine⟨_,rfl,?_⟩;have s2:=s1.quiet c2
  by_cases hall:u.l.all eE=true
  · rw[if_pos hall];refine cF rfl ⟨_,s2.cellsIn 0 rfl,λ p n w3 m=>∃ k:Nat,n=k/\k<=6/\m=6-k/\p=pr (u.l.take k)/\w3=w2,⟨6,0,rfl,by omega,by omega,rfl,rfl⟩,?_⟩;rintro w3 m p n ⟨k,rfl,hk,hm,rfl,rfl⟩ -;have hb:1<=pr (u.l.take k)/\pr (u.l.take k)<=15625:=by
      have h1:(u.l.take k).all eE=true:=by
        rw[List.all_eq_true] at hall ⊢;exact λ x hx=>hall x (List.mem_of_mem_take hx)
      obtain⟨h2,h3⟩:=iO h1;refine⟨h2,Int.le_trans h3 ?_⟩;have h4:(u.l.take k).length=k:=by simp[I6.len]; omega
      rw[h4]
      match k,hk with
      | 0,_ | 1,_ | 2,_ | 3,_ | 4,_ | 5,_ | 6,_=>decide
    by_cases hlt:(k:Int)<6
    · have hk' : k<6:=by omega
      have g1:=u.get k hk';have g2:=u.gK k hk';generalize u.at' k=x at g1 g2;have hx:0<=x/\x<=4:=by
        have:=List.all_eq_true.1 hall x (List.mem_of_getElem? g2);simpa[eE] using this
      have hm1:pr (u.l.take k)*(x+1)<=15625*5:=Int.le_trans (Int.mul_le_mul_of_nonneg_left (show x+1<=5 by omega) (by omega)) (Int.mul_le_mul_of_nonneg_right hb.2 (by omega));have hm0:0<=pr (u.l.take k)*(x+1):=Int.mul_nonneg (by omega) (by omega);refine cT (by simpa using hlt) ⟨by omega,by omega,x,g1,6-(k+1),by omega,k+1,inc (by decide) hk',by omega,rfl,?_,rfl⟩;rw[aH (n:=x+1) ⟨by omega,by omega⟩,aH ⟨by omega,by omega⟩,cj g2,kF]
    · obtain rfl:k=6:=by omega
      refine cF (by simp) ?_;have e:u.l.take 6=u.l:=rfl;rw[e] at hb ⊢
      by_cases hp:pr u.l<=1024
      · refine cF (dF (by omega)) ⟨?_,s2.au⟩;rw[if_pos ⟨hall,hp⟩]
      · refine cT (dT (by omega)) ⟨?_,s2.au⟩;rw[if_neg λ h=>hp h.2]
  · rw[if_neg hall];refine cT rfl ⟨?_,s2.au⟩;rw[if_neg λ h=>hall h.1]
structure Pr where
  nm:List UInt8
  sup:Int
  res:Int
  pts:Int
  grp:Int
def Pr.cells(p:Pr):List Value:=[sv p.nm,iv p.sup,iv p.res,iv p.pts,iv p.grp]
def Pr.In(p:Pr):Prop:=Go.Vc.In p.sup/\Go.Vc.In p.res/\Go.Vc.In p.pts/\Go.Vc.In p.grp
def ff(w:World)(a:OA)(l:List Pr):Prop:=∀ (i:Nat) (p:Pr),l[i]? = some p->p.In/\∃ q,a=some q/\aa w (q.add (i*5)) 0 p.cells
theorem ff.au{w w' : World}{a:OA}{l:List Pr}(h:ff w a l)(hc:an w w' []):ff w' a l:=λ i p hp =>
  let ⟨h1,q,hq,h2⟩:=h i p hp
  ⟨h1,q,hq,aV hc h2⟩
theorem ff.take{w:World}{a:OA}{l:List Pr}(h:ff w a l)(n:Nat):ff w a (l.take n):=λ i p hp=>by
  rw[List.getElem?_take] at hp
  split at hp
  · exact h i p hp
  · cases hp
theorem Pr.one(p:Pr):∀ v∈p.cells,v.oneCell' = true:=by
  intro v hv; simp[Pr.cells] at hv; rcases hv with rfl | rfl | rfl | rfl | rfl<;>rfl
theorem wU{a:OA}{c:Nat}:(if c=0 then a else Option.map (λ x=>Addr.add x (0*5)) a)=a:=by
  split
  · rfl
  · cases a<;>simp[Addr.add]
theorem cq{α:Type}{l:List α}{p:α->Bool}{k:Nat}{x:α}(h:(l.take k).any p=false)(hx:l[k]? = some x)(hp:p x=false):(l.take (k+1)).any p=false:=by
  rw[cj hx,List.any_append,h]; simp[hp]
theorem de{α:Type}{l:List α}{p:α->Bool}{k:Nat}{x:α}(hx:l[k]? = some x)(hp:p x=true):l.any p=true:=List.any_eq_true.2 ⟨x,List.mem_of_getElem? hx,hp⟩
theorem vX{w:World}{a:OA}{c:Nat}{l:List Pr}(h:ff w a l)(hl:l.length<=1000)(nm:List UInt8) :
    CP 116 #[.slice a l.length c,sv nm] w (λ r w'=>(∃ k:Int,r=.tuple #[iv k,.bool (l.any λ p=>p.nm==nm)])/\an w w' []):=by
  refine pY ?_;unfold ry;refine⟨λ n w1 m=>∃ k:Nat,n=k/\k<=l.length/\m=l.length-k/\(l.take k).any (λ p=>p.nm==nm)=false/\an w w1 [],⟨l.length,0,rfl,by omega,by omega,rfl,an.refl _ _⟩,?_⟩;rintro w1 m n ⟨k,rfl,hk,hm,ha,hc⟩ -
  by_cases hlt:(k:Int)<(l.length:Int)
  · have hx:l[k]? = some (l[k]'(by omega)):=gE (by omega);generalize l[k]'(by omega)=x at hx;obtain⟨_,q,rfl,hcl⟩:=(h.au hc) k x hx;refine cT (by simpa using hlt) ⟨by omega,by omega,_,_,_,_,_,hcl,aE ?_⟩;refine((St.start' hc).one.cr _ 89).bP 0 rfl x.cells rfl x.one λ w3 s3=>?_;refine⟨_,by rw[s3.af 0 rfl]; rfl,?_⟩
    by_cases hn:x.nm=nm
    · exact cT (by rw[hn]; simp) ⟨⟨k,by rw[de hx (by simpa using hn)]⟩,s3.au⟩
    · exact cF (by rw[gO,gO]; simpa using hn) ⟨l.length-(k+1),by omega,k+1,by rw[aH ⟨by omega,by omega⟩]; rfl,by omega,rfl,cq ha hx (by simpa using hn),s3.au⟩
  · refine cF (by simpa using hlt) ⟨⟨0,?_⟩,hc⟩;rw[List.take_of_length_le (by omega)] at ha;rw[ha]
theorem eR(w:World)(n x y:Int):CP 117 #[iv n,iv x,iv y] w (λ r w'=>r=.bool (decide (x<=n)&&decide (n<=y))/\w' = w):=by
  refine kC ?_;unfold jG
  by_cases h:n>=x
  · exact cT (dT h) ⟨by rw[dT (show x<=n from h)]; rfl,rfl⟩
  · exact cF (dF h) ⟨by rw[dF (show ¬ x<=n from h)]; rfl,rfl⟩
def mT(l:List Pr):List Int:=(l.map Pr.sup++List.replicate (6-l.length) 0).take 6
def kR(l:List Pr):I6:=I6.vt (l.map Pr.sup)
theorem kS(l:List Pr)(k:Nat)(hk:k<6):(kR l).at' k=(l.map Pr.sup).getD k 0:=by
  match k,hk with
  | 0,_ | 1,_ | 2,_ | 3,_ | 4,_ | 5,_=>rfl
theorem wW(l:List Pr):(kR l).l=mT l:=by
  apply List.ext_getElem?;intro k;unfold mT
  by_cases hk:k<6
  · rw[I6.gK _ k hk,kS l k hk,List.getElem?_take,if_pos hk]
    by_cases hl:k<l.length
    · rw[List.getElem?_append_left (by simpa using hl)];simp[hl]
    · rw[List.getElem?_append_right (by simp; omega),List.getElem?_replicate,if_pos (by simp; omega)];simp[hl]
  · rw[List.getElem?_eq_none (by rw[I6.len]; omega),List.getElem?_take,if_neg hk]
theorem sn{w:World}{a:OA}{c:Nat}{l:List Pr}(h:ff w a l)(hl:l.length<=1000) :
    CP 42 #[.slice a l.length c] w (λ r w'=>r=.agg (kR l).vs.toArray/\an w w' []):=by
  refine mC ?_;unfold mB;refine aE (aE ?_);have s2:=((St.start w).one.cr z6.vs.toArray 39).cr z6.vs.toArray 39;generalize hw2:((w.alloc _).alloc _)=w2 at s2 ⊢;generalize hr1:w.heap.size=r1 at s2 ⊢;generalize hr2:(w.alloc _).heap.size=r2 at s2 ⊢;refine⟨λ n w3 m=>∃ k:Nat,n=k/\k<=l.length/\m=l.length-k/\St w w3 (Sep [aG r2 (I6.mix (min k 6) (kR l) z6).vs.toArray 39,aG r1 z6.vs.toArray 39,emp]),⟨l.length,0,rfl,by omega,by omega,s2⟩,?_⟩;rintro w3 m n ⟨k,rfl,hk,hm,s3⟩ -
  by_cases hlt:(k:Int)<(l.length:Int)
  · have hx:l[k]? = some (l[k]'(by omega)):=gE (by omega);generalize l[k]'(by omega)=x at hx;obtain⟨_,q,hq,hcl⟩:=(h.au s3.au) k x hx;refine cT (by simpa using hlt) ⟨λ w4=>St w w4 (Sep [aG r2 (I6.mix (min (k+1) 6) (kR l) z6).vs.toArray 39,aG r1 z6.vs.toArray 39,emp]),?_,?_⟩
    · rintro w4 s4 -;exact⟨l.length-(k+1),by omega,k+1,aH ⟨by omega,by omega⟩,by omega,rfl,s4⟩
    rw[hq];refine⟨by omega,by omega,_,_,_,_,_,hcl,aE ?_⟩;refine(s3.cr _ 89).bP 0 rfl x.cells rfl x.one λ w6 s6=>?_
    by_cases h6:k<6
    · refine cT (dT (by omega)) ⟨_,by rw[s6.af 0 rfl]; rfl,by omega,by omega,?_⟩;have ea:Addr.add ⟨r2,0,none⟩ (((k:Nat):Int).toNat*1)=⟨r2,k,none⟩:=by rw[cD]; simp
      rw[ea];refine s6.zH 1 rfl (by rw[I6.size]; exact h6) rfl λ w7 s7=>?_;have e1:x.sup=(kR l).at' k:=by rw[kS l k h6]; simp[List.getElem?_map,hx]
      rw[Nat.min_eq_left (by omega),e1,I6.ux _ _ _ h6] at s7;rw[Nat.min_eq_left (by omega)];exact s7.dn [1,2,3]
    · rw[Nat.min_eq_right (by omega)] at s6 ⊢;exact cF (dF (by omega)) (s6.dn [1,2,3])
  · obtain rfl:k=l.length:=by omega
    have hcn:I6.mix (min l.length 6) (kR l) z6=kR l:=by
      refine I6.ext' λ j hj=>?_;rw[I6.wD _ _ _ _ hj,kS l j hj]
      split
      · rfl
      · rw[List.getD_eq_getElem?_getD,List.getElem?_eq_none (by simp; omega)]
        match j,hj with
        | 0,_ | 1,_ | 2,_ | 3,_ | 4,_ | 5,_=>rfl
    rw[hcn] at s3;refine cF (by simp) ⟨_,s3.cellsIn 0 rfl,?_⟩;refine s3.bP 1 rfl (kR l).vs rfl (I6.one _) λ w8 s8=>?_;exact⟨_,s8.cellsIn 1 rfl,rfl,s8.au⟩
def kZ(p:Pr):Bool:=(decide (1<=p.sup)&&decide (p.sup<=4))&&((decide (0<=p.res)&&decide (p.res<=1000000))&&((decide (0<=p.pts)&&decide (p.pts<=1000))&&(decide (0<=p.grp)&&decide (p.grp<=4))))
def gL(p:Pr):Bool:=aK p.nm&&kZ p
def dO(l:List Pr)(i:Nat)(p:Pr):Prop:=gL p=true/\((l.take i).any λ q=>q.nm==p.nm)=false
structure bn (l:List Pr):Prop where
  l1:1<=l.length
  l2:l.length<=6
  good:∀ i p,l[i]? = some p->dO l i p
  lim:pr (l.map Pr.sup)<=1024
theorem mE(l:List Int):∀ n,pr (l++List.replicate n 0)=pr l
  | 0=>by simp
  | n+1=>by
    rw[List.replicate_succ',<- List.append_assoc,kF,mE l n];omega
theorem uO{l:List Pr}(h:l.length<=6):pr (mT l)=pr (l.map Pr.sup):=by
  unfold mT;rw[List.take_of_length_le (by simp; omega),mE]
theorem uN{l:List Pr}(h:∀ i p,l[i]? = some p->dO l i p):(mT l).all eE=true:=by
  rw[List.all_eq_true];intro x hx;have hx:=List.mem_of_mem_take hx;rcases List.mem_append.1 hx with hx | hx
  · obtain⟨p,hp,rfl⟩:=List.mem_map.1 hx;obtain⟨i,hi,rfl⟩:=List.mem_iff_getElem.1 hp;have:=(h i _ (gE hi)).1;simp only[gL,kZ,Bool.and_eq_true,decide_eq_true_eq] at this;simp only[eE,Bool.and_eq_true,decide_eq_true_eq];omega
  · obtain⟨_,rfl⟩:=List.mem_replicate.1 hx
    decide
def k7(Q:Prop)(w:World):KP:=λ r w'=>(∃ e:Int,r=iv e/\(e=0<->Q))/\an w w' []
theorem aO{Q:Prop}{w w' : World}{e:Int}(he:e≠0)(h : ¬ Q)(hc:an w w' []):k7 Q w (iv e) w':=⟨⟨e,rfl,λ h'=>absurd h' he,λ h'=>absurd h' h⟩,hc⟩
theorem iq{Q:Prop}{w w' : World}(h:Q)(hc:an w w' []):k7 Q w (iv 0) w':=⟨⟨0,rfl,λ _=>h,λ _=>rfl⟩,hc⟩
def jP(Q:Prop)(k:Int)(w:World):KP:=λ r w'=>(r=iv k/\(k=0<->Q))/\an w w' []
theorem aC{Q:Prop}{w w' : World}{e k:Int}(he:e≠0)(h : ¬ Q)(hc:an w w' [])(hk:k=e):jP Q k w (iv e) w':=by subst hk; exact⟨⟨rfl,λ h'=>absurd h' he,λ h'=>absurd h' h⟩,hc⟩
theorem eV{Q:Prop}{w w' : World}{k:Int}(h:Q)(hc:an w w' [])(hk:k=0):jP Q k w (iv 0) w':=by subst hk; exact⟨⟨rfl,λ _=>h,λ _=>rfl⟩,hc⟩
theorem jP.old{Q:Prop}{w w' : World}{k:Int}{r:Value}(h:jP Q k w r w'):k7 Q w r w':=⟨⟨k,h.1⟩,h.2⟩
def cX{α:Type}(f:Nat->α->Int):Nat->List α->Int
  | _,[]=>0
  | i,x :: l=>if f i x≠0 then f i x else cX f (i+1) l
theorem dG{α:Type}{f:Nat->α->Int}:∀ {l:List α} {n k:Nat} {x:α},(∀ i p,i<k->l[i]? = some p->f (n+i) p=0)->l[k]? = some x->f (n+k) x≠0->cX f n l=f (n+k) x
  | y :: l,n,0,x,_,hx,h=>by cases hx; rw[Nat.add_zero] at h ⊢; rw[cX,if_pos h]
  | y :: l,n,k+1,x,ha,hx,h=>by
    rw[cX,if_neg (by simpa using ha 0 y (by omega) rfl),dG (l:=l) (k:=k) (x:=x) (λ i p hi hp=>by have:=ha (i+1) p (by omega) (by simpa using hp); rwa [show n+(i+1)=n+1+i by omega] at this) (by simpa using hx) (by rwa [show n+1+k=n+(k+1) by omega])];rw[show n+1+k=n+(k+1) by omega]
theorem cu{α:Type}{f:Nat->α->Int}:∀ {l:List α} {n:Nat},(∀ i p,l[i]? = some p->f (n+i) p=0)->cX f n l=0
  | [],_,_=>rfl
  | y :: l,n,ha=>by
    rw[cX,if_neg (by simpa using ha 0 y rfl)];exact cu λ i p hp=>by have:=ha (i+1) p (by simpa using hp); rwa [show n+(i+1)=n+1+i by omega] at this
def sB(l:List Pr)(i:Nat)(p:Pr):Int:=if aK p.nm=false then 5 else if ((l.take i).any λ q=>q.nm==p.nm) then 7 else if kZ p=false then 4 else 0
theorem mD{l:List Pr}{i:Nat}{p:Pr}(h:dO l i p):sB l i p=0:=by
  obtain⟨h1,h2⟩:=h;unfold gL at h1;rw[Bool.and_eq_true] at h1;rw[sB,h1.1,h2,h1.2]; rfl
def sC(l:List Pr):Int:=if l.length=0 then 1 else if 6<l.length then 3 else if cX (sB l) 0 l≠0 then cX (sB l) 0 l else if pr (mT l)<=1024 then 0 else 12
theorem jw{w:World}{a:OA}{c:Nat}{l:List Pr}(h:ff w a l)(hcap:l.length<=c) :
    CP 79 #[.slice a l.length c] w ((jP (bn l) (sC l) w)):=by
  refine nK ?_;unfold oQ
  by_cases h0:l.length=0
  · exact cT (by rw[h0]; rfl) (aC (by decide) (λ hp=>by have:=hp.l1; omega) (an.refl _ _) (by rw[sC,if_pos h0]))
  refine cF (by simpa using h0) ?_;rcases Nat.lt_or_ge 6 l.length with h6 | h6
  · exact cT (dT (by omega)) (aC (by decide) (λ hp=>by have:=hp.l2; omega) (an.refl _ _) (by rw[sC,if_neg h0,if_pos h6]))
  refine cF (dF (by omega)) ⟨λ n w1 m=>∃ k:Nat,n=k/\k<=l.length/\m=l.length-k/\(∀ i p,i<k->l[i]? = some p->dO l i p)/\an w w1 [],⟨l.length,0,rfl,by omega,by omega,λ i p hi=>by omega,an.refl _ _⟩,?_⟩;rintro w1 m n ⟨k,rfl,hk,hm,ha,hc⟩ -
  by_cases hlt:(k:Int)<(l.length:Int)
  · have hx:l[k]? = some (l[k]'(by omega)):=gE (by omega);generalize l[k]'(by omega)=x at hx;obtain⟨_,q,hq,hcl⟩:=(h.au hc) k x hx;have bad : ¬ dO l k x->¬ bn l:=λ hb hp=>hb (hp.good k x hx);have bk:∀ {e:Int},e≠0->sB l k x=e->sC l=e:=λ he h=>by
      have:=dG (f:=sB l) (n:=0) (λ i p hi hp=>by rw[Nat.zero_add]; exact mD (ha i p hi hp)) hx (by rw[Nat.zero_add,h]; exact he);rw[Nat.zero_add,h] at this;rw[sC,if_neg h0,if_neg (by omega),this,if_pos he]
    refine cT (by simpa using hlt) ?_;rw[hq];refine⟨by omega,by omega,_,_,_,_,_,hcl,aE ?_⟩;refine((St.start' hc).one.cr _ 89).bP 0 rfl x.cells rfl x.one λ w3 s3=>?_;generalize hr1:w1.heap.size=r1 at s3 ⊢;have cx:∀ {w' : World},an w3 w' []->∀ (j:Nat) (v:Value),x.cells[j]? = some v->w'.cell? ⟨r1,j,none⟩=some v:=λ hc j v hv=>bG (by rw[s3.af 0 rfl]; simpa using hv) hc;refine⟨_,cx (an.refl _ _) 0 _ rfl,aD (lX w3 x.nm) ?_⟩;rintro v w4 ⟨rfl,rfl⟩;refine⟨_,rfl,?_⟩
    cases hn:aK x.nm with
    | false=>exact cT rfl (aC (by decide) (bad λ hg=>by have:=hg.1; simp[gL,hn] at this) s3.au (bk (by decide) (by rw[sB,hn]; rfl)))
    | true =>
      have d4:an w4 w4.drew []:=an.drew w4 [];refine cF rfl ⟨by omega,by omega,_,cx d4 0 _ rfl,?_⟩;rw[<- hq,wU];have hf:=vX (c:=c-0) ((h.au (s3.au.trans d4 (by simp))).take k) (by rw[List.length_take]; omega) x.nm;rw[List.length_take,Nat.min_eq_left hk] at hf;refine aD hf ?_;rintro v w5 ⟨⟨kk,rfl⟩,c5⟩;have d5:an w4 w5 []:=d4.trans c5 (by simp);refine⟨_,_,rfl,?_⟩
      cases hany:((l.take k).any λ p=>p.nm==x.nm) with
      | true=>exact cT rfl (aC (by decide) (bad λ hg=>by have:=hg.2; rw[hany] at this; cases this) (s3.au.trans d5 (by simp)) (bk (by decide) (by rw[sB,hn,hany]; rfl)))
      | false =>
        refine cF rfl ⟨λ b w6=>an w5 w6 []/\b = !kZ x,?_,?_⟩
        · rintro w6 b ⟨c6,rfl⟩ -;have c7:=s3.au.trans (d5.trans c6 (by simp)) (by simp)
          cases hr:kZ x with
          | false=>exact cT rfl (aC (by decide) (bad λ hg=>by have:=hg.1; simp[gL,hr] at this) c7 (bk (by decide) (by rw[sB,hn,hany,hr]; rfl)))
          | true =>
            refine cF rfl ⟨l.length-(k+1),by omega,k+1,by rw[aH ⟨by omega,by omega⟩]; rfl,by omega,rfl,λ i p hi hp=>?_,c7⟩;rcases Nat.lt_or_ge i k with h' | h'
            · exact ha i p h' hp
            · obtain rfl:i=k:=by omega
              rw[hx] at hp; cases hp;exact⟨by simp[gL,hn,hr],hany⟩
        · refine⟨_,cx d5 1 _ rfl,aD (eR w5 _ _ _) ?_⟩;rintro v w6 ⟨rfl,rfl⟩;refine⟨_,rfl,?_⟩
          cases g1:(decide (1<=x.sup)&&decide (x.sup<=4)) with
          | false=>exact cT rfl ⟨an.refl _ _,by simp only[kZ,g1]; rfl⟩
          | true =>
            refine cF rfl ⟨_,cx d5 2 _ rfl,aD (eR w6 _ _ _) ?_⟩;rintro v w7 ⟨rfl,rfl⟩;refine⟨_,rfl,?_⟩
            cases g2:(decide (0<=x.res)&&decide (x.res<=1000000)) with
            | false=>exact cT rfl ⟨an.refl _ _,by simp only[kZ,g1,g2]; rfl⟩
            | true =>
              refine cF rfl ⟨_,cx d5 3 _ rfl,aD (eR w7 _ _ _) ?_⟩;rintro v w8 ⟨rfl,rfl⟩;refine⟨_,rfl,?_⟩
              cases g3:(decide (0<=x.pts)&&decide (x.pts<=1000)) with
              | false=>exact cT rfl ⟨an.refl _ _,by simp only[kZ,g1,g2,g3]; rfl⟩
              | true =>
                refine cF rfl ⟨_,cx d5 4 _ rfl,aD (eR w8 _ _ _) ?_⟩;rintro v w9 ⟨rfl,rfl⟩;exact⟨_,rfl,an.refl _ _,by simp only[kZ,g1,g2,g3]; rfl⟩
  · obtain rfl:k=l.length:=by omega
    have hg:∀ i p,l[i]? = some p->dO l i p:=λ i p hp=>ha i p (List.getElem?_eq_some_iff.1 hp).1 hp;refine cF (by simp) (aD (sn (h.au hc) (by omega)) ?_);rintro v w2 ⟨rfl,c2⟩;refine⟨_,rfl,aD (tq w2 _) ?_⟩;rintro v w3 ⟨rfl,c3⟩;have c4:an w w3 []:=hc.trans (c2.trans c3 (by simp)) (by simp);refine⟨_,rfl,?_⟩;have hall:=uN hg;have hpr:=uO h6;rw[wW];have hb:=(iO hall).1;have e0:sC l=if pr (mT l)<=1024 then 0 else 12:=by
      have:=cu (f:=sB l) (n:=0) (l:=l) λ i p hp=>by rw[Nat.zero_add]; exact mD (hg i p hp)
      rw[sC,if_neg h0,if_neg (by omega),this,if_neg (by decide)]
    by_cases hlim:pr (mT l)<=1024
    · rw[if_pos ⟨hall,hlim⟩];exact cF (by simp; omega) (eV ⟨by omega,h6,hg,by rw[<- hpr]; exact hlim⟩ c4 (by rw[e0,if_pos hlim]))
    · rw[if_neg λ h=>hlim h.2];exact cT rfl (aC (by decide) (λ hp=>hlim (by rw[hpr]; exact hp.lim)) c4 (by rw[e0,if_neg hlim]))
theorem qv{w:World}{a:OA}{c:Nat}{l:List Pr}(h:ff w a l)(hcap:l.length<=c) :
    CP 79 #[.slice a l.length c] w ((k7 (bn l) w)):=aD (jw h hcap) λ _ _ h=>⟨_,rfl,h.old⟩
theorem uV(r k:Nat):Addr.add ⟨r,0,none⟩ (((k:Nat):Int).toNat*1)=⟨r,k,none⟩:=by rw[cD]; simp
theorem cv{w0 w:World}{l:List aQ}{r:Nat}{u:I6}{T:TypeId}(h:St w0 w (Sep l))(i:Nat)(e:l[i]? = some (aG r u.vs.toArray T)){k:Nat}(hk:k<6):w.cell? ⟨r,k,none⟩=some (iv (u.at' k)):=by
  rw[h.af i e]; simpa using u.get k hk
def tot(u:I6):Int:=u.a+u.b+u.c+u.d+u.e+u.f
def I6.Le(u:I6)(n:Int):Prop:=∀ k,k<6->0<=u.at' k/\u.at' k<=n
theorem zL{u:I6}(h:u.l.all eE=true):I6.Le u 4:=λ k hk=>by
  have:=List.all_eq_true.1 h _ (List.mem_of_getElem? (u.gK k hk));simpa[eE] using this
theorem leq{u:I6}(h:I6.Le u 4):u.l.all eE=true:=by
  have h0:=h 0 (by decide); have h1:=h 1 (by decide); have h2:=h 2 (by decide); have h3:=h 3 (by decide); have h4:=h 4 (by decide); have h5:=h 5 (by decide);simp only[I6.at'] at h0 h1 h2 h3 h4 h5;simp[I6.l,eE,h0,h1,h2,h3,h4,h5]
structure Po where
  step:Int
  pct:Int
  und:Int
  rule:Int
def Po.ok(o:Po):Prop:=1<=o.step/\o.step<=1000000/\0<=o.pct/\o.pct<=100/\1<=o.und/\o.und<=3/\1<=o.rule/\o.rule<=3
instance (o:Po):Decidable o.ok:=by unfold Po.ok; infer_instance
theorem iQ{w:World}{a:OA}{c:Nat}{l:List Pr}(h:ff w a l) :
    CP 87 #[.slice a l.length c] w ((k7 (bn l) w)):=by
  refine mG ?_;unfold mF
  by_cases h0:l.length=0
  · exact cT (by rw[h0]; rfl) (aO (by decide) (λ hp=>by have:=hp.l1; omega) (an.refl _ _))
  refine cF (by simpa using h0) ?_;rcases Nat.lt_or_ge 6 l.length with h6 | h6
  · exact cT (dT (by omega)) (aO (by decide) (λ hp=>by have:=hp.l2; omega) (an.refl _ _))
  refine cF (dF (by omega)) ⟨λ n w1 m=>∃ k:Nat,n=k/\k<=l.length/\m=l.length-k/\(∀ i p,i<k->l[i]? = some p->dO l i p)/\an w w1 [],⟨l.length,0,rfl,by omega,by omega,λ i p hi=>by omega,an.refl _ _⟩,?_⟩;rintro w1 m n ⟨k,rfl,hk,hm,ha,hc⟩ -
  by_cases hlt:(k:Int)<(l.length:Int)
  · have hx:l[k]? = some (l[k]'(by omega)):=gE (by omega);generalize l[k]'(by omega)=x at hx;obtain⟨_,q,hq,hcl⟩:=(h.au hc) k x hx;have bad : ¬ dO l k x->¬ bn l:=λ hb hp=>hb (hp.good k x hx);have nmAt:∀ {w' : World},an w w' []->∀ (j:Nat) (y:Pr),l[j]? = some y->w'.cell? (q.add (j*5))=some (sv y.nm):=λ hc' j y hy=>by
      obtain⟨_,q',hq',hcl'⟩:=(h.au hc') j y hy;rw[hq] at hq'; cases hq';have:=hcl'.1
      rwa [Addr.add_add] at this
    refine cT (by simpa using hlt) ?_;rw[hq];refine⟨by omega,by omega,_,nmAt hc k x hx,aD (nE w1 x.nm) ?_⟩;rintro v w2 ⟨rfl,rfl⟩;refine⟨_,rfl,?_⟩
    cases hn:aK x.nm with
    | false=>exact cT rfl (aO (by decide) (bad λ hg=>by have:=hg.1; simp[gL,hn] at this) hc)
    | true =>
      refine cF rfl ⟨λ n w3 m=>∃ j:Nat,n=j/\j<=k/\m=k-j/\(l.take j).any (λ p=>p.nm==x.nm)=false/\an w w3 [],⟨k,0,rfl,by omega,by omega,rfl,hc⟩,?_⟩;rintro w3 m3 n2 ⟨j,rfl,hj,hm3,hany,c3⟩ -
      by_cases hjk:(j:Int)<(k:Int)
      · have hy:l[j]? = some (l[j]'(by omega)):=gE (by omega);generalize l[j]'(by omega)=y at hy;have c4:an w w3.drew []:=c3.trans (an.drew w3 []) (by simp);refine cT (by simpa using hjk) ⟨by omega,by omega,_,nmAt c4 j y hy,by omega,by omega,_,nmAt c4 k x hx,?_⟩
        by_cases hxy:y.nm=x.nm
        · refine cT (by rw[hxy]; simp) (aO (by decide) (bad λ hg=>?_) c4);have h1:=hg.2;have h2:(l.take k)[j]? = some y:=by rw[List.getElem?_take,if_pos (by omega)]; exact hy
          rw[de (p:=λ q=>q.nm==x.nm) h2 (by simpa using hxy)] at h1
          cases h1
        · exact cF (by rw[gO,gO]; simpa using hxy) ⟨k-(j+1),by omega,j+1,by rw[aH ⟨by omega,by omega⟩]; rfl,by omega,rfl,cq hany hy (by simpa using hxy),c4⟩
      · obtain rfl:j=k:=by omega
        obtain⟨_,q',hq',hcl'⟩:=(h.au c3) j x hx;rw[hq] at hq'; cases hq';refine cF (by simp) ⟨by omega,by omega,_,_,_,_,_,hcl',aE ?_⟩;refine((St.start' c3).one.cr _ 89).bP 0 rfl x.cells rfl x.one λ w5 s5=>?_;generalize hr1:w3.heap.size=r1 at s5 ⊢;have cx:∀ (j:Nat) (v:Value),x.cells[j]? = some v->w5.cell? ⟨r1,j,none⟩=some v:=λ j v hv=>by rw[s5.af 0 rfl]; simpa using hv
        refine⟨λ b w6=>w6=w5/\b = !kZ x,?_,?_⟩
        · rintro w6 b ⟨rfl,rfl⟩ -
          cases hr:kZ x with
          | false=>exact cT rfl (aO (by decide) (bad λ hg=>by have:=hg.1; simp[gL,hr] at this) s5.au)
          | true =>
            refine cF rfl ⟨l.length-(j+1),by omega,j+1,by rw[aH ⟨by omega,by omega⟩]; rfl,by omega,rfl,λ i p hi hp=>?_,s5.au⟩;rcases Nat.lt_or_ge i j with h' | h'
            · exact ha i p h' hp
            · obtain rfl:i=j:=by omega
              rw[hx] at hp; cases hp;exact⟨by simp[gL,hn,hr],hany⟩
        · have no:(¬ (1<=x.sup/\x.sup<=4/\0<=x.res/\x.res<=1000000/\0<=x.pts/\x.pts<=1000/\0<=x.grp/\x.grp<=4))->true = !kZ x:=λ hh=>by
            cases hr:kZ x with
            | false=>rfl
            | true =>
              exfalso; apply hh
              simp only[kZ,Bool.and_eq_true,decide_eq_true_eq] at hr;omega
          refine⟨_,cx 1 _ rfl,?_⟩
          by_cases g1:x.sup<1
          · exact cT (dT g1) ⟨rfl,no (by omega)⟩
          refine cF (dF g1) ⟨_,cx 1 _ rfl,?_⟩
          by_cases g2:x.sup>4
          · exact cT (dT g2) ⟨rfl,no (by omega)⟩
          refine cF (dF g2) ⟨_,cx 2 _ rfl,?_⟩
          by_cases g3:x.res<0
          · exact cT (dT g3) ⟨rfl,no (by omega)⟩
          refine cF (dF g3) ⟨_,cx 2 _ rfl,?_⟩
          by_cases g4:x.res>1000000
          · exact cT (dT g4) ⟨rfl,no (by omega)⟩
          refine cF (dF g4) ⟨_,cx 3 _ rfl,?_⟩
          by_cases g5:x.pts<0
          · exact cT (dT g5) ⟨rfl,no (by omega)⟩
          refine cF (dF g5) ⟨_,cx 3 _ rfl,?_⟩
          by_cases g6:x.pts>1000
          · exact cT (dT g6) ⟨rfl,no (by omega)⟩
          refine cF (dF g6) ⟨_,cx 4 _ rfl,?_⟩
          by_cases g7:x.grp<0
          · exact cT (dT g7) ⟨rfl,no (by omega)⟩
          refine cF (dF g7) ⟨_,cx 4 _ rfl,rfl,?_⟩
          by_cases g8:x.grp>4
          · rw[dT g8]; exact no (by omega)
          · rw[dF g8];have:kZ x=true:=by simp only[kZ,Bool.and_eq_true,decide_eq_true_eq]; omega
            rw[this]; rfl
  · obtain rfl:k=l.length:=by omega
    have hg:∀ i p,l[i]? = some p->dO l i p:=λ i p hp=>ha i p (List.getElem?_eq_some_iff.1 hp).1 hp;have hq:∀ k,((l.take k).map Pr.sup).all eE=true:=λ k=>by
      rw[List.all_eq_true];intro x hx;obtain⟨p,hp,rfl⟩:=List.mem_map.1 hx;obtain⟨i,hi,rfl⟩:=List.mem_iff_getElem.1 (List.mem_of_mem_take hp);have:=(hg i _ (gE hi)).1;simp only[gL,kZ,Bool.and_eq_true,decide_eq_true_eq] at this;simp only[eE,Bool.and_eq_true,decide_eq_true_eq];omega
    refine cF (by simp) ⟨λ p n w7 m=>∃ k:Nat,n=k/\k<=l.length/\m=l.length-k/\p=pr ((l.take k).map Pr.sup)/\w7=w1,⟨l.length,0,rfl,by omega,by omega,rfl,rfl⟩,?_⟩;rintro w7 m5 p n ⟨k,rfl,hk,hm5,rfl,rfl⟩ -;have hb:1<=pr ((l.take k).map Pr.sup)/\pr ((l.take k).map Pr.sup)<=15625:=by
      obtain⟨h2,h3⟩:=iO (hq k);refine⟨h2,Int.le_trans h3 ?_⟩;have h4:((l.take k).map Pr.sup).length=k:=by simp; omega
      rw[h4];have hk6:k<=6:=by omega
      match k,hk6 with
      | 0,_ | 1,_ | 2,_ | 3,_ | 4,_ | 5,_ | 6,_=>decide
    by_cases hlt:(k:Int)<(l.length:Int)
    · have hx:l[k]? = some (l[k]'(by omega)):=gE (by omega);generalize l[k]'(by omega)=x at hx;obtain⟨_,q,hq',hcl⟩:=(h.au hc) k x hx;have hxs:0<=x.sup/\x.sup<=4:=by
        have:=(hg k x hx).1;simp only[gL,kZ,Bool.and_eq_true,decide_eq_true_eq] at this;omega
      have hm1:pr ((l.take k).map Pr.sup)*(x.sup+1)<=15625*5:=Int.le_trans (Int.mul_le_mul_of_nonneg_left (show x.sup+1<=5 by omega) (by omega)) (Int.mul_le_mul_of_nonneg_right hb.2 (by omega));have hm0:0<=pr ((l.take k).map Pr.sup)*(x.sup+1):=Int.mul_nonneg (by omega) (by omega);refine cT (by simpa using hlt) ?_;rw[hq'];refine⟨by omega,by omega,x.sup,hcl.2.1,l.length-(k+1),by omega,k+1,by rw[aH ⟨by omega,by omega⟩]; rfl,by omega,rfl,?_,rfl⟩;rw[aH (n:=x.sup+1) ⟨by omega,by omega⟩,aH ⟨by omega,by omega⟩,cj hx,List.map_append,List.map_cons,List.map_nil,kF]
    · obtain rfl:k=l.length:=by omega
      rw[List.take_length] at hb ⊢;refine cF (by simp) ?_
      by_cases hp:pr (l.map Pr.sup)<=1024
      · exact cF (dF (by omega)) (iq ⟨by omega,h6,hg,hp⟩ hc)
      · exact cT (dT (by omega)) (aO (by decide) (λ hh=>hp hh.lim) hc)
structure Br where
  nm:List UInt8
  cls:Int
  bud:Int
  pts:Int
def Br.cells(p:Br):List Value:=[sv p.nm,iv p.cls,iv p.bud,iv p.pts]
def Br.In(p:Br):Prop:=Go.Vc.In p.cls/\Go.Vc.In p.bud/\Go.Vc.In p.pts
def gZ(w:World)(a:OA)(l:List Br):Prop:=∀ (i:Nat) (p:Br),l[i]? = some p->p.In/\∃ q,a=some q/\aa w (q.add (i*4)) 0 p.cells
theorem gZ.au{w w' : World}{a:OA}{l:List Br}(h:gZ w a l)(hc:an w w' []):gZ w' a l:=λ i p hp =>
  let ⟨h1,q,hq,h2⟩:=h i p hp
  ⟨h1,q,hq,aV hc h2⟩
theorem gZ.take{w:World}{a:OA}{l:List Br}(h:gZ w a l)(n:Nat):gZ w a (l.take n):=λ i p hp=>by
  rw[List.getElem?_take] at hp
  split at hp
  · exact h i p hp
  · cases hp
theorem Br.one(p:Br):∀ v∈p.cells,v.oneCell' = true:=by
  intro v hv; simp[Br.cells] at hv; rcases hv with rfl | rfl | rfl | rfl<;>rfl
theorem wT{a:OA}{c:Nat}:(if c=0 then a else Option.map (λ x=>Addr.add x (0*4)) a)=a:=by
  split
  · rfl
  · cases a<;>simp[Addr.add]
theorem uH{w:World}{a:OA}{c:Nat}{l:List Br}(h:gZ w a l)(hl:l.length<=1000)(nm:List UInt8) :
    CP 119 #[.slice a l.length c,sv nm] w (λ r w'=>(∃ k:Int,r=.tuple #[iv k,.bool (l.any λ p=>p.nm==nm)])/\an w w' []):=by
  refine pZ ?_;unfold rz;refine⟨λ n w1 m=>∃ k:Nat,n=k/\k<=l.length/\m=l.length-k/\(l.take k).any (λ p=>p.nm==nm)=false/\an w w1 [],⟨l.length,0,rfl,by omega,by omega,rfl,an.refl _ _⟩,?_⟩;rintro w1 m n ⟨k,rfl,hk,hm,ha,hc⟩ -
  by_cases hlt:(k:Int)<(l.length:Int)
  · have hx:l[k]? = some (l[k]'(by omega)):=gE (by omega);generalize l[k]'(by omega)=x at hx;obtain⟨_,q,rfl,hcl⟩:=(h.au hc) k x hx;refine cT (by simpa using hlt) ⟨by omega,by omega,_,_,_,_,hcl,aE ?_⟩;refine((St.start' hc).one.cr _ 92).bP 0 rfl x.cells rfl x.one λ w3 s3=>?_;refine⟨_,by rw[s3.af 0 rfl]; rfl,?_⟩
    by_cases hn:x.nm=nm
    · exact cT (by rw[hn]; simp) ⟨⟨k,by rw[de hx (by simpa using hn)]⟩,s3.au⟩
    · exact cF (by rw[gO,gO]; simpa using hn) ⟨l.length-(k+1),by omega,k+1,by rw[aH ⟨by omega,by omega⟩]; rfl,by omega,rfl,cq ha hx (by simpa using hn),s3.au⟩
  · refine cF (by simpa using hlt) ⟨⟨0,?_⟩,hc⟩;rw[List.take_of_length_le (by omega)] at ha;rw[ha]
def fW(x:Br):Bool:=(decide (0<=x.cls)&&decide (x.cls<=4))&&((decide (0<=x.bud)&&decide (x.bud<=1000000))&&(decide (0<=x.pts)&&decide (x.pts<=24000)))
def eL(l:List Br)(i:Nat)(p:Br):Prop:=(aK p.nm&&fW p)=true/\((l.take i).any λ q=>q.nm==p.nm)=false
structure jr (l:List Br):Prop where
  l1:1<=l.length
  l2:l.length<=8
  good:∀ i p,l[i]? = some p->eL l i p
theorem bK{x:Br}(hh : ¬ (0<=x.cls/\x.cls<=4/\0<=x.bud/\x.bud<=1000000/\0<=x.pts/\x.pts<=24000)):true = !fW x:=by
  cases hr:fW x with
  | false=>rfl
  | true =>
    exfalso; apply hh
    simp only[fW,Bool.and_eq_true,decide_eq_true_eq] at hr;omega
def uY(l:List Br)(i:Nat)(p:Br):Int:=if aK p.nm=false then 5 else if ((l.take i).any λ q=>q.nm==p.nm) then 7 else if fW p=false then 4 else 0
theorem lA{l:List Br}{i:Nat}{p:Br}(h:eL l i p):uY l i p=0:=by
  obtain⟨h1,h2⟩:=h;rw[Bool.and_eq_true] at h1;rw[uY,h1.1,h2,h1.2]; rfl
def sO(l:List Br):Int:=if l.length=0 then 1 else if 8<l.length then 3 else cX (uY l) 0 l
theorem qa{w:World}{a:OA}{c:Nat}{l:List Br}(h:gZ w a l)(hcap:l.length<=c) :
    CP 80 #[.slice a l.length c] w ((jP (jr l) (sO l) w)):=by
  refine nL ?_;unfold oR
  by_cases h0:l.length=0
  · exact cT (by rw[h0]; rfl) (aC (by decide) (λ hp=>by have:=hp.l1; omega) (an.refl _ _) (by rw[sO,if_pos h0]))
  refine cF (by simpa using h0) ?_;rcases Nat.lt_or_ge 8 l.length with h6 | h6
  · exact cT (dT (by omega)) (aC (by decide) (λ hp=>by have:=hp.l2; omega) (an.refl _ _) (by rw[sO,if_neg h0,if_pos h6]))
  refine cF (dF (by omega)) ⟨λ n w1 m=>∃ k:Nat,n=k/\k<=l.length/\m=l.length-k/\(∀ i p,i<k->l[i]? = some p->eL l i p)/\an w w1 [],⟨l.length,0,rfl,by omega,by omega,λ i p hi=>by omega,an.refl _ _⟩,?_⟩;rintro w1 m n ⟨k,rfl,hk,hm,ha,hc⟩ -
  by_cases hlt:(k:Int)<(l.length:Int)
  · have hx:l[k]? = some (l[k]'(by omega)):=gE (by omega);generalize l[k]'(by omega)=x at hx;obtain⟨_,q,hq,hcl⟩:=(h.au hc) k x hx;have bad : ¬ eL l k x->¬ jr l:=λ hb hp=>hb (hp.good k x hx);have bk:∀ {e:Int},e≠0->uY l k x=e->sO l=e:=λ he h=>by
      have:=dG (f:=uY l) (n:=0) (λ i p hi hp=>by rw[Nat.zero_add]; exact lA (ha i p hi hp)) hx (by rw[Nat.zero_add,h]; exact he);rw[Nat.zero_add,h] at this;rw[sO,if_neg h0,if_neg (by omega),this]
    refine cT (by simpa using hlt) ?_;rw[hq];refine⟨by omega,by omega,_,_,_,_,hcl,aE ?_⟩;refine((St.start' hc).one.cr _ 92).bP 0 rfl x.cells rfl x.one λ w3 s3=>?_;generalize hr1:w1.heap.size=r1 at s3 ⊢;have cx:∀ {w' : World},an w3 w' []->∀ (j:Nat) (v:Value),x.cells[j]? = some v->w'.cell? ⟨r1,j,none⟩=some v:=λ hc j v hv=>bG (by rw[s3.af 0 rfl]; simpa using hv) hc;refine⟨_,cx (an.refl _ _) 0 _ rfl,aD (lX w3 x.nm) ?_⟩;rintro v w4 ⟨rfl,rfl⟩;refine⟨_,rfl,?_⟩
    cases hn:aK x.nm with
    | false=>exact cT rfl (aC (by decide) (bad λ hg=>by have:=hg.1; simp[hn] at this) s3.au (bk (by decide) (by rw[uY,hn]; rfl)))
    | true =>
      have d4:an w4 w4.drew []:=an.drew w4 [];refine cF rfl ⟨by omega,by omega,_,cx d4 0 _ rfl,?_⟩;rw[<- hq,wT];have hf:=uH (c:=c-0) ((h.au (s3.au.trans d4 (by simp))).take k) (by rw[List.length_take]; omega) x.nm;rw[List.length_take,Nat.min_eq_left hk] at hf;refine aD hf ?_;rintro v w5 ⟨⟨kk,rfl⟩,c5⟩;have d5:an w4 w5 []:=d4.trans c5 (by simp);refine⟨_,_,rfl,?_⟩
      cases hany:((l.take k).any λ p=>p.nm==x.nm) with
      | true=>exact cT rfl (aC (by decide) (bad λ hg=>by have:=hg.2; rw[hany] at this; cases this) (s3.au.trans d5 (by simp)) (bk (by decide) (by rw[uY,hn,hany]; rfl)))
      | false =>
        refine cF rfl ⟨λ b w6=>w6=w5/\b = !fW x,?_,?_⟩
        · rintro w6 b ⟨rfl,rfl⟩ -;have c7:=s3.au.trans d5 (by simp)
          cases hr:fW x with
          | false=>exact cT rfl (aC (by decide) (bad λ hg=>by have:=hg.1; simp[hr] at this) c7 (bk (by decide) (by rw[uY,hn,hany,hr]; rfl)))
          | true =>
            refine cF rfl ⟨l.length-(k+1),by omega,k+1,by rw[aH ⟨by omega,by omega⟩]; rfl,by omega,rfl,λ i p hi hp=>?_,c7⟩;rcases Nat.lt_or_ge i k with h' | h'
            · exact ha i p h' hp
            · obtain rfl:i=k:=by omega
              rw[hx] at hp; cases hp;exact⟨by simp[hn,hr],hany⟩
        · refine⟨_,cx d5 1 _ rfl,?_⟩
          by_cases g1:x.cls<0
          · exact cT (dT g1) ⟨rfl,bK (by omega)⟩
          refine cF (dF g1) ⟨_,cx d5 1 _ rfl,?_⟩
          by_cases g2:x.cls>4
          · exact cT (dT g2) ⟨rfl,bK (by omega)⟩
          refine cF (dF g2) ⟨_,cx d5 2 _ rfl,?_⟩
          by_cases g3:x.bud<0
          · exact cT (dT g3) ⟨rfl,bK (by omega)⟩
          refine cF (dF g3) ⟨_,cx d5 2 _ rfl,?_⟩
          by_cases g4:x.bud>1000000
          · exact cT (dT g4) ⟨rfl,bK (by omega)⟩
          refine cF (dF g4) ⟨_,cx d5 3 _ rfl,?_⟩
          by_cases g5:x.pts<0
          · exact cT (dT g5) ⟨rfl,bK (by omega)⟩
          refine cF (dF g5) ⟨_,cx d5 3 _ rfl,rfl,?_⟩
          by_cases g6:x.pts>24000
          · rw[dT g6]; exact bK (by omega)
          · rw[dF g6];have:fW x=true:=by simp only[fW,Bool.and_eq_true,decide_eq_true_eq]; omega
            rw[this]; rfl
  · obtain rfl:k=l.length:=by omega
    exact cF (by simp) (eV ⟨by omega,h6,λ i p hp=>ha i p (List.getElem?_eq_some_iff.1 hp).1 hp⟩ hc (by rw[sO,if_neg h0,if_neg (by omega),cu λ i p hp=>by rw[Nat.zero_add]; exact lA (ha i p (List.getElem?_eq_some_iff.1 hp).1 hp)]))
theorem p8{w:World}{a:OA}{c:Nat}{l:List Br}(h:gZ w a l)(hl:l.length<=1000){k:Nat}{x:Br}(hx:l[k]? = some x) :
    CP 129 #[.slice a l.length c,sv x.nm] w (λ r w'=>(∃ j:Nat,r=.tuple #[iv j,.bool true]/\(j=k<->((l.take k).any λ p=>p.nm==x.nm)=false))/\w' = w):=by
  have hkl:=(List.getElem?_eq_some_iff.1 hx).1;refine nT ?_;unfold oZ;refine⟨λ n w1 m=>∃ i:Nat,n=i/\i<=k/\m=l.length-i/\(l.take i).any (λ p=>p.nm==x.nm)=false/\w1=w,⟨l.length,0,rfl,by omega,by omega,rfl,rfl⟩,?_⟩;rintro w1 m n ⟨i,rfl,hi,hm,ha,rfl⟩ -;have hlt:(i:Int)<(l.length:Int):=by omega
  have hy:l[i]? = some (l[i]'(by omega)):=gE (by omega);generalize l[i]'(by omega)=y at hy;obtain⟨_,q,hq,hcl⟩:=h i y hy;refine cT (by simpa using hlt) ?_;rw[hq];refine⟨by omega,by omega,bs y.nm,by have:=hcl.1; rwa [Addr.add_add] at this,?_⟩
  by_cases hn:y.nm=x.nm
  · refine cT (by rw[hn]; simp) ⟨⟨i,rfl,?_,?_⟩,rfl⟩
    · rintro rfl; exact ha
    · intro hk;rcases Nat.lt_or_ge i k with h' | h'
      · have h2:(l.take k)[i]? = some y:=by rw[List.getElem?_take,if_pos h']; exact hy
        rw[de (p:=λ q=>q.nm==x.nm) h2 (by simpa using hn)] at hk
        cases hk
      · omega
  · have hik:i≠k:=λ e=>by subst e; rw[hx] at hy; cases hy; exact hn rfl
    exact cF (by show((bs y.nm).toList==(bs x.nm).toList)=false; rw[gO,gO]; simpa using hn) ⟨l.length-(i+1),by omega,i+1,by rw[aH ⟨by omega,by omega⟩]; rfl,by omega,rfl,cq ha hy (by simpa using hn),rfl⟩
theorem nX{w:World}{a:OA}{c:Nat}{l:List Br}(h:gZ w a l) :
    CP 88 #[.slice a l.length c] w ((k7 (jr l) w)):=by
  refine mI ?_;unfold mH
  by_cases h0:l.length=0
  · exact cT (by rw[h0]; rfl) (aO (by decide) (λ hp=>by have:=hp.l1; omega) (an.refl _ _))
  refine cF (by simpa using h0) ?_;rcases Nat.lt_or_ge 8 l.length with h6 | h6
  · exact cT (dT (by omega)) (aO (by decide) (λ hp=>by have:=hp.l2; omega) (an.refl _ _))
  refine cF (dF (by omega)) ⟨λ n w1 m=>∃ k:Nat,n=k/\k<=l.length/\m=l.length-k/\(∀ i p,i<k->l[i]? = some p->eL l i p)/\an w w1 [],⟨l.length,0,rfl,by omega,by omega,λ i p hi=>by omega,an.refl _ _⟩,?_⟩;rintro w1 m n ⟨k,rfl,hk,hm,ha,hc⟩ -
  by_cases hlt:(k:Int)<(l.length:Int)
  · have hx:l[k]? = some (l[k]'(by omega)):=gE (by omega);generalize l[k]'(by omega)=x at hx;obtain⟨_,q,hq,hcl⟩:=(h.au hc) k x hx;have bad : ¬ eL l k x->¬ jr l:=λ hb hp=>hb (hp.good k x hx);have at0:∀ {w' : World},an w1 w' []->w'.cell? (q.add (k*4))=some (sv x.nm):=λ hc'=>by
      have:=(aV hc' hcl).1
      rwa [Addr.add_add] at this
    refine cT (by simpa using hlt) ?_;rw[hq];refine⟨by omega,by omega,bs x.nm,at0 (an.refl _ _),aD (nD w1 x.nm) ?_⟩;rintro v w2 ⟨rfl,c2⟩;have c02:=hc.trans c2 (by simp);refine⟨_,rfl,?_⟩
    cases hn:aK x.nm with
    | false=>exact cT rfl (aO (by decide) (bad λ hg=>by have:=hg.1; simp[hn] at this) c02)
    | true =>
      refine cF rfl ⟨by omega,by omega,bs x.nm,at0 c2,?_⟩;rw[<- hq];refine aD (p8 (h.au c02) (by omega) hx) ?_;rintro v w3 ⟨⟨j,rfl,hj⟩,rfl⟩;refine⟨_,_,rfl,?_⟩
      by_cases hjk:j=k
      · have hany:=hj.1 hjk;have c1:=(aV c2 hcl).2.1;have c3:=(aV c2 hcl).2.2.1;have c5:=(aV c2 hcl).2.2.2.1;refine cF (by rw[hjk]; simp) ⟨λ b w4=>w4=w3/\b = !fW x,?_,?_⟩
        · rintro w4 b ⟨rfl,rfl⟩ -
          cases hr:fW x with
          | false=>exact cT rfl (aO (by decide) (bad λ hg=>by have:=hg.1; simp[hr] at this) c02)
          | true =>
            refine cF rfl ⟨l.length-(k+1),by omega,k+1,by rw[aH ⟨by omega,by omega⟩]; rfl,by omega,rfl,λ i p hi hp=>?_,c02⟩;rcases Nat.lt_or_ge i k with h' | h'
            · exact ha i p h' hp
            · obtain rfl:i=k:=by omega
              rw[hx] at hp; cases hp;exact⟨by simp[hn,hr],hany⟩
        · rw[hq];refine⟨by omega,by omega,_,c1,?_⟩
          by_cases g1:x.cls<0
          · exact cT (dT g1) ⟨rfl,bK (by omega)⟩
          refine cF (dF g1) ⟨by omega,by omega,_,c1,?_⟩
          by_cases g2:x.cls>4
          · exact cT (dT g2) ⟨rfl,bK (by omega)⟩
          refine cF (dF g2) ⟨by omega,by omega,_,c3,?_⟩
          by_cases g3:x.bud<0
          · exact cT (dT g3) ⟨rfl,bK (by omega)⟩
          refine cF (dF g3) ⟨by omega,by omega,_,c3,?_⟩
          by_cases g4:x.bud>1000000
          · exact cT (dT g4) ⟨rfl,bK (by omega)⟩
          refine cF (dF g4) ⟨by omega,by omega,_,c5,?_⟩
          by_cases g5:x.pts<0
          · exact cT (dT g5) ⟨rfl,bK (by omega)⟩
          refine cF (dF g5) ⟨by omega,by omega,_,c5,rfl,?_⟩
          by_cases g6:x.pts>24000
          · rw[dT g6]; exact bK (by omega)
          · rw[dF g6];have:fW x=true:=by simp only[fW,Bool.and_eq_true,decide_eq_true_eq]; omega
            rw[this]; rfl
      · refine cT (by simp; omega) (aO (by decide) (bad λ hg=>hjk (hj.2 hg.2)) c02)
  · obtain rfl:k=l.length:=by omega
    exact cF (by simp) (iq ⟨by omega,h6,λ i p hp=>ha i p (List.getElem?_eq_some_iff.1 hp).1 hp⟩ hc)
structure T3 where
  a:Int
  b:Int
  c:Int
def T3.cells(p:T3):List Value:=[iv p.a,iv p.b,iv p.c]
def vI(w:World)(a:OA)(l:List T3):Prop:=∀ (i:Nat) (p:T3),l[i]? = some p->∃ q,a=some q/\aa w (q.add (i*3)) 0 p.cells
theorem vI.au{w w' : World}{a:OA}{l:List T3}(h:vI w a l)(hc:an w w' []):vI w' a l:=λ i p hp =>
  let ⟨q,hq,h2⟩:=h i p hp
  ⟨q,hq,aV hc h2⟩
theorem T3.one(p:T3):∀ v∈p.cells,v.oneCell' = true:=by
  intro v hv; simp[T3.cells] at hv; rcases hv with rfl | rfl | rfl<;>rfl
theorem slice3{a:OA}{c:Nat}:(if c=0 then a else Option.map (λ x=>Addr.add x (0*3)) a)=a:=by
  split
  · rfl
  · cases a<;>simp[Addr.add]
def gx(n:Nat)(x:T3):Bool:=(decide (-1<=x.a)&&decide (x.a<(n:Int)))&&((decide (0<=x.b)&&decide (x.b<=4))&&(decide (0<=x.c)&&decide (x.c<=24)))
def bq(x y:T3):Bool:=y.a==x.a&&y.b==x.b
def js(n:Nat)(l:List T3)(i:Nat)(p:T3):Prop:=gx n p=true/\((l.take i).any λ q=>bq p q)=false
structure jO (n:Nat) (l:List T3):Prop where
  l1:l.length<=16
  good:∀ i p,l[i]? = some p->js n l i p
def u0(n:Nat)(l:List T3)(i:Nat)(x:T3):Int:=if (decide (-1<=x.a)&&decide (x.a<(n:Int)))=false then 6 else if ((decide (0<=x.b)&&decide (x.b<=4))&&(decide (0<=x.c)&&decide (x.c<=24)))=false then 4 else if ((l.take i).any λ q=>bq x q) then 7 else 0
theorem lI{n:Nat}{l:List T3}{i:Nat}{p:T3}(h:js n l i p):u0 n l i p=0:=by
  obtain⟨h1,h2⟩:=h;unfold gx at h1;rw[Bool.and_eq_true] at h1;rw[u0,h1.1,h1.2,h2]; rfl
def u5(n:Nat)(l:List T3):Int:=if 16<l.length then 3 else cX (u0 n l) 0 l
theorem sP{w:World}{a1 a2 a3 a4:OA}{l1 c1 l2 c2 c3 l4 c4:Nat}{l:List T3}(h:vI w a3 l)(hcap:l.length<=c3) :
    CP 81 #[.agg #[.slice a1 l1 c1,.slice a2 l2 c2,.slice a3 l.length c3,.slice a4 l4 c4]] w ((jP (jO l2 l) (u5 l2 l) w)):=by
  refine iM ?_;unfold gA;refine aE ?_;have s1:=(St.start w).one.cr #[.slice a1 l1 c1,.slice a2 l2 c2,.slice a3 l.length c3,.slice a4 l4 c4] 34;generalize hw1:w.alloc _=w1 at s1 ⊢;generalize hr1:w.heap.size=r1 at s1 ⊢;have cb:∀ {w' : World},an w1 w' []->∀ (j:Nat) (v:Value),(#[.slice a1 l1 c1,.slice a2 l2 c2,.slice a3 l.length c3,.slice a4 l4 c4]:Array Value)[j]? = some v->w'.cell? ⟨r1,j,none⟩=some v:=λ hc j v hv=>bG (by rw[s1.af 0 rfl]; exact hv) hc;have z1:an w1 w1 []:=an.refl _ _;refine⟨_,_,_,cb z1 2 _ rfl,?_⟩;rcases Nat.lt_or_ge 16 l.length with h6 | h6
  · exact cT (dT (by omega)) (aC (by decide) (λ hp=>by have:=hp.l1; omega) s1.au (by rw[u5,if_pos h6]))
  refine cF (dF (by omega)) ⟨_,_,_,cb z1 2 _ rfl,λ n w2 m=>∃ k:Nat,n=k/\k<=l.length/\m=l.length-k/\(∀ i p,i<k->l[i]? = some p->js l2 l i p)/\an w1 w2 [],⟨l.length,0,rfl,by omega,by omega,λ i p hi=>by omega,z1⟩,?_⟩;rintro w2 m n ⟨k,rfl,hk,hm,ha,hc⟩ -;have hcw:an w w2 []:=s1.au.trans hc (by simp)
  by_cases hlt:(k:Int)<(l.length:Int)
  · have hx:l[k]? = some (l[k]'(by omega)):=gE (by omega);generalize l[k]'(by omega)=x at hx;obtain⟨q,hq,hcl⟩:=(h.au hcw) k x hx;have bad : ¬ js l2 l k x->¬ jO l2 l:=λ hb hp=>hb (hp.good k x hx);have bk:∀ {e:Int},e≠0->u0 l2 l k x=e->u5 l2 l=e:=λ he h=>by
      have:=dG (f:=u0 l2 l) (n:=0) (λ i p hi hp=>by rw[Nat.zero_add]; exact lI (ha i p hi hp)) hx (by rw[Nat.zero_add,h]; exact he);rw[Nat.zero_add,h] at this;rw[u5,if_neg (by omega),this]
    refine cT (by simpa using hlt) ?_;rw[hq];refine⟨by omega,by omega,_,_,_,hcl,aE ?_⟩;refine((St.start w2).one.cr _ 95).bP 0 rfl x.cells rfl x.one λ w4 s4=>?_;generalize hr2:w2.heap.size=r2 at s4 ⊢;have d4:an w1 w4 []:=hc.trans s4.au (by simp);have cw4:an w w4 []:=s1.au.trans d4 (by simp);have cx:∀ {w' : World},an w4 w' []->∀ (j:Nat) (v:Value),x.cells[j]? = some v->w'.cell? ⟨r2,j,none⟩=some v:=λ hc j v hv=>bG (by rw[s4.af 0 rfl]; simpa using hv) hc;have z4:an w4 w4 []:=an.refl _ _;refine⟨λ b w5=>w5=w4/\b = !(decide (-1<=x.a)&&decide (x.a<(l2:Int))),?_,?_⟩
    · rintro w5 b ⟨rfl,rfl⟩ -
      cases g0:(decide (-1<=x.a)&&decide (x.a<(l2:Int))) with
      | false=>exact cT rfl (aC (by decide) (bad λ hg=>by have:=hg.1; unfold gx at this; rw[g0] at this; cases this) cw4 (bk (by decide) (by rw[u0,g0]; rfl)))
      | true =>
        refine cF rfl ⟨λ b w6=>w6=w5/\b = !((decide (0<=x.b)&&decide (x.b<=4))&&(decide (0<=x.c)&&decide (x.c<=24))),?_,?_⟩
        · rintro w6 b ⟨rfl,rfl⟩ -
          cases g1:((decide (0<=x.b)&&decide (x.b<=4))&&(decide (0<=x.c)&&decide (x.c<=24))) with
          | false=>exact cT rfl (aC (by decide) (bad λ hg=>by have:=hg.1; unfold gx at this; rw[g0,g1] at this; cases this) cw4 (bk (by decide) (by rw[u0,g0,g1]; rfl)))
          | true =>
            refine cF rfl ⟨_,_,_,cb d4 2 _ rfl,by omega,by omega,λ n w7 m=>∃ j:Nat,n=j/\j<=k/\m=k-j/\(l.take j).any (λ p=>bq x p)=false/\an w6 w7 [],⟨k,0,rfl,by omega,by omega,rfl,z4⟩,?_⟩;rintro w7 m7 n7 ⟨j,rfl,hj,hm7,hany,c7⟩ -
            by_cases hjk:(j:Int)<(k:Int)
            · have hy:l[j]? = some (l[j]'(by omega)):=gE (by omega);generalize l[j]'(by omega)=y at hy;obtain⟨q',hq',hcl'⟩:=(h.au (cw4.trans c7 (by simp))) j y hy;rw[hq] at hq'; cases hq';refine cT (by simpa using hjk) ?_;rw[slice3,hq];refine⟨by omega,by simpa using hjk,_,_,_,hcl',aE ?_⟩;refine((St.start' c7).one.cr _ 95).bP 0 rfl y.cells rfl y.one λ w9 s9=>?_;have cy:∀ (j:Nat) (v:Value),y.cells[j]? = some v->w9.cell? ⟨w7.heap.size,j,none⟩=some v:=λ j v hv=>by rw[s9.af 0 rfl]; simpa using hv
              refine⟨λ b w10=>w10=w9/\b=bq x y,?_,_,cy 0 _ rfl,_,cx s9.au 0 _ rfl,?_⟩
              · rintro w10 b ⟨rfl,rfl⟩ -
                cases hs:bq x y with
                | true =>
                  have h2:(l.take k)[j]? = some y:=by rw[List.getElem?_take,if_pos (by omega)]; exact hy
                  have h3:=de (p:=λ q=>bq x q) h2 hs;refine cT rfl (aC (by decide) (bad λ hg=>?_) (cw4.trans s9.au (by simp)) (bk (by decide) (by rw[u0,g0,g1,h3]; rfl)));have h1:=hg.2;rw[h3] at h1
                  cases h1
                | false=>exact cF rfl ⟨k-(j+1),by omega,j+1,by rw[aH ⟨by omega,by omega⟩]; rfl,by omega,rfl,cq hany hy hs,s9.au⟩
              · by_cases hA:y.a=x.a
                · refine cT (by simpa using hA) ⟨_,cy 1 _ rfl,_,cx s9.au 1 _ rfl,rfl,?_⟩;simp[bq,hA]
                · exact cF (by simpa using hA) ⟨rfl,by simp[bq,hA]⟩
            · obtain rfl:j=k:=by omega
              refine cF (by simp) ⟨l.length-(j+1),by omega,j+1,by rw[aH ⟨by omega,by omega⟩]; rfl,by omega,rfl,λ i p hi hp=>?_,d4.trans c7 (by simp)⟩;rcases Nat.lt_or_ge i j with h' | h'
              · exact ha i p h' hp
              · obtain rfl:i=j:=by omega
                rw[hx] at hp; cases hp;exact⟨by unfold gx; rw[g0,g1]; rfl,hany⟩
        · have no : ¬ (0<=x.b/\x.b<=4/\0<=x.c/\x.c<=24)->true = !((decide (0<=x.b)&&decide (x.b<=4))&&(decide (0<=x.c)&&decide (x.c<=24))):=λ hh=>by
            cases hr:((decide (0<=x.b)&&decide (x.b<=4))&&(decide (0<=x.c)&&decide (x.c<=24))) with
            | false=>rfl
            | true =>
              exfalso; apply hh
              simp only[Bool.and_eq_true,decide_eq_true_eq] at hr;omega
          refine⟨_,cx z4 1 _ rfl,?_⟩
          by_cases g1:x.b<0
          · exact cT (dT g1) ⟨rfl,no (by omega)⟩
          refine cF (dF g1) ⟨_,cx z4 1 _ rfl,?_⟩
          by_cases g2:x.b>4
          · exact cT (dT g2) ⟨rfl,no (by omega)⟩
          refine cF (dF g2) ⟨_,cx z4 2 _ rfl,?_⟩
          by_cases g3:x.c<0
          · exact cT (dT g3) ⟨rfl,no (by omega)⟩
          refine cF (dF g3) ⟨_,cx z4 2 _ rfl,rfl,?_⟩
          by_cases g4:x.c>24
          · rw[dT g4]; exact no (by omega)
          · rw[dF g4,dT (show 0<=x.b by omega),dT (show x.b<=4 by omega),dT (show 0<=x.c by omega),dT (show x.c<=24 by omega)];rfl
    · refine⟨_,cx z4 0 _ rfl,?_⟩
      by_cases g1:x.a < -1
      · exact cT (dT g1) ⟨rfl,by rw[dF (show ¬ -1<=x.a by omega)]; rfl⟩
      · refine cF (dF g1) ⟨_,cx z4 0 _ rfl,_,_,_,cb d4 1 _ rfl,rfl,?_⟩;rw[dT (show -1<=x.a by omega),Bool.true_and]
        by_cases g2:x.a<(l2:Int)
        · rw[dT g2,dF (by omega)]; rfl
        · rw[dF g2,dT (by omega)]; rfl
  · obtain rfl:k=l.length:=by omega
    exact cF (by simp) (eV ⟨h6,λ i p hp=>ha i p (List.getElem?_eq_some_iff.1 hp).1 hp⟩ hcw (by rw[u5,if_neg (by omega),cu λ i p hp=>by rw[Nat.zero_add]; exact lI (ha i p (List.getElem?_eq_some_iff.1 hp).1 hp)]))
end Go.Proofs.YtemiicbbbojdiaaGreatDoor
