import Derived.Test.YtpihmghnbplohaaGreatDoorProg
import Derived.KernelRfl
import Derived.Test.YtpihmghnbplohaaGreatDoorM02
import Derived.Test.YtpihmghnbplohaaGreatDoorM08
import Derived.Test.YtpihmghnbplohaaGreatDoorM09
set_option linter.unusedVariables false
set_option maxRecDepth 100000
namespace Go.Proofs.YtpihmghnbplohaaGreatDoor
open Go Go.Vc Tryz
def uY(a b c:Int)(d:I6)(e:ByteArray)(f:Int)(w:World)(K:KP):Prop:=ak w (.cells (iv a :: iv b :: iv c :: d.on [.string e,.int .u64 f]:List Value).toArray 43) λ a b=>∃ c:Bool->World->Prop,(∀ d e,c e d->∀ f:Nat->Value,cond e (K (iv 2) d) (∃ e:Bool->World->Prop,(∀ f g,e g f->∀ h:Nat->Value,cond g (K (iv 4) f) (∃ g:Bool->World->Prop,(∀ h i,g i h->∀ j:Nat->Value,cond i (K (iv 3) h) (K (iv 0) h))/\∃ h,f.cell? ⟨a,9,none⟩=some (.string h)/\cond (decide (((h.size:Nat):Int)>(4000:Int))) (g true f) (∃ (h i j:Int) (k:I6) (l:ByteArray) (m:Int),af f ⟨a,0,none⟩ 0 (iv h :: iv i :: iv j :: k.on [.string l,.int .u64 m])/\Calls prog 64 #[.agg (iv h :: iv i :: iv j :: k.on [.string l,.int .u64 m]:List Value).toArray] f λ f h=>∃ i,f=.returned (.string i)/\g (decide (((i.size:Nat):Int)>(4000:Int))) h)))/\∃ f,d.cell? ⟨a,1,none⟩=some (iv f)/\cond (decide (f<0)) (e true d) (∃ f,d.cell? ⟨a,1,none⟩=some (iv f)/\cond (decide (f>=8)) (e true d) (∃ f,d.cell? ⟨a,2,none⟩=some (iv f)/\cond (decide (f<0)) (e true d) (∃ f,d.cell? ⟨a,2,none⟩=some (iv f)/\cond (decide (f>=30)) (e true d) (∃ (f:I6),af d ⟨a,3,none⟩ 0 f.vs/\Calls prog 86 #[.agg f.vs.toArray] d λ d f=>∃ g,d=.returned (iv g)/\e (g !=0) f))))))/\∃ d,b.drew.cell? ⟨a,0,none⟩=some (iv d)/\Calls prog 84 #[iv d] b.drew λ b d=>∃ e,b=.returned (.string e)/\cond (e.toList==(bs []).toList) (c true d) (∃ (b e f:Int) (g:I6) (h:ByteArray) (i:Int),af d ⟨a,0,none⟩ 0 (iv b :: iv e :: iv f :: g.on [.string h,.int .u64 i])/\∃ (j k l:Int) (m:I6) (n:ByteArray) (o:Int),af d ⟨a,0,none⟩ 0 (iv j :: iv k :: iv l :: m.on [.string n,.int .u64 o])/\Calls prog 85 #[.agg (iv j :: iv k :: iv l :: m.on [.string n,.int .u64 o]:List Value).toArray] d λ d j=>∃ (k l m:Int) (n:I6) (o:ByteArray) (p:Int),d=.returned (.agg (iv k :: iv l :: iv m :: n.on [.string o,.int .u64 p]:List Value).toArray)/\af j ⟨a,0,none⟩ 0 (iv b :: iv e :: iv f :: g.on [.string h,.int .u64 i])/\c (!((b==k)&&((e==l)&&((f==m)&&((I6.beq g n)&&((h==o)&&((i==p)&&true))))))) j)
theorem xN{n1 n2 n3 u1 s1 n4 w K}(h:uY n1 n2 n3 u1 s1 n4 w K):CP 48 #[.agg (iv n1 :: iv n2 :: iv n3 :: u1.on [.string s1,.int .u64 n4]:List Value).toArray] w (K):=ah (ay [(12,[(3,.s .bool)]),(51,[(14,.s .bool)]),(207,[(39,.s .bool)])]) func48 (by kernel_rfl) (by kernel_rfl) h
def rR(a b c:Int)(d:I6)(e:ByteArray)(f:Int)(w:World)(K:KP):Prop:=ak w (.cells (iv a :: iv b :: iv c :: d.on [.string e,.int .u64 f]:List Value).toArray 43) λ a b=>∃ (c d e:Int) (f:I6) (g:ByteArray) (h:Int),af b ⟨a,0,none⟩ 0 (iv c :: iv d :: iv e :: f.on [.string g,.int .u64 h])/\Calls prog 48 #[.agg (iv c :: iv d :: iv e :: f.on [.string g,.int .u64 h]:List Value).toArray] b λ b c=>∃ d,b=.returned (iv d)/\cond (d !=0) (K (.tuple #[.string (bs []),iv d]) c) (∃ (b d e:Int) (f:I6) (g:ByteArray) (h:Int),af c ⟨a,0,none⟩ 0 (iv b :: iv d :: iv e :: f.on [.string g,.int .u64 h])/\Calls prog 64 #[.agg (iv b :: iv d :: iv e :: f.on [.string g,.int .u64 h]:List Value).toArray] c λ a b=>∃ c,a=.returned (.string c)/\K (.tuple #[.string c,iv 0]) b)
theorem vM{n1 n2 n3 u1 s1 n4 w K}(h:rR n1 n2 n3 u1 s1 n4 w K):CP 22 #[.agg (iv n1 :: iv n2 :: iv n3 :: u1.on [.string s1,.int .u64 n4]:List Value).toArray] w (K):=ah (ay []) func22 (by kernel_rfl) (by kernel_rfl) h
def nF(a:Int)(b:ByteArray)(w:World)(K:KP):Prop:=Calls prog 35 #[.int .u64 a,iv 8] w λ a c=>∃ d,a=.returned (.string d)/\Calls prog 35 #[.int .u64 (IntKind.u64.wrap ((b.size:Nat):Int)),iv 8] c λ a c=>∃ e,a=.returned (.string e)/\((d.size+e.size:Nat):Int)<=IntKind.i64.max/\(((d++e).size+b.size:Nat):Int)<=IntKind.i64.max/\Calls prog 34 #[.string ((d++e)++b)] c λ a b=>∃ c,a=.returned (.int .u64 c)/\K (.int .u64 c) b
theorem rI{n1 s1 w K}(h:nF n1 s1 w K):CP 13 #[.int .u64 n1,.string s1] w (K):=ah (ay []) func13 (by kernel_rfl) (by kernel_rfl) h
def xO(a:Int)(w:World)(K:KP):Prop:=ak w (.cells #[.string (bs []),.string (bs []),.string (bs []),.string (bs []),.string (bs []),.string (bs []),.string (bs []),.string (bs []),.string (bs []),.string (bs []),.string (bs [])] 209) λ b c=>aQ ⟨b,0,none⟩ 0 [.string (bs []),.string (bs [115,97,108,101]),.string (bs [100,101,109,97,110,100]),.string (bs [114,111,117,110,100]),.string (bs [115,116,111,112]),.string (bs [98,105,100]),.string (bs [119,105,116,104,100,114,97,119]),.string (bs [100,105,115,113,117,97,108,105,102,121]),.string (bs [114,101,114,117,110]),.string (bs [99,108,111,115,101]),.string (bs [100,101,99,105,100,101])] c λ c=>∃ d:Bool->World->Prop,(∀ e f,d f e->∀ g:Nat->Value,cond f (K (.string (bs [])) e) (0<=a/\a<11/\∃ f,e.cell? (Addr.add ⟨b,0,none⟩ ((a).toNat*1))=some (.string f)/\K (.string f) e))/\cond (decide (a<1)) (d true c) (d (decide (a>10)) c)
theorem zz{n1 w K}(h:xO n1 w K):CP 84 #[iv n1] w (K):=ah (ay [(14,[(10,.s .bool)])]) func84 (by kernel_rfl) (by kernel_rfl) h
def xP(a b c:Int)(d:I6)(e:ByteArray)(f:Int)(w:World)(K:KP):Prop:=ak w (.cells (iv a :: iv b :: iv c :: d.on [.string e,.int .u64 f]:List Value).toArray 43) λ a b=>ak b (.cells #[iv 0,iv 0,iv 0,iv 0,iv 0,iv 0,iv 0,iv 0,iv 0,.string (bs []),.int .u64 0] 43) λ b c=>∃ d,c.cell? ⟨a,0,none⟩=some (iv d)/\Calls prog 39 #[iv d] c λ c d=>∃ e,c=.returned (iv e)/\∃ c,d.cell? ⟨a,0,none⟩=some (iv c)/\ak d (.cells #[iv 0,iv 0,iv 0,iv 0,iv 0,iv 0,iv 0,iv 0,iv 0,.string (bs []),.int .u64 0] 43) λ d f=>aQ ⟨d,0,none⟩ 0 [iv c,iv 0,iv 0,iv 0,iv 0,iv 0,iv 0,iv 0,iv 0,.string (bs []),.int .u64 0] f λ c=>∃ f:World->Prop,(∀ g,f g->∀ h:Nat->Value,∃ h:World->Prop,(∀ i,h i->∀ j:Nat->Value,∃ j:World->Prop,(∀ k,j k->∀ l:Nat->Value,∃ l:World->Prop,(∀ m,l m->∀ n:Nat->Value,∃ n:World->Prop,(∀ o,n o->∀ p:Nat->Value,∃ (p q r:Int) (s:I6) (t:ByteArray) (u:Int),af o ⟨d,0,none⟩ 0 (iv p :: iv q :: iv r :: s.on [.string t,.int .u64 u])/\aQ ⟨b,0,none⟩ 0 (iv p :: iv q :: iv r :: s.on [.string t,.int .u64 u]) o λ o=>∃ (p q r:Int) (s:I6) (t:ByteArray) (u:Int),af o ⟨b,0,none⟩ 0 (iv p :: iv q :: iv r :: s.on [.string t,.int .u64 u])/\K (.agg (iv p :: iv q :: iv r :: s.on [.string t,.int .u64 u]:List Value).toArray) o)/\cond ((fU .i64 e 16) !=(0:Int)) (∃ b,m.cell? ⟨a,10,none⟩=some (.int .u64 b)/\aN m ⟨d,10,none⟩ (.int .u64 b) λ b=>n b) (n m))/\cond ((fU .i64 e 8) !=(0:Int)) (∃ b,k.cell? ⟨a,2,none⟩=some (iv b)/\aN k ⟨d,2,none⟩ (iv b) λ b=>l b) (l k))/\cond ((fU .i64 e 4) !=(0:Int)) (∃ b,i.cell? ⟨a,9,none⟩=some (.string b)/\aN i ⟨d,9,none⟩ (.string b) λ b=>j b) (j i))/\cond ((fU .i64 e 2) !=(0:Int)) (∃ (b:I6),af g ⟨a,3,none⟩ 0 b.vs/\aQ ⟨d,3,none⟩ 0 b.vs g λ b=>h b) (h g))/\cond ((fU .i64 e 1) !=(0:Int)) (∃ b,c.cell? ⟨a,1,none⟩=some (iv b)/\aN c ⟨d,1,none⟩ (iv b) λ a=>f a) (f c)
theorem zA{n1 n2 n3 u1 s1 n4 w K}(h:xP n1 n2 n3 u1 s1 n4 w K):CP 85 #[.agg (iv n1 :: iv n2 :: iv n3 :: u1.on [.string s1,.int .u64 n4]:List Value).toArray] w (K):=ah (ay [(15,[]),(31,[]),(63,[]),(127,[]),(255,[])]) func85 (by kernel_rfl) (by kernel_rfl) h
def uZ(a b c:Int)(d:I6)(e:ByteArray)(f:Int)(w:World)(K:KP):Prop:=ak w (.cells (iv a :: iv b :: iv c :: d.on [.string e,.int .u64 f]:List Value).toArray 43) λ a b=>∃ c,b.cell? ⟨a,0,none⟩=some (iv c)/\Calls prog 39 #[iv c] b λ b c=>∃ d,b=.returned (iv d)/\∃ b,c.cell? ⟨a,0,none⟩=some (iv b)/\Calls prog 111 #[.int .u64 (IntKind.u64.wrap b)] c λ b c=>∃ e,b=.returned (.string e)/\∃ b:ByteArray->World->Prop,(∀ f g,b g f->∀ h:Nat->Value,∃ h:ByteArray->World->Prop,(∀ i j,h j i->∀ k:Nat->Value,∃ k:ByteArray->World->Prop,(∀ l m,k m l->∀ n:Nat->Value,∃ n:ByteArray->World->Prop,(∀ o p,n p o->∀ q:Nat->Value,∃ q:ByteArray->World->Prop,(∀ r s,q s r->∀ t:Nat->Value,K (.string s) r)/\cond ((fU .i64 d 16) !=(0:Int)) (∃ r,o.cell? ⟨a,10,none⟩=some (.int .u64 r)/\Calls prog 111 #[.int .u64 r] o λ r s=>∃ t,r=.returned (.string t)/\((p.size+t.size:Nat):Int)<=IntKind.i64.max/\q (p++t) s) (q p o))/\cond ((fU .i64 d 4) !=(0:Int)) (∃ o,l.cell? ⟨a,9,none⟩=some (.string o)/\Calls prog 112 #[.string o] l λ o p=>∃ q,o=.returned (.string q)/\((m.size+q.size:Nat):Int)<=IntKind.i64.max/\n (m++q) p) (n m l))/\cond ((fU .i64 d 2) !=(0:Int)) (∃ (l:I6),af i ⟨a,3,none⟩ 0 l.vs/\∃ m:ByteArray->Int->World->Nat->Prop,(∃ n,m j 0 i n)/\∀ o n p q,m p q o n->∀ r:Nat->Value,cond (decide (q<6)) (0<=q/\q<6/\∃ r,(l.vs.toArray:Array Value)[(q).toNat*1]? = some (iv r)/\Calls prog 111 #[.int .u64 (IntKind.u64.wrap r)] o λ l r=>∃ s,l=.returned (.string s)/\((p.size+s.size:Nat):Int)<=IntKind.i64.max/\∃ l,l<n/\m (p++s) (IntKind.i64.wrap (q+1)) r l) (k p o)) (k j i))/\cond ((fU .i64 d 8) !=(0:Int)) (∃ i,f.cell? ⟨a,2,none⟩=some (iv i)/\Calls prog 111 #[.int .u64 (IntKind.u64.wrap i)] f λ i j=>∃ k,i=.returned (.string k)/\((g.size+k.size:Nat):Int)<=IntKind.i64.max/\h (g++k) j) (h g f))/\cond ((fU .i64 d 1) !=(0:Int)) (∃ d,c.cell? ⟨a,1,none⟩=some (iv d)/\Calls prog 111 #[.int .u64 (IntKind.u64.wrap d)] c λ a d=>∃ f,a=.returned (.string f)/\((e.size+f.size:Nat):Int)<=IntKind.i64.max/\b (e++f) d) (b e c)
theorem xQ{n1 n2 n3 u1 s1 n4 w K}(h:uZ n1 n2 n3 u1 s1 n4 w K):CP 64 #[.agg (iv n1 :: iv n2 :: iv n3 :: u1.on [.string s1,.int .u64 n4]:List Value).toArray] w (K):=ah (ay [(15,[(4,.s .str)]),(31,[(4,.s .str)]),(63,[(4,.s .str)]),(127,[(4,.s .str)]),(255,[(4,.s .str)]),(2026,[(4,.s .str),(37,.s (.int .i64))])]) func64 (by kernel_rfl) (by kernel_rfl) h
def qg(a:ByteArray)(w:World)(K:KP):Prop:=∃ b:Int->Int->World->Nat->Prop,(∃ c,b 14695981039346656037 (0:Int) w c)/\∀ d c e f,b e f d c->∀ g:Nat->Value,cond (decide (f<((a.size:Nat):Int))) (0<=f/\an a[(f).toNat]? λ a=>∃ g,g<c/\b (IntKind.u64.wrap ((Rv .u64 e (IntKind.u64.wrap (a.toNat:Int)))*(1099511628211:Int))) (IntKind.i64.wrap (f+1)) d g) (K (.int .u64 e) d)
theorem tU{s1 w K}(h:qg s1 w K):CP 34 #[.string s1] w (K):=ah (ay [(58,[(3,.s (.int .u64)),(4,.s (.int .i64))])]) func34 (by kernel_rfl) (by kernel_rfl) h
def rJ(a b:Int)(w:World)(K:KP):Prop:=aZ prog (Instr.makeSlice 125 (iv b) (iv b)) w λ b c=>∃ d e f,b=(.slice d e f)/\∃ b:Int->World->Nat->Prop,(∃ g,b 0 c g)/\∀ c g h,b h c g->∀ i:Nat->Value,cond (decide (h<(e:Int))) (0<=(IntKind.i64.wrap ((8:Int)*h))/\an d λ i=>0<=h/\h<(e:Int)/\aN c (Addr.add i ((h).toNat*1)) (.int .u8 (IntKind.u8.wrap (Int.fdiv a (2 ^ (min ((IntKind.i64.wrap ((8:Int)*h))).toNat IntKind.u64.bits))))) λ a=>∃ i,i<g/\b (IntKind.i64.wrap (h+1)) a i) (aZ prog (convert 125 9 (.slice d e f)) c λ a b=>∃ c,a=(.string c)/\K (.string c) b)
theorem vJ{n1 n2 w K}(h:rJ n1 n2 w K):CP 35 #[.int .u64 n1,iv n2] w (K):=ah (ay [(58,[(11,.s (.int .i64))])]) func35 (by kernel_rfl) (by kernel_rfl) h
def rS(a:Int)(w:World)(K:KP):Prop:=cond (a==1) (K (iv 4) w) (cond (a==2) (K (iv 3) w) (cond (a==5) (K (iv 5) w) (∃ b:Bool->World->Prop,(∀ c d,b d c->∀ e:Nat->Value,cond d (K (iv 1) c) (cond (a==8) (K (iv 8) c) (cond (a==10) (K (iv 16) c) (K (iv 0) c))))/\cond (a==6) (b (a==6) w) (b (a==7) w))))
theorem vN{n1 w K}(h:rS n1 w K):CP 39 #[iv n1] w (K):=ah (ay [(1727,[(10,.s .bool)])]) func39 (by kernel_rfl) (by kernel_rfl) h
def A5(a:Int)(w:World)(K:KP):Prop:=∃ b:Int->OA->Nat->Nat->World->Nat->Prop,(∃ c,b a none 0 0 w c)/\∀ a c d e f g,b d e f g a c->∀ h:Nat->Value,cond (decide (d>=128)) (ak a (.cells #[.int .u8 (Pb .u8 (IntKind.u8.wrap d) (128:Int))] 5) λ h i=>aZ prog (Builtin.append_ #[125,125] 125 #[.slice e f g,.slice (some ⟨h,0,none⟩) 1 1]) i λ h i=>∃ j k l,h=(.slice j k l)/\0<=(7:Int)/\∃ h,h<c/\b (Int.fdiv d (2 ^ (min ((7:Int)).toNat IntKind.u64.bits))) j k l i h) (ak a (.cells #[.int .u8 (IntKind.u8.wrap d)] 5) λ a b=>aZ prog (Builtin.append_ #[125,125] 125 #[.slice e f g,.slice (some ⟨a,0,none⟩) 1 1]) b λ a b=>∃ c d e,a=(.slice c d e)/\aZ prog (convert 125 9 (.slice c d e)) b λ a b=>∃ c,a=(.string c)/\K (.string c) b)
theorem CC{n1 w K}(h:A5 n1 w K):CP 111 #[.int .u64 n1] w (K):=ah (ay [(28,[(0,.s (.int .u64)),(3,.s .slice)])]) func111 (by kernel_rfl) (by kernel_rfl) h
def A4(a:ByteArray)(w:World)(K:KP):Prop:=Calls prog 111 #[.int .u64 (IntKind.u64.wrap ((a.size:Nat):Int))] w λ b c=>∃ d,b=.returned (.string d)/\((d.size+a.size:Nat):Int)<=IntKind.i64.max/\K (.string (d++a)) c
theorem CB{s1 w K}(h:A4 s1 w K):CP 112 #[.string s1] w (K):=ah (ay []) func112 (by kernel_rfl) (by kernel_rfl) h
theorem SW:gL prog 125 5 (.int .u8 0) 1 1:=gL.mk' underlying125 (by kernel_rfl) rfl (by decide)
theorem Rr(n:Nat):IntKind.u8.wrap (n:Int)=((UInt8.ofNat (n%256)).toNat:Int):=by
  rw[IntKind.wrap_u8,ofNat_toNat]; omega
def aE(prev:Nat)(l:List UInt8):Nat:=GI (sA 8 prev++sA 8 l.length++l)
theorem Kq(l:List UInt8):GI l<18446744073709551616:=by
  unfold GI;have h:∀ (l:List UInt8) (h:Nat),h<18446744073709551616->l.foldl iO h<18446744073709551616:=by
    intro l
    induction l with
    | nil=>exact λ h hh=>hh
    | cons b l ih=>exact λ h _=>ih _ (vf h b)
  exact h l _ (by decide)
theorem Rq{n:Nat}(hs:n<=9223372036854775807):IntKind.u64.wrap (n:Int)=(n:Int):=IntWalk.u64_in _ (by omega)
theorem O1(w:World)(x k:Nat)(hk:k<=8):CP 35 #[.int .u64 (x:Int),iv k] w (λ r w'=>r=sv (sA k x)/\az w w' []):=by
  refine vJ ?_;unfold rJ;refine DH SW rfl x k hk (A:=λ a1 l1 c1 w2=>aZ prog (convert 125 9 (.slice a1 l1 c1)) w2 λ e2 w4=>∃ (s1:ByteArray),e2=(.string s1)/\_) ?_;intro w2 g hc hg _;have own:=Av hg (by rw[aJ]; omega);rw[aJ] at own;exact tv (l:=sA k x) underlying125 underlying5 underlying9 (by rw[aJ]; exact own) ⟨_,rfl,rfl,hc⟩
theorem Qi(w:World)(l:List UInt8)(hs:l.length<=9223372036854775807):CP 34 #[sv l] w (λ r w'=>r=.int .u64 (GI l:Nat)/\w' = w):=by
  refine tU ?_;unfold qg;refine⟨λ n1 n2 w1 m=>∃ i:Nat,n2=(i:Int)/\i<=l.length/\m=l.length-i/\w1=w/\n1=(((l.take i).foldl iO 14695981039346656037:Nat):Int)/\(l.take i).foldl iO 14695981039346656037<18446744073709551616,
    ⟨l.length,0,rfl,by omega,by omega,rfl,by rw[List.take_zero,List.foldl_nil]; rfl,by rw[List.take_zero,List.foldl_nil]; omega⟩,?_⟩
  rintro w1 m n1 n2 ⟨i,rfl,hi,rfl,rfl,rfl,hlt'⟩ -;rw[fm]
  by_cases hlt:i<l.length
  · refine cT (dT (by omega)) ⟨by omega,?_⟩;rw[Int.toNat_natCast,jY,gE hlt];refine⟨l.length-(i+1),by omega,i+1,inc hs hlt,by omega,rfl,rfl,?_,?_⟩
    · rw[Dm _ hlt',List.take_succ_eq_append_getElem (by omega),List.foldl_append,List.foldl_cons,List.foldl_nil]
    · rw[List.take_succ_eq_append_getElem (by omega),List.foldl_append,List.foldl_cons,List.foldl_nil]; exact vf _ _
  · refine cF (dF (by omega)) ⟨?_,rfl⟩;rw[List.take_of_length_le (by omega)]; rfl
theorem Bs(w:World)(x:Nat)(l:List UInt8)(hs:l.length<=4611686018427387904):CP 13 #[.int .u64 (x:Int),sv l] w (λ r w'=>r=.int .u64 (aE x l:Nat)/\az w w' []):=by
  refine rI ?_;unfold nF;have hm:IntKind.i64.max=9223372036854775807:=rfl;refine aj (O1 w x 8 (by decide)) ?_;rintro v w1 ⟨rfl,c1⟩;refine⟨_,rfl,?_⟩;rw[fm,Rq (by omega)];refine aj (O1 w1 _ 8 (by decide)) ?_;rintro v w2 ⟨rfl,c2⟩;refine⟨_,rfl,by rw[fm,fm,aJ,aJ,hm]; omega,?_⟩;rw[lA,lA,fm,List.length_append,aJ,aJ];refine⟨by rw[hm]; omega,aj (Qi w2 _ (by simp only[List.length_append,aJ]; omega)) ?_⟩;rintro v w3 ⟨rfl,rfl⟩;exact⟨_,rfl,rfl,c1.trans c2 (by simp)⟩
def hO:Nat->Nat->List UInt8
  | 0,x=>[UInt8.ofNat (x%256)]
  | k+1,x=>if x<128 then [UInt8.ofNat (x%256)] else UInt8.ofNat (x%128+128) :: hO k (x / 128)
def hU(x:Nat):List UInt8:=hO 9 x
theorem AX:∀ (k x:Nat),(hO k x).length<=k+1
  | 0,_=>Nat.le_refl _
  | k+1,x=>by
    have:=AX k (x / 128);unfold hO
    split<;>simp<;>omega
theorem iw(x:Nat):(hU x).length<=10:=AX 9 x
def cN(l:List UInt8):List UInt8:=hU l.length++l
theorem R6:∀ a:Fin 256,Pb .u8 ((a.val:Nat):Int) 128=((UInt8.ofNat (a.val%128+128)).toNat:Int):=by decide +kernel
theorem NG(x:Nat):Pb .u8 (IntKind.u8.wrap (x:Int)) 128=((UInt8.ofNat (x%128+128)).toNat:Int):=by
  have h:=R6 ⟨x%256,Nat.mod_lt _ (by decide)⟩;simp only at h;rw[IntKind.wrap_u8,show(x:Int)%256=((x%256:Nat):Int) by omega,h,Nat.mod_mod_of_dvd _ (by decide)]
theorem CX{n:Int}{b:UInt8}(h:n=(b.toNat:Int)):(Value.int .u8 n)=cU b:=by rw[h]; rfl
theorem L8(w:World)(x:Nat)(hx:x<18446744073709551616):CP 111 #[.int .u64 (x:Int)] w (λ r w'=>r=sv (hU x)/\az w w' []):=by
  refine CC ?_;unfold A5;refine⟨λ n a l c w1 m=>∃ (y:Nat) (xs:List UInt8),n=(y:Int)/\y<128 ^ (m+1)/\m<=9/\xs.length+m=9/\l=xs.length/\xs++hO m y=hU x/\St w w1 (star (cw 5 1 (.slice a l c) xs.length (xs.map cU)) emp),
    ⟨9,x,[],rfl,by omega,by omega,rfl,rfl,rfl,(((St.start w).Fj 5 1).swap)⟩,?_⟩
  rintro w1 m n a l c ⟨y,xs,rfl,hy,hm,hlen,rfl,he,hst⟩ -
  by_cases h128:128<=y
  · refine cT (dT (by omega)) ?_;obtain⟨m',rfl⟩:∃ m',m=m' + 1:=by
      cases m with
      | zero=>simp at hy; omega
      | succ m'=>exact⟨m',rfl⟩
    refine wD SW hst (news:=[cU (UInt8.ofNat (y%128+128))]) rfl (by simp[cU,Value.oneCell']) (by omega) (by omega) (λ a2 c2 w3 h3=>?_) (by rw[CX (NG y)]);refine⟨by decide,m',by omega,y / 128,xs++[UInt8.ofNat (y%128+128)],?_,?_,by omega,by simp; omega,by simp,?_,by simpa using h3⟩
    · rw[show(2:Int) ^ (min (7:Int).toNat IntKind.u64.bits)=128 from rfl,Int.fdiv_eq_ediv_of_nonneg _ (by omega)]; omega
    · rw[Nat.pow_succ] at hy; omega
    · rw[<- he]
      conv=>rhs; unfold hO
      rw[if_neg (by omega)]
      simp
  · refine cF (dF (by omega)) ?_;have hu:hO m y=[UInt8.ofNat (y%256)]:=by
      cases m with
      | zero=>rfl
      | succ m'=>unfold hO; rw[if_pos (by omega)]
    refine wD SW hst (news:=[cU (UInt8.ofNat (y%256))]) rfl (by simp[cU,Value.oneCell']) (by omega) (by omega) (λ a2 c2 w3 h3=>?_) (by rw[CX (Rr y)]);have h4:St w w3 (star (cw 5 1 (.slice a2 (xs.length+1) c2) (hU x).length ((hU x).map cU)) emp):=by
      rw[<- he,hu]; simpa using h3
    exact L3 underlying125 underlying5 underlying9 h4 ⟨_,rfl,rfl,h4.av⟩
theorem tA(w:World)(n:Int)(h:0<=n/\n<=9223372036854775807):CP 111 #[.int .u64 (IntKind.u64.wrap n)] w (λ r w'=>r=sv (hU n.toNat)/\az w w' []):=by
  have e:IntKind.u64.wrap n=((n.toNat:Nat):Int):=by rw[IntWalk.u64_in _ (by omega)]; omega
  rw[e];exact L8 w _ (by omega)
theorem L1(w:World)(l:List UInt8)(hs:l.length<=4611686018427387904):CP 112 #[sv l] w (λ r w'=>r=sv (cN l)/\az w w' []):=by
  refine CB ?_;unfold A4;have hm:IntKind.i64.max=9223372036854775807:=rfl;rw[fm];refine aj (tA w _ (by omega)) ?_;rintro v w1 ⟨rfl,c1⟩;have:=iw l.length;refine⟨_,rfl,?_,?_,c1⟩
  · rw[fm,hm,Int.toNat_natCast]; omega
  · rw[lA]; rfl
structure Ev where
  kind:Int
  bidder:Int
  round:Int
  want:I6
  text:List UInt8
  digest:Int
def Ev.cells(e:Ev):List Value:=iv e.kind :: (iv e.bidder :: (iv e.round :: (e.want.on [sv e.text,.int .u64 e.digest])))
def Ev.v(e:Ev):Value:=.agg e.cells.toArray
structure Ev.In (e:Ev):Prop where
  d:0<=e.digest/\e.digest<18446744073709551616
theorem Ev.one(e:Ev):∀ v∈e.cells,v.oneCell' = true:=by
  intro v hv;simp only[Ev.cells,I6.on,List.mem_cons,List.mem_nil_iff,or_false] at hv;rcases hv with rfl | rfl | rfl | rfl | rfl | rfl | rfl | rfl | rfl | rfl | rfl<;>rfl
def qM(k:Int):Int:=if k=1 then 4 else if k=2 then 3 else if k=5 then 5 else if k=6\/k=7 then 1 else if k=8 then 8 else if k=10 then 16 else 0
theorem xV(w:World)(n:Int):CP 39 #[iv n] w (λ r w'=>r=iv (qM n)/\w' = w):=by
  refine vN ?_;unfold rS
  by_cases h1:n=1
  · exact cT (by simpa using h1) ⟨by simp[qM,h1],rfl⟩
  refine cF (by simpa using h1) ?_
  by_cases h2:n=2
  · exact cT (by simpa using h2) ⟨by simp[qM,h2],rfl⟩
  refine cF (by simpa using h2) ?_
  by_cases h5:n=5
  · exact cT (by simpa using h5) ⟨by simp[qM,h5],rfl⟩
  refine cF (by simpa using h5) ⟨λ b w1=>w1=w/\b=decide (n=6\/n=7),?_,?_⟩
  · rintro w1 b ⟨rfl,rfl⟩ -
    by_cases h67:n=6\/n=7
    · exact cT (by simpa using h67) ⟨by simp[qM,h1,h2,h5,h67],rfl⟩
    refine cF (dF h67) ?_
    by_cases h8:n=8
    · exact cT (by simpa using h8) ⟨by simp[qM,h8],rfl⟩
    refine cF (by simpa using h8) ?_
    by_cases h10:n=10
    · exact cT (by simpa using h10) ⟨by simp[qM,h10],rfl⟩
    · exact cF (by simpa using h10) ⟨by simp[qM,h1,h2,h5,h67,h8,h10],rfl⟩
  · by_cases h6:n=6
    · exact cT (by simpa using h6) ⟨rfl,by simp[h6]⟩
    · refine cF (by simpa using h6) ⟨rfl,?_⟩
      by_cases h7:n=7
      · simp[h7]
      · simp[h6,h7]
def fB(k:Int):Bool:=decide (k=2\/k=5\/k=6\/k=7)
def fW(k:Int):Bool:=decide (k=2)
def fT(k:Int):Bool:=decide (k=1\/k=5)
def fR(k:Int):Bool:=decide (k=8)
def fD(k:Int):Bool:=decide (k=10)
theorem xW(k:Int):(fU .i64 (qM k) 1 !=0)=fB k/\(fU .i64 (qM k) 2 !=0)=fW k/\(fU .i64 (qM k) 4 !=0)=fT k/\(fU .i64 (qM k) 8 !=0)=fR k/\(fU .i64 (qM k) 16 !=0)=fD k:=by
  by_cases h1:k=1
  · subst h1; decide +kernel
  by_cases h2:k=2
  · subst h2; decide +kernel
  by_cases h5:k=5
  · subst h5; decide +kernel
  by_cases h6:k=6
  · subst h6; decide +kernel
  by_cases h7:k=7
  · subst h7; decide +kernel
  by_cases h8:k=8
  · subst h8; decide +kernel
  by_cases h10:k=10
  · subst h10; decide +kernel
  have e:qM k=0:=by simp[qM,h1,h2,h5,h6,h7,h8,h10]
  rw[e];simp only[fB,fW,fT,fR,fD,h1,h2,h5,h6,h7,h8,h10,or_self,decide_false]
  decide +kernel
def cA(e:Ev):Ev:=⟨e.kind,if fB e.kind then e.bidder else 0,if fR e.kind then e.round else 0,if fW e.kind then e.want else z6,if fT e.kind then e.text else [],if fD e.kind then e.digest else 0⟩
theorem PI(w:World)(e:Ev):CP 85 #[e.v] w (λ r w'=>r=(cA e).v/\az w w' []):=by
  refine zA ?_;unfold xP;let z:Ev:=⟨0,0,0,z6,[],0⟩;refine(St.start w).one.ax e.cells.toArray λ r1 w1 s1=>s1.ax z.cells.toArray λ r2 w2 s2=>?_;refine⟨_,s2.ag 1 rfl 0,aj (xV w2 e.kind) ?_⟩;rintro v w3 ⟨rfl,rfl⟩;refine⟨_,rfl,_,s2.ag 1 rfl 0,s2.ax z.cells.toArray λ r3 w4 s3=>?_⟩;refine s3.aA 0 rfl ({ z with kind:=e.kind }:Ev).cells rfl (Ev.one _) λ w5 s5=>?_;obtain⟨g1,g2,g3,g4,g5⟩:=xW e.kind;rw[g1,g2,g3,g4,g5];let P:Ev->World->Prop:=λ x w'=>St w w' (Sep [ai r3 x.cells.toArray 43,ai r2 z.cells.toArray 43,ai r1 e.cells.toArray 43,emp]);let b1:Ev:={ z with kind:=e.kind,bidder:=if fB e.kind then e.bidder else 0 };let b2:Ev:={ b1 with want:=if fW e.kind then e.want else z6 };let b3:Ev:={ b2 with text:=if fT e.kind then e.text else [] };let b4:Ev:={ b3 with round:=if fR e.kind then e.round else 0 };refine⟨P b1,?_,?_⟩
  rotate_left
  · cases h:fB e.kind with
    | true =>
      refine cT rfl ⟨_,s5.ag 2 rfl 1,s5.aH 0 rfl (by show 1<11; decide) rfl λ w6 s6=>?_⟩;show P b1 w6;have:b1={ z with kind:=e.kind,bidder:=e.bidder }:=by simp[b1,h]
      rw[this]; exact s6
    | false =>
      refine cF rfl ?_;have:b1={ z with kind:=e.kind }:=by simp[b1,h,z]
      show P b1 w5;rw[this]; exact s5
  rintro w6 s6 -;refine⟨P b2,?_,?_⟩
  rotate_left
  · cases h:fW e.kind with
    | true =>
      refine cT rfl ⟨e.want,?_,?_⟩
      · exact bE _ 0 λ j v hj=>by
          have hj6:=(List.getElem?_eq_some_iff.1 hj).1;have h6:j<6:=hj6;rw[bG,Nat.zero_add,s6.ag 2 rfl]
          match j,h6,hj with
          | 0,_,hj | 1,_,hj | 2,_,hj | 3,_,hj | 4,_,hj | 5,_,hj=>simpa[Ev.cells,I6.on,I6.vs] using hj
      · have a3:∀ {w' : World} {R:World->Prop} {x:Ev},P x w'->(∀ w'',P { x with want:=e.want } w''->R w'')->aQ ⟨r3,3,none⟩ 0 e.want.vs w' R:=λ {w' R x} hp k=>by
          refine St.aH hp 0 rfl (by show 3<11; decide) rfl λ w1 t1=>t1.aH 0 rfl (by show 4<11; decide) rfl λ w2 t2=>t2.aH 0 rfl (by show 5<11; decide) rfl λ w3 t3=>t3.aH 0 rfl (by show 6<11; decide) rfl λ w4 t4=>t4.aH 0 rfl (by show 7<11; decide) rfl λ w5 t5=>t5.aH 0 rfl (by show 8<11; decide) rfl λ w6 t6=>k w6 t6
        refine a3 s6 λ w7 s7=>?_;have:b2={ b1 with want:=e.want }:=by simp[b2,h]
        show P b2 w7;rw[this]; exact s7
    | false =>
      refine cF rfl ?_;have:b2=b1:=by simp[b2,h,b1,z]
      show P b2 w6;rw[this]; exact s6
  rintro w7 s7 -;refine⟨P b3,?_,?_⟩
  rotate_left
  · cases h:fT e.kind with
    | true =>
      refine cT rfl ⟨_,St.ag s7 2 rfl 9,St.aH s7 0 rfl (by show 9<11; decide) rfl λ w6 s6=>?_⟩;have:b3={ b2 with text:=e.text }:=by simp[b3,h]
      show P b3 w6;rw[this]; exact s6
    | false =>
      refine cF rfl ?_;have:b3=b2:=by simp[b3,h,b2,b1,z]
      show P b3 w7;rw[this]; exact s7
  rintro w8 s8 -;refine⟨P b4,?_,?_⟩
  rotate_left
  · cases h:fR e.kind with
    | true =>
      refine cT rfl ⟨_,St.ag s8 2 rfl 2,St.aH s8 0 rfl (by show 2<11; decide) rfl λ w6 s6=>?_⟩;have:b4={ b3 with round:=e.round }:=by simp[b4,h]
      show P b4 w6;rw[this]; exact s6
    | false =>
      refine cF rfl ?_;have:b4=b3:=by simp[b4,h,b3,b2,b1,z]
      show P b4 w8;rw[this]; exact s8
  rintro w9 s9 -;refine⟨P (cA e),?_,?_⟩
  rotate_left
  · cases h:fD e.kind with
    | true =>
      refine cT rfl ⟨_,St.ag s9 2 rfl 10,St.aH s9 0 rfl (by show 10<11; decide) rfl λ w6 s6=>?_⟩;have:cA e={ b4 with digest:=e.digest }:=by simp[cA,h,b4,b3,b2,b1]
      show P (cA e) w6;rw[this]; exact s6
    | false =>
      refine cF rfl ?_;have:cA e=b4:=by simp[cA,h,b4,b3,b2,b1,z]
      show P (cA e) w9;rw[this]; exact s9
  rintro w10 s10 -;refine⟨_,_,_,(cA e).want,_,_,St.cellsIn s10 0 rfl,St.aA s10 1 rfl (cA e).cells rfl (Ev.one _) λ w11 s11=>?_⟩;exact⟨_,_,_,(cA e).want,_,_,s11.cellsIn 1 rfl,rfl,s11.av⟩
def names:List (List UInt8):=[[],[115,97,108,101],[100,101,109,97,110,100],[114,111,117,110,100],[115,116,111,112],[98,105,100],[119,105,116,104,100,114,97,119],[100,105,115,113,117,97,108,105,102,121],[114,101,114,117,110],[99,108,111,115,101],[100,101,99,105,100,101]]
def vj(k:Int):List UInt8:=if 1<=k/\k<=10 then names.getD k.toNat [] else []
theorem uj(k:Int):vj k=[]<->¬ (1<=k/\k<=10):=by
  unfold vj
  by_cases h:1<=k/\k<=10
  · rw[if_pos h];refine⟨λ e=>?_,λ e=>absurd h e⟩;obtain⟨j,rfl⟩:∃ j:Nat,k=j:=⟨k.toNat,by omega⟩;rw[Int.toNat_natCast] at e;have:1<=j/\j<=10:=by omega
    match j,this with
    | 1,_ | 2,_ | 3,_ | 4,_ | 5,_ | 6,_ | 7,_ | 8,_ | 9,_ | 10,_=>simp[names] at e
  · rw[if_neg h]; simp[h]
theorem Qy(w:World)(k:Int):CP 84 #[iv k] w (λ r w'=>r=sv (vj k)/\az w w' []):=by
  refine zz ?_;unfold xO;refine(St.start w).one.ax (List.replicate 11 (sv [])).toArray λ r1 w1 s1=>?_;refine s1.aA 0 rfl (names.map sv) rfl (by intro v hv; obtain⟨x,_,rfl⟩:=List.mem_map.1 hv; rfl) λ w2 s2=>?_;refine⟨λ b w3=>w3=w2/\b=decide (¬ (1<=k/\k<=10)),?_,?_⟩
  · rintro w3 b ⟨rfl,rfl⟩ -
    by_cases h:1<=k/\k<=10
    · have hj:k.toNat<11:=by omega
      have e:vj k=names.getD k.toNat []:=by simp[vj,h]
      refine cF (by simp; omega) ⟨by omega,by omega,bs (vj k),?_,rfl,s2.av⟩;rw[bG,Nat.zero_add,Nat.mul_one,s2.ag 0 rfl,e];generalize k.toNat=j at hj
      match j,hj with
      | 0,_ | 1,_ | 2,_ | 3,_ | 4,_ | 5,_ | 6,_ | 7,_ | 8,_ | 9,_ | 10,_=>rfl
    · exact cT (dT h) ⟨by rw[(uj k).2 h],s2.av⟩
  · by_cases h:k<1
    · exact cT (dT h) ⟨rfl,by simp; omega⟩
    · exact cF (dF h) ⟨rfl,decide_eq_decide.2 (by omega)⟩
def nB(n:Int):List UInt8:=hU n.toNat
def aX(e:Ev):List UInt8 :=
  nB e.kind++(if fB e.kind then nB e.bidder else [])++(if fR e.kind then nB e.round else [])++(if fW e.kind then e.want.l.flatMap nB else [])++(if fT e.kind then cN e.text else [])++(if fD e.kind then nB e.digest else [])
structure Ev.Rx (e:Ev):Prop where
  k:0<=e.kind/\e.kind<=10
  b:0<=e.bidder/\e.bidder<8
  r:0<=e.round/\e.round<30
  w:I6.Le e.want 4
  t:e.text.length<=4000
  d:0<=e.digest/\e.digest<18446744073709551616
theorem B0(n:Int):(nB n).length<=10:=iw _
theorem GB(l:List Int):(l.flatMap nB).length<=10*l.length:=by
  induction l with
  | nil=>simp
  | cons x l ih=>have:=B0 x; simp only[List.flatMap_cons,List.length_append,List.length_cons]; omega
theorem Gp(w:World){e:Ev}(h:e.Rx):CP 64 #[e.v] w (λ r w'=>r=sv (aX e)/\az w w' []):=by
  refine xQ ?_;unfold uZ;have hk:=h.k; have hb:=h.b; have hr:=h.r; have ht:=h.t; have hd:=h.d;have hm:IntKind.i64.max=9223372036854775807:=rfl;refine(St.start w).one.ax e.cells.toArray λ r1 w1 s1=>?_;refine⟨_,s1.ag 0 rfl 0,aj (xV w1 e.kind) ?_⟩;rintro v w2 ⟨rfl,rfl⟩;refine⟨_,rfl,_,s1.ag 0 rfl 0,aj (tA w2 e.kind (by omega)) ?_⟩;rintro v w3 ⟨rfl,c3⟩;obtain⟨g1,g2,g3,g4,g5⟩:=xW e.kind;rw[g1,g2,g3,g4,g5];have s3:=s1.quiet c3;have l0:=B0 e.kind;let J:Nat->List UInt8->ByteArray->World->Prop:=λ n l s w'=>s=bs l/\l.length<=n/\St w w' (Sep [ai r1 e.cells.toArray 43,emp]);refine⟨_,rfl,J 20 (nB e.kind++(if fB e.kind then nB e.bidder else [])),?_,?_⟩
  rotate_left
  · cases hf:fB e.kind with
    | true =>
      refine cT rfl ⟨_,s3.ag 0 rfl 1,aj (tA w3 e.bidder (by omega)) ?_⟩;rintro v w4 ⟨rfl,c4⟩;have:=B0 e.bidder;exact⟨_,rfl,by rw[fm,fm,hm]; unfold nB at *; omega,lA _ _,by simp only[List.length_append,if_true]; omega,s3.quiet c4⟩
    | false=>exact cF rfl ⟨by simp; rfl,by simp; omega,s3⟩
  rintro w4 s ⟨rfl,l1,s4⟩ -;refine⟨J 30 (nB e.kind++(if fB e.kind then nB e.bidder else [])++(if fR e.kind then nB e.round else [])),?_,?_⟩
  rotate_left
  · generalize nB e.kind++(if fB e.kind then nB e.bidder else [])=l at *
    cases hf:fR e.kind with
    | true =>
      refine cT rfl ⟨_,s4.ag 0 rfl 2,aj (tA w4 e.round (by omega)) ?_⟩;rintro v w5 ⟨rfl,c5⟩;have:=B0 e.round;exact⟨_,rfl,by rw[fm,fm,hm]; unfold nB at *; omega,lA _ _,by simp only[List.length_append,if_true]; omega,s4.quiet c5⟩
    | false=>exact cF rfl ⟨by simp,by simp; omega,s4⟩
  clear l1 s4 l0 s3;rintro w5 s ⟨rfl,l1,s5⟩ -;refine⟨J 90 (nB e.kind++(if fB e.kind then nB e.bidder else [])++(if fR e.kind then nB e.round else [])++(if fW e.kind then e.want.l.flatMap nB else [])),?_,?_⟩
  rotate_left
  · generalize nB e.kind++(if fB e.kind then nB e.bidder else [])++(if fR e.kind then nB e.round else [])=l at *
    cases hf:fW e.kind with
    | true =>
      refine cT rfl ⟨e.want,?_,λ s n w6 m=>∃ k:Nat,n=k/\k<=6/\m=6-k/\s=bs (l++(e.want.l.take k).flatMap nB)/\St w w6 (Sep [ai r1 e.cells.toArray 43,emp]),⟨6,0,rfl,by omega,by omega,by simp,s5⟩,?_⟩
      · exact bE _ 0 λ j v hj=>by
          have h6:j<6:=(List.getElem?_eq_some_iff.1 hj).1;rw[bG,Nat.zero_add,s5.ag 0 rfl]
          match j,h6,hj with
          | 0,_,hj | 1,_,hj | 2,_,hj | 3,_,hj | 4,_,hj | 5,_,hj=>simpa[Ev.cells,I6.on,I6.vs] using hj
      rintro w6 m s n ⟨k,rfl,hk6,hm6,rfl,s6⟩ -
      by_cases hlt:(k:Int)<6
      · have hk' : k<6:=by omega
        have hw:=h.w k hk';refine cT (dT hlt) ⟨by omega,by omega,_,e.want.get k hk',aj (tA w6 _ (by omega)) ?_⟩;rintro v w7 ⟨rfl,c7⟩;have q1:=GB (e.want.l.take k);have q2:(e.want.l.take k).length<=6:=by simp[I6.len]; omega
        have q3:=iw (e.want.at' k).toNat;refine⟨_,rfl,by rw[fm,fm,List.length_append,hm]; omega,6-(k+1),by omega,k+1,inc (by decide) hk',by omega,rfl,?_,s6.quiet c7⟩;rw[lA,aL (e.want.vY k hk'),List.flatMap_append,<- List.append_assoc]; simp[nB]
      · obtain rfl:k=6:=by omega
        have q1:=GB e.want.l;have q2:e.want.l.length=6:=rfl;refine cF (by simp) ⟨rfl,?_,s6⟩;simp only[List.length_append,if_true]; omega
    | false=>exact cF rfl ⟨by simp,by simp; omega,s5⟩
  clear l1 s5;rintro w6 s ⟨rfl,l1,s6⟩ -;refine⟨J 4100 (nB e.kind++(if fB e.kind then nB e.bidder else [])++(if fR e.kind then nB e.round else [])++(if fW e.kind then e.want.l.flatMap nB else [])++(if fT e.kind then cN e.text else [])),?_,?_⟩
  rotate_left
  · generalize nB e.kind++(if fB e.kind then nB e.bidder else [])++(if fR e.kind then nB e.round else [])++(if fW e.kind then e.want.l.flatMap nB else [])=l at *
    cases hf:fT e.kind with
    | true =>
      refine cT rfl ⟨_,s6.ag 0 rfl 9,aj (L1 w6 e.text (by omega)) ?_⟩;rintro v w7 ⟨rfl,c7⟩;have q:=iw e.text.length;have q2:(cN e.text).length<=4010:=by unfold cN; rw[List.length_append]; omega
      exact⟨_,rfl,by rw[fm,fm,hm]; omega,lA _ _,by simp only[List.length_append,if_true]; omega,s6.quiet c7⟩
    | false=>exact cF rfl ⟨by simp,by simp; omega,s6⟩
  clear l1 s6;rintro w7 s ⟨rfl,l1,s7⟩ -;refine⟨λ s w'=>s=bs (aX e)/\az w w' [],?_,?_⟩
  · rintro w8 s ⟨rfl,c8⟩ -;exact⟨rfl,c8⟩
  · unfold aX;generalize nB e.kind++(if fB e.kind then nB e.bidder else [])++(if fR e.kind then nB e.round else [])++(if fW e.kind then e.want.l.flatMap nB else [])++(if fT e.kind then cN e.text else [])=l at *
    cases hf:fD e.kind with
    | true =>
      have e1:e.digest=((e.digest.toNat:Nat):Int):=by omega
      refine cT rfl ⟨_,s7.ag 0 rfl 10,?_⟩;rw[e1];refine aj (L8 w7 e.digest.toNat (by omega)) ?_;rintro v w8 ⟨rfl,c8⟩;have:=iw e.digest.toNat;exact⟨_,rfl,by rw[fm,fm,hm]; omega,lA _ _,(s7.quiet c8).av⟩
    | false=>exact cF rfl ⟨by simp,s7.av⟩
theorem Ev.ext'{a b:Ev}(h1:a.kind=b.kind)(h2:a.bidder=b.bidder)(h3:a.round=b.round)(h4:a.want=b.want)(h5:a.text=b.text)(h6:a.digest=b.digest):a=b:=by
  cases a; cases b; simp_all
instance:DecidableEq Ev:=λ a b =>
  if h:a.kind=b.kind/\a.bidder=b.bidder/\a.round=b.round/\a.want=b.want/\a.text=b.text/\a.digest=b.digest then .isTrue (Ev.ext' h.1 h.2.1 h.2.2.1 h.2.2.2.1 h.2.2.2.2.1 h.2.2.2.2.2)
  else .isFalse λ e=>h (by subst e; exact⟨rfl,rfl,rfl,rfl,rfl,rfl⟩)
def bP(e:Ev):Int :=
  if ¬ (1<=e.kind/\e.kind<=10)\/e≠cA e then 2
  else if e.bidder<0\/8<=e.bidder\/e.round<0\/30<=e.round\/e.want.l.all lR=false then 4
  else if 4000<e.text.length\/4000<(aX e).length then 3 else 0
theorem o6{e:Ev}(h:bP e=0)(hd:0<=e.digest/\e.digest<18446744073709551616):e.Rx:=by
  unfold bP at h
  split at h
  · cases h
  · rename_i h1
    split at h
    · cases h
    · rename_i h2
      split at h
      · cases h
      · rename_i h3;have hw:e.want.l.all lR=true:=by
          cases hq:e.want.l.all lR with
          | true=>rfl
          | false=>exact absurd (.inr (.inr (.inr (.inr hq)))) h2
        exact⟨by omega,by omega,by omega,Jl hw,by omega,hd⟩
theorem PO(a b:List UInt8):(bs a==bs b)=(a==b):=by
  show((bs a).data==(bs b).data)=_;simp[bs]
theorem Ag(w:World){e:Ev}(hi:e.In):CP 48 #[e.v] w (λ r w'=>r=iv (bP e)/\az w w' []):=by
  refine xN ?_;unfold uY;refine(St.start w).one.ax e.cells.toArray λ r1 w1 s1=>?_;let Q1:Prop:=¬ (1<=e.kind/\e.kind<=10)\/e≠cA e;let Q2:Prop:=e.bidder<0\/8<=e.bidder\/e.round<0\/30<=e.round\/e.want.l.all lR=false;let Q3:Prop:=4000<e.text.length\/4000<(aX e).length;refine⟨λ b w2=>(b=true<->Q1)/\az w1 w2 [],?_,?_⟩
  · rintro w2 b ⟨hb,c2⟩ -;have s2:=s1.quiet c2
    cases b with
    | true=>exact cT rfl ⟨by unfold bP; rw[if_pos (hb.1 rfl)],s2.av⟩
    | false =>
      have n1 : ¬ Q1:=λ h=>by have:=hb.2 h; cases this
      refine cF rfl ⟨λ b w3=>(b=true<->Q2)/\az w1 w3 [],?_,?_⟩
      · rintro w3 b ⟨hb,c3⟩ -;have s3:=s1.quiet c3
        cases b with
        | true=>exact cT rfl ⟨by unfold bP; rw[if_neg n1,if_pos (hb.1 rfl)],s3.av⟩
        | false =>
          have n2 : ¬ Q2:=λ h=>by have:=hb.2 h; cases this
          refine cF rfl ⟨λ b w4=>(b=true<->Q3)/\az w1 w4 [],?_,_,s3.ag 0 rfl 9,?_⟩
          · rintro w4 b ⟨hb,c4⟩ -;have s4:=s1.quiet c4
            cases b with
            | true=>exact cT rfl ⟨by unfold bP; rw[if_neg n1,if_neg n2,if_pos (hb.1 rfl)],s4.av⟩
            | false =>
              have n3 : ¬ Q3:=λ h=>by have:=hb.2 h; cases this
              exact cF rfl ⟨by unfold bP; rw[if_neg n1,if_neg n2,if_neg n3],s4.av⟩
          · rw[fm]
            by_cases ht:4000<e.text.length
            · exact cT (dT (by omega)) ⟨⟨λ _=>.inl ht,λ _=>rfl⟩,c3⟩
            · have hw:e.want.l.all lR=true:=by
                cases hq:e.want.l.all lR with
                | true=>rfl
                | false=>exact absurd (.inr (.inr (.inr (.inr hq)))) n2
              have hr:e.Rx:=⟨by omega,by omega,by omega,Jl hw,by omega,hi.d⟩;refine cF (dF (by omega)) ⟨_,_,_,e.want,_,_,s3.cellsIn 0 rfl,aj (Gp w3 hr) ?_⟩;rintro v w5 ⟨rfl,c5⟩;refine⟨_,rfl,?_,c3.trans c5 (by simp)⟩;rw[fm,decide_eq_true_eq];exact⟨λ h=>.inr (by omega),λ h=>by rcases h with h | h<;>omega⟩
      · refine⟨_,s2.ag 0 rfl 1,?_⟩
        by_cases g1:e.bidder<0
        · exact cT (dT g1) ⟨⟨λ _=>.inl g1,λ _=>rfl⟩,c2⟩
        refine cF (dF g1) ⟨_,s2.ag 0 rfl 1,?_⟩
        by_cases g2:e.bidder>=8
        · exact cT (dT g2) ⟨⟨λ _=>.inr (.inl g2),λ _=>rfl⟩,c2⟩
        refine cF (dF g2) ⟨_,s2.ag 0 rfl 2,?_⟩
        by_cases g3:e.round<0
        · exact cT (dT g3) ⟨⟨λ _=>.inr (.inr (.inl g3)),λ _=>rfl⟩,c2⟩
        refine cF (dF g3) ⟨_,s2.ag 0 rfl 2,?_⟩
        by_cases g4:e.round>=30
        · exact cT (dT g4) ⟨⟨λ _=>.inr (.inr (.inr (.inl g4))),λ _=>rfl⟩,c2⟩
        refine cF (dF g4) ⟨e.want,?_,aj (cJ w2 e.want) ?_⟩
        · exact bE _ 0 λ j v hj=>by
            have h6:j<6:=(List.getElem?_eq_some_iff.1 hj).1;rw[bG,Nat.zero_add,s2.ag 0 rfl]
            match j,h6,hj with
            | 0,_,hj | 1,_,hj | 2,_,hj | 3,_,hj | 4,_,hj | 5,_,hj=>simpa[Ev.cells,I6.on,I6.vs] using hj
        · rintro v w6 ⟨rfl,c6⟩;refine⟨_,rfl,?_,c2.trans c6 (by simp)⟩
          cases hq:e.want.l.all lR with
          | true=>exact⟨λ h=>by simp at h,λ h=>by rcases h with h | h | h | h | h<;>first | omega | (rw[hq] at h; cases h)⟩
          | false=>exact⟨λ _=>.inr (.inr (.inr (.inr hq))),λ _=>by simp⟩
  · have s1':=s1.quiet (az.drew w1 []);refine⟨_,s1'.ag 0 rfl 0,aj (Qy _ e.kind) ?_⟩;rintro v w7 ⟨rfl,c7⟩;have s7:=s1'.quiet c7;have c17:az w1 w7 []:=(az.drew w1 []).trans c7 (by simp);refine⟨_,rfl,?_⟩
    by_cases hk:1<=e.kind/\e.kind<=10
    · have hne:vj e.kind≠[]:=λ h=>(uj _).1 h hk;refine cF (by rw[ia,ia]; simpa using hne) ⟨_,_,_,e.want,_,_,s7.cellsIn 0 rfl,_,_,_,e.want,_,_,s7.cellsIn 0 rfl,aj (PI w7 e) ?_⟩;rintro v w8 ⟨rfl,c8⟩;refine⟨_,_,_,(cA e).want,_,_,rfl,(s7.quiet c8).cellsIn 0 rfl,?_,c17.trans c8 (by simp)⟩;simp only[I6.beq_eq,PO,Bool.and_true,Bool.not_eq_true',Bool.and_eq_false_iff,beq_eq_false_iff_ne,ne_eq,decide_eq_false_iff_not];constructor
      · intro h;refine .inr λ he=>?_;rcases h with h | h | h | h | h | h<;>apply h<;>rw[<- he]
      · intro h;rcases h with h | h
        · exact absurd hk h
        · by_cases q1:e.kind=(cA e).kind
          · by_cases q2:e.bidder=(cA e).bidder
            · by_cases q3:e.round=(cA e).round
              · by_cases q4:e.want=(cA e).want
                · by_cases q5:e.text=(cA e).text
                  · by_cases q6:e.digest=(cA e).digest
                    · exact absurd (Ev.ext' q1 q2 q3 q4 q5 q6) h
                    · exact .inr (.inr (.inr (.inr (.inr q6))))
                  · exact .inr (.inr (.inr (.inr (.inl q5))))
                · exact .inr (.inr (.inr (.inl q4)))
              · exact .inr (.inr (.inl q3))
            · exact .inr (.inl q2)
          · exact .inl q1
    · have hne:vj e.kind=[]:=(uj _).2 hk;exact cT (by rw[ia,ia,hne]; rfl) ⟨⟨λ _=>.inl hk,λ _=>rfl⟩,c17⟩
theorem Db(w:World){e:Ev}(hi:e.In):CP 22 #[e.v] w (λ r w'=>r=.tuple #[sv (if bP e=0 then aX e else []),iv (bP e)]/\az w w' []):=by
  refine vM ?_;unfold rR;refine(St.start w).one.ax e.cells.toArray λ r1 w1 s1=>?_;refine⟨_,_,_,e.want,_,_,s1.cellsIn 0 rfl,aj (Ag w1 hi) ?_⟩;rintro v w2 ⟨rfl,c2⟩;refine⟨_,rfl,?_⟩;have s2:=s1.quiet c2
  by_cases h0:bP e=0
  · refine cF (by simpa using h0) ⟨_,_,_,e.want,_,_,s2.cellsIn 0 rfl,aj (Gp w2 (o6 h0 hi.d)) ?_⟩;rintro v w3 ⟨rfl,c3⟩;exact⟨_,rfl,by rw[if_pos h0,h0],(s2.quiet c3).av⟩
  · exact cT (by simpa using h0) ⟨by rw[if_neg h0],s2.av⟩
end Go.Proofs.YtpihmghnbplohaaGreatDoor
