import Derived.Test.YtpihmghnbplohaaGreatDoorQ11
set_option linter.unusedVariables false
set_option maxRecDepth 100000
namespace Go.Proofs.YtpihmghnbplohaaGreatDoor
open Go Go.Vc Tryz
def ZE(a:ByteArray)(w:World)(K:KP):=au w (.cells #[.string a,qz] 166) λ a b=>K (qp a) b
theorem Ks{s1 w K}(h:ZE s1 w K):CP 36 #[.string s1] w K:=an (aF []) func36 (by kernel_rfl) (by kernel_rfl) h
def IS(a:Nat)(b:Int)(w:World)(K:KP):=CC 78 #[qp a] w λ c d=>∃ e,c=.returned (.bool e)/\cond (!e) (K (.int .u64 0) d) (∃ c:Int->Int->qN,(∃ e,c 0 (0:Int) d e)/\∀ d e f g,c f g d e->∀ h:qv,∃ h,d.cell? (qd a 0)=some (.string h)/\cond (g==((h.size:Nat):Int)) (CC 38 #[qp a,iv 1] d λ h i=>h=.returned (.tuple #[])/\K (.int .u64 0) i) (∃ h,d.cell? (qd a 0)=some (.string h)/\0<=g/\av h[(g).toNat]? λ h=>∃ i:Bool->qW,(∀ j k,i k j->∀ l:qv,cond k (CC 38 #[qp a,iv 2] j λ k l=>k=.returned (.tuple #[])/\K (.int .u64 0) l) (0<=(IntKind.u64.wrap ((7:Int)*(IntKind.u64.wrap g)))/\cond (decide ((h.toNat:Int)>=(128:Int))) (∃ k,k<e/\c (TV .u64 f (IntKind.u64.wrap ((IntKind.u64.wrap (iu .u8 (h.toNat:Int) (127:Int)))*2 ^ (min ((IntKind.u64.wrap ((7:Int)*(IntKind.u64.wrap g)))).toNat IntKind.u64.bits)))) (IntKind.i64.wrap (g+1)) j k) (∃ c:Bool->qW,(∀ e k,c k e->∀ l:qv,cond k (CC 38 #[qp a,iv 2] e λ k l=>k=.returned (.tuple #[])/\K (.int .u64 0) l) (cond (decide ((TV .u64 f (IntKind.u64.wrap ((IntKind.u64.wrap (iu .u8 (h.toNat:Int) (127:Int)))*2 ^ (min ((IntKind.u64.wrap ((7:Int)*(IntKind.u64.wrap g)))).toNat IntKind.u64.bits))))>b)) (CC 38 #[qp a,iv 4] e λ b k=>b=.returned (.tuple #[])/\K (.int .u64 0) k) (∃ b,e.cell? (qd a 0)=some (.string b)/\0<=(IntKind.i64.wrap (g+1))/\(IntKind.i64.wrap (g+1))<=((b.size:Nat):Int)/\aS e (qd a 0) (.string (b.extract (((IntKind.i64.wrap (g+1))).toNat) b.size)) λ a=>K (.int .u64 (TV .u64 f (IntKind.u64.wrap ((IntKind.u64.wrap (iu .u8 (h.toNat:Int) (127:Int)))*2 ^ (min ((IntKind.u64.wrap ((7:Int)*(IntKind.u64.wrap g)))).toNat IntKind.u64.bits))))) a)))/\cond ((h.toNat:Int)==(0:Int)) (c (decide (g>0)) j) (c false j))))/\cond (g==9) (i (decide ((h.toNat:Int)>(1:Int))) d) (i false d)))
theorem CV{b1 n1 w K}(h:IS b1 n1 w K):CP 37 #[.pointer (some ⟨b1,0,none⟩),.int .u64 n1] w K:=an (aF [(62,[(5,.s (.int .u64)),(6,.s (.int .i64))]),(3974,[(33,.s .bool)]),(31806,[(52,.s .bool)])]) func37 (by kernel_rfl) (by kernel_rfl) h
def IQ(a:Nat)(b:Int)(w:World)(K:KP):=CC 78 #[qp a] w λ c d=>∃ e,c=.returned (.bool e)/\cond (!e) (K (.string (bs [])) d) (∃ c:Int->qW,(∀ e f,c f e->∀ g:qv,CC 37 #[qp a,.int .u64 f] e λ e f=>∃ g,e=.returned (.int .u64 g)/\∃ e:qW,(∀ h,e h->∀ i:qv,∃ i:qW,(∀ j,i j->∀ k:qv,∃ k,j.cell? (qd a 1)=some (iv k)/\cond (k !=0) (K (.string (bs [])) j) (∃ k,j.cell? (qd a 0)=some (.string k)/\0<=g/\g<=((k.size:Nat):Int)/\∃ l,j.cell? (qd a 0)=some (.string l)/\0<=g/\g<=((l.size:Nat):Int)/\aS j (qd a 0) (.string (l.extract ((g).toNat) l.size)) λ j=>K (.string (k.extract 0 ((g).toNat))) j))/\∃ j:Bool->qW,(∀ k l,j l k->∀ m:qv,cond l (CC 38 #[qp a,iv 1] k λ l m=>l=.returned (.tuple #[])/\i m) (i k))/\∃ i,h.cell? (qd a 1)=some (iv i)/\cond (i==0) (∃ i,h.cell? (qd a 0)=some (.string i)/\j (decide (g>(IntKind.u64.wrap ((i.size:Nat):Int)))) h) (j false h))/\∃ g:Bool->qW,(∀ h i,g i h->∀ j:qv,cond i (CC 38 #[qp a,iv 4] h λ i j=>i=.returned (.tuple #[])/\e j) (e h))/\∃ e,f.cell? (qd a 1)=some (iv e)/\cond (e==0) (g (decide (b<0)) f) (g false f))/\cond (decide (b>0)) (c (IntKind.u64.wrap b) d) (c 0 d))
theorem CU{b1 n1 w K}(h:IQ b1 n1 w K):CP 40 #[.pointer (some ⟨b1,0,none⟩),iv n1] w K:=an (aF [(15,[(5,.s (.int .u64))]),(63,[]),(127,[]),(254,[(43,.s .bool)]),(126,[(26,.s .bool)])]) func40 (by kernel_rfl) (by kernel_rfl) h
def ZD(a:Nat)(w:World)(K:KP):=∃ b,w.cell? (qd a 1)=some (iv b)/\K (iv b) w
theorem S4{b1 w K}(h:ZD b1 w K):CP 79 #[.pointer (some ⟨b1,0,none⟩)] w K:=an (aF []) func79 (by kernel_rfl) (by kernel_rfl) h
def Uc(a:Nat)(w:World)(K:KP):=CC 78 #[qp a] w λ b c=>∃ d,b=.returned (.bool d)/\cond (!d) (K qz c) (∃ b,c.cell? (qd a 0)=some (.string b)/\K (iv ((b.size:Nat):Int)) c)
theorem PI{b1 w K}(h:Uc b1 w K):CP 107 #[.pointer (some ⟨b1,0,none⟩)] w K:=an (aF []) func107 (by kernel_rfl) (by kernel_rfl) h
def ZV(a:Nat)(w:World)(K:KP):=∃ b,w.cell? (qd a 1)=some (iv b)/\K (.bool (b==0)) w
theorem Wy{b1 w K}(h:ZV b1 w K):CP 78 #[.pointer (some ⟨b1,0,none⟩)] w K:=an (aF []) func78 (by kernel_rfl) (by kernel_rfl) h
def PG(a:Nat)(b:Int)(w:World)(K:KP):=∃ c:Bool->qW,(∀ d e,c e d->∀ f:qv,cond e (aS d (qd a 1) (iv b) λ b=>K (.tuple #[]) b) (K (.tuple #[]) d))/\∃ b,w.cell? (qd a 1)=some (iv b)/\c (b==0) w
theorem GZ{b1 n1 w K}(h:PG b1 n1 w K):CP 38 #[.pointer (some ⟨b1,0,none⟩),iv n1] w K:=an (aF [(1,[(12,.s .bool)])]) func38 (by kernel_rfl) (by kernel_rfl) h
def X8(a:Nat)(w:World)(K:KP):=∃ b:qW,(∀ c,b c->∀ d:qv,CC 79 #[qp a] c λ c d=>∃ e,c=.returned (iv e)/\K (iv e) d)/\∃ c:Bool->qW,(∀ d e,c e d->∀ f:qv,cond e (CC 38 #[qp a,iv 3] d λ e f=>e=.returned (.tuple #[])/\b f) (b d))/\CC 78 #[qp a] w λ b d=>∃ e,b=.returned (.bool e)/\cond e (∃ b,d.cell? (qd a 0)=some (.string b)/\c (!(b.toList==(bs []).toList)) d) (c false d)
theorem S0{b1 w K}(h:X8 b1 w K):CP 41 #[.pointer (some ⟨b1,0,none⟩)] w K:=an (aF [(3,[]),(6,[(11,.s .bool)])]) func41 (by kernel_rfl) (by kernel_rfl) h
def NK(a:ByteArray)(b:Int)(w:World)(K:KP):=bn prog (Instr.makeSlice 125 (iv 8) (iv 8)) w λ c d=>∃ e f g,c=(.slice e f g)/\∃ c:Int->qN,(∃ h,c 0 d h)/\∀ d h i,c i d h->∀ j:qv,cond (decide (i<(f:Int))) (0<=(IntKind.i64.wrap ((8:Int)*i))/\av e λ j=>0<=i/\i<(f:Int)/\aS d (Addr.add j ((i).toNat*1)) (.int .u8 (IntKind.u8.wrap (Int.fdiv b (2 ^ (min ((IntKind.i64.wrap ((8:Int)*i))).toNat IntKind.u64.bits))))) λ b=>∃ j,j<h/\c (IntKind.i64.wrap (i+1)) b j) ((CC 112 #[.string a] d.drew λ b c=>∃ h,b=.returned (.string h)/\bn prog (convert 125 9 (.slice e f g)) c λ b c=>∃ i,b=(.string i)/\((h.size+i.size:Nat):Int)<=IntKind.i64.max/\K (.string (h++i)) c)/\bn prog (convert 125 9 (.slice e f g)) d.drew λ b c=>∃ d,b=(.string d)/\CC 112 #[.string a] c λ a b=>∃ c,a=.returned (.string c)/\((c.size+d.size:Nat):Int)<=IntKind.i64.max/\K (.string (c++d)) b)
theorem K8{s1 n1 w K}(h:NK s1 n1 w K):CP 69 #[.string s1,.int .u64 n1] w K:=an (aF [(58,[(10,.s (.int .i64))])]) func69 (by kernel_rfl) (by kernel_rfl) h
def BF(f:FuncId)(args:Array Value)(r:Value):Prop:=∀ w,Calls prog f args w (xK λ v w'=>v=r/\aD w w' [])
def Pf(l:List UInt8):Value:=.string ⟨l.toArray⟩
theorem cS(l:List UInt8):(bs l).size=l.length:=rfl
theorem nJ{f:FuncId}{args:Array Value}{r:Value}(h:BF f args r){w:World}{R:Ending->World->Prop}(k:∀ w',aD w w' []->R (.returned r) w'):Calls prog f args w R :=
 aq (h w) (by rintro _ w' ⟨rfl,hc⟩; exact k w' hc)
theorem wK(s:ByteArray):s.size=s.data.toList.length:=by cases s; rfl
theorem FL(x:Nat)(s:ByteArray)(hs:s.size<=4611686018427387904):BF 13 #[.int .u64 (x:Int),.string s] (.int .u64 (aI x s.data.toList:Nat)):=λ w=>Je w x s.data.toList (by rw[<- wK]; exact hs)
theorem Ku(s:ByteArray)(hs:s.size<=4611686018427387904):BF 112 #[.string s] (Pf (dM s.data.toList)):=λ w=>Pu w s.data.toList (by rw[<- wK]; exact hs)
def aT(l:List UInt8)(head:Nat):List UInt8:=dM l++uB 8 head
theorem CO(l:List UInt8):(dM l).length<=10+l.length:=by
 have:=jx l.length;unfold dM;rw[List.length_append]; omega
theorem Js(s:ByteArray)(hs:s.size<=4611686018427387904)(h:Nat):BF 69 #[.string s,.int .u64 (h:Int)] (Pf (aT s.data.toList h)):=λ w=>by
 refine K8 ?_;unfold NK;have hm:IntKind.i64.max=9223372036854775807:=rfl;have hz:(⟨(dM s.data.toList).toArray⟩:ByteArray).size+(⟨(uB 8 h).toArray⟩:ByteArray).size<=9223372036854775807:=by
  have h1:(⟨(dM s.data.toList).toArray⟩:ByteArray).size=(dM s.data.toList).length:=rfl;have h2:(⟨(uB 8 h).toArray⟩:ByteArray).size=8:=aN 8 h;have:=CO s.data.toList;have:=wK s;omega
 have hv:Value.string ((⟨(dM s.data.toList).toArray⟩:ByteArray)++⟨(uB 8 h).toArray⟩)=Pf (aT s.data.toList h):=congrArg Value.string (mP _ _);refine F5 Ym rfl h 8 (by decide) (A:=λ a1 l1 c1 w2=>_) ?_;intro w2 g hc hg _;have own:=Cn hg (by rw[aN]; omega);rw[aN] at own;have hcd:aD w w2.drew []:=hc.trans (aD.drew _ []) (by simp);refine⟨nJ (Ku s hs) λ w4 hc4=>⟨_,rfl,?_⟩,?_⟩
 ·have own4:=fS own ((aD.drew w2 []).trans hc4 (by simp)) (by simp);exact vo (l:=uB 8 h) underlying125 underlying5 underlying9 (by rw[aN]; exact own4) ⟨_,rfl,by rw[hm]; omega,hv,hcd.trans hc4 (by simp)⟩
 ·refine vo (l:=uB 8 h) underlying125 underlying5 underlying9 (by rw[aN]; exact fS own (aD.drew w2 []) (by simp)) ⟨_,rfl,?_⟩;exact nJ (Ku s hs) λ w4 hc4=>⟨_,rfl,by rw[hm]; omega,hv,hcd.trans hc4 (by simp)⟩
def yo:List UInt8->Nat->Nat->Nat ⊕ (Nat×List UInt8)
 | [],_,_=>.inl 1
 | b :: l,i,x =>
  if i=9/\1<b.toNat then .inl 2
  else if 128<=b.toNat then yo l (i+1) (x+b.toNat%128*2 ^ (7*i))
  else if b.toNat=0/\0<i then .inl 2
  else .inr (x+b.toNat*2 ^ (7*i),l)
def dw(l:List UInt8)(most:Nat):Nat ⊕ (Nat×List UInt8):=match yo l 0 0 with
 | .inl e=>.inl e
 | .inr (x,r)=>if most<x then .inl 4 else .inr (x,r)
theorem Um:∀ a:Fin 256,iu .u8 ((a.val:Nat):Int) 127=((a.val%128:Nat):Int):=by decide +kernel
theorem Mu(b:UInt8):IntKind.u64.wrap (iu .u8 (b.toNat:Int) (127:Int))=((b.toNat%128:Nat):Int):=by
 have h:=Um ⟨b.toNat,b.toNat_lt⟩;simp only at h;rw[h,IntWalk.u64_in _ (by omega)]
theorem VL{x y k:Nat}(hx:x<2 ^ k)(h:x+y*2 ^ k<18446744073709551616):TV .u64 (x:Int) ((y*2 ^ k:Nat):Int)=((x+y*2 ^ k:Nat):Int):=by
 have hp:0<2 ^ k:=Nat.two_pow_pos k;show IntKind.u64.wrap (((BitVec.ofInt 64 (x:Int) ||| BitVec.ofInt 64 ((y*2 ^ k:Nat):Int)).toNat:Nat):Int)=_;have h3:(BitVec.ofInt 64 (x:Int) ||| BitVec.ofInt 64 ((y*2 ^ k:Nat):Int)).toNat=x ||| (y*2 ^ k):=by
  rw[BitVec.toNat_or,BitVec.toNat_ofInt,BitVec.toNat_ofInt];have e1:((x:Int)%((2 ^ 64:Nat):Int)).toNat=x:=by omega
  have e2:(((y*2 ^ k:Nat):Int)%((2 ^ 64:Nat):Int)).toNat=y*2 ^ k:=by omega
  rw[e1,e2]
 have h4:x ||| (y*2 ^ k)=x+y*2 ^ k:=by
  rw[Nat.or_comm,Nat.mul_comm y,<- Nat.two_pow_add_eq_or_of_lt hx]; omega
 rw[h3,h4];exact IntWalk.u64_in _ (by omega)
abbrev Cx (x:Nat) (l:List UInt8) (e:Int):aJ:=ah x #[.string (bs l),.int .i64 e] 166
section rd
variable {w0 w:World} {x:Nat} {l:List UInt8} {e:Int} {B:aJ}
theorem Sf(h:St w0 w (star (Cx x l e) B)):w.cell? ⟨x,0,none⟩=some (.string (bs l)):=h.boxed 0
theorem Hh(h:St w0 w (star (Cx x l e) B)):w.cell? ⟨x,1,none⟩=some (.int .i64 e):=h.boxed 1
theorem zk{cs:Array Value}{T:TypeId}{v:Value}{i:Nat}{R:World->Prop}(h:St w0 w (star (ah x cs T) B))(hi:i<cs.size)(hv:v.oneCell' = true)(k:∀ w',St w0 w' (star (ah x (cs.setIfInBounds i v) T) B)->R w'):aS w ⟨x,i,none⟩ v R:=by
 obtain⟨F,⟨ho,rfl⟩,use⟩:=h.use;refine qi ho hi hv (k _ (use _ (ah x (cs.setIfInBounds i v) T) ⟨[x],⟨?_,rfl⟩,aD.set _ _ _ _ (by simp),λ j hj=>.inl hj⟩));rw[heap_set,if_pos rfl,ho]; rfl
theorem Lw(h:St w0 w (star (Cx x l e) B)):CP 78 #[.pointer (some ⟨x,0,none⟩)] w (λ r w'=>r=.bool (e==0)/\w' = w) :=
 Wy ⟨_,Hh h,rfl,rfl⟩
theorem M5(h:St w0 w (star (Cx x l e) B)):CP 79 #[.pointer (some ⟨x,0,none⟩)] w (λ r w'=>r=.int .i64 e/\w' = w) :=
 S4 ⟨_,Hh h,rfl,rfl⟩
theorem NS(h:St w0 w (star (Cx x l e) B)):CP 107 #[.pointer (some ⟨x,0,none⟩)] w (λ r w'=>r=.int .i64 ((if e=0 then l.length else 0:Nat):Int)/\w' = w):=by
 refine PI ?_;unfold Uc;refine aq (Lw h) ?_;rintro _ w1 ⟨rfl,rfl⟩;refine⟨_,rfl,?_⟩
 by_cases he:e=0
 ·subst he;exact cF rfl ⟨_,Sf h,rfl,rfl⟩
 ·refine cT (by simpa using he) ⟨?_,rfl⟩;rw[if_neg he]; rfl
theorem DM(h:St w0 w (star (Cx x l 0) B))(n:Int):CP 38 #[.pointer (some ⟨x,0,none⟩),.int .i64 n] w (λ r w'=>r=.tuple #[]/\St w0 w' (star (Cx x l n) B)):=by
 refine GZ ?_;unfold PG;refine⟨λ b w'=>b=true/\w' = w,?_,0,Hh h,rfl,rfl⟩;rintro w1 b ⟨rfl,rfl⟩ -;exact cT rfl (zk h (by simp) rfl λ w2 h2=>⟨rfl,h2⟩)
end rd
theorem Kp{i x b:Nat}(hi:i<=9)(hx:x<2 ^ (7*i))(hb:i=9->b<=1):x+b%128*2 ^ (7*i)<18446744073709551616:=by
 by_cases h9:i=9
 ·subst h9;have:=hb rfl;have h1:b%128<=1:=by omega
  have h2:b%128*2 ^ (7*9)<=1*2 ^ (7*9):=Nat.mul_le_mul_right _ h1;omega
 ·have h1:b%128<=127:=by omega
  have h2:b%128*2 ^ (7*i)<=127*2 ^ (7*i):=Nat.mul_le_mul_right _ h1;have h3:2 ^ (7*i)<=2 ^ 56:=Nat.pow_le_pow_right (by decide) (by omega);omega
theorem ZC{i x:Nat}{b:UInt8}(hi:i<=9)(hx:x<2 ^ (7*i))(hb:i=9->b.toNat<=1) :
  TV .u64 (x:Int) (IntKind.u64.wrap ((IntKind.u64.wrap (iu .u8 (b.toNat:Int) (127:Int)))*2 ^ (min ((IntKind.u64.wrap ((7:Int)*(IntKind.u64.wrap (i:Int))))).toNat IntKind.u64.bits)))
   = ((x+b.toNat%128*2 ^ (7*i):Nat):Int):=by
 have hlt:=Kp (b:=b.toNat) hi hx hb;have h1:IntKind.u64.wrap (i:Int)=(i:Int):=IntWalk.u64_in _ (by omega);have h2:IntKind.u64.wrap ((7:Int)*(i:Int))=((7*i:Nat):Int):=by rw[IntWalk.u64_in _ (by omega)]; omega
 have h3:min (7*i) IntKind.u64.bits=7*i:=by
  have:IntKind.u64.bits=64:=rfl;omega
 have h4:((b.toNat%128:Nat):Int)*2 ^ (7*i)=((b.toNat%128*2 ^ (7*i):Nat):Int):=by
  rw[Int.natCast_mul,Int.natCast_pow]; rfl
 rw[Mu,h1,h2,Int.toNat_natCast,h3,h4,IntWalk.u64_in _ (by omega)];exact VL hx hlt
theorem drop_cons{l:List UInt8}{i:Nat}{b:UInt8}{t:List UInt8}(h:l.drop i=b :: t):i<l.length/\l[i]?=some b/\l.drop (i+1)=t:=by
 have h1:i<l.length:=by
  rcases Nat.lt_or_ge i l.length with h' | h'
  ·exact h'
  ·rw[List.drop_of_length_le h'] at h; cases h
 rw[List.drop_eq_getElem_cons h1] at h
 cases h
 exact⟨h1,by simp[h1],rfl⟩
theorem Dm(l:List UInt8)(i:Nat):(bs l).extract i (bs l).size=bs (l.drop i):=by
 apply ByteArray.ext;rw[ByteArray.data_extract];apply Array.toList_inj.1;rw[Array.toList_extract,List.extract_eq_drop_take'];simp[bs,ByteArray.size]
theorem J5{w0 w:World}{x:Nat}{l:List UInt8}{B:aJ}(h:St w0 w (star (Cx x l 0) B))(hl:l.length<=4611686018427387904)(most:Nat) :
  CP 37 #[.pointer (some ⟨x,0,none⟩),.int .u64 (most:Int)] w (λ r w'=>match dw l most with
   | .inl e=>r=.int .u64 0/\St w0 w' (star (Cx x l (e:Int)) B)
   | .inr (n,t)=>r=.int .u64 (n:Int)/\St w0 w' (star (Cx x t 0) B)):=by
 refine CV ?_;unfold IS;refine aq (Lw h) ?_;rintro _ w1 ⟨rfl,rfl⟩;refine⟨_,rfl,cF rfl ?_⟩;refine⟨λ n2 n3 w' m=>∃ (i y:Nat),n3=(i:Int)/\n2=(y:Int)/\i<=9/\i<=l.length/\m=10-i/\y<2 ^ (7*i)/\yo l 0 0=yo (l.drop i) i y/\St w0 w' (star (Cx x l 0) B),⟨10,0,0,rfl,rfl,by omega,by omega,rfl,by decide,rfl,h⟩,?_⟩
 rintro w2 m n2 n3 ⟨i,y,rfl,rfl,hi,hil,rfl,hy,hr,hst⟩ -;refine⟨_,Sf hst,?_⟩;have hfail:∀ (c:Nat),yo l 0 0=.inl c->CC 38 #[.pointer (some ⟨x,0,none⟩),.int .i64 (c:Int)] w2 λ e2 w3=>e2=.returned (.tuple #[])/\(match dw l most with
   | .inl e=>Value.int .u64 0=.int .u64 0/\St w0 w3 (star (Cx x l (e:Int)) B)
   | .inr (n,t)=>Value.int .u64 0=.int .u64 (n:Int)/\St w0 w3 (star (Cx x t 0) B)):=λ c hc=>aq (DM hst (c:Int)) (by
  rintro _ w3 ⟨rfl,h3⟩;refine⟨rfl,?_⟩;unfold dw;rw[hc];exact⟨rfl,h3⟩)
 cases hd:l.drop i with
 | nil =>
  have hlen:i=l.length:=by
   have:=congrArg List.length hd;simp at this; omega
  refine cT (by rw[cS,hlen]; simp) ?_;exact hfail 1 (by rw[hr,hd]; rfl)
 | cons b t =>
  obtain⟨hlt,hget,hdr⟩:=drop_cons hd;refine cF (by rw[cS]; simp; omega) ⟨_,Sf hst,by omega,?_⟩;rw[Int.toNat_natCast,ld,hget];have hbl:=b.toNat_lt;refine⟨λ b3 w'=>w' = w2/\b3=decide (i=9/\1<b.toNat),?_,?_⟩
  rotate_left
  ·by_cases h9:i=9
   ·exact cT (by rw[h9]; rfl) ⟨rfl,decide_eq_decide.2 ⟨λ h=>⟨h9,by omega⟩,λ h=>by omega⟩⟩
   ·exact cF (by simp; omega) ⟨rfl,by simp[h9]⟩
  rintro w4 b3 ⟨rfl,rfl⟩ -
  by_cases hbad:i=9/\1<b.toNat
  ·refine cT (dT hbad) (hfail 2 ?_);rw[hr,hd];unfold yo;rw[if_pos hbad]
  ·have hb9:i=9->b.toNat<=1:=λ h=>by omega
   have hv:=ZC (b:=b) hi hy hb9;have hvl:=Kp (b:=b.toNat) hi hy hb9;have hstep:yo l 0 0=if 128<=b.toNat then yo t (i+1) (y+b.toNat%128*2 ^ (7*i)) else if b.toNat=0/\0<i then .inl 2 else .inr (y+b.toNat*2 ^ (7*i),t):=by
    rw[hr,hd]
    conv=>lhs; unfold yo
    rw[if_neg hbad]
   rw[hv];refine cF (dF hbad) ⟨?_,?_⟩
   ·rw[IntWalk.u64_in (i:Int) (by omega),IntWalk.u64_in _ (by omega)]; omega
   by_cases h128:128<=b.toNat
   ·rw[if_pos h128] at hstep;have hi9:i<9:=by omega
    refine cT (dT (by omega)) ⟨10-(i+1),by omega,i+1,_,?_,rfl,by omega,by omega,rfl,?_,by rw[hdr]; exact hstep,hst⟩
    ·rw[IntWalk.i64_in _ (by omega)]; omega
    ·have h1:b.toNat%128<=127:=by omega
     have h2:b.toNat%128*2 ^ (7*i)<=127*2 ^ (7*i):=Nat.mul_le_mul_right _ h1;have h3:2 ^ (7*(i+1))=128*2 ^ (7*i):=by rw[show 7*(i+1)=7*i+7 by omega,Nat.pow_add]; omega
     rw[h3]; omega
   ·rw[if_neg h128] at hstep;have hmod:b.toNat%128=b.toNat:=Nat.mod_eq_of_lt (by omega);rw[hmod] at hvl ⊢;refine cF (dF (by omega)) ⟨λ b4 w'=>w' = w4/\b4=decide (b.toNat=0/\0<i),?_,?_⟩
    rotate_left
    ·by_cases h0:b.toNat=0
     ·exact cT (by rw[h0]; rfl) ⟨rfl,by simp[h0]⟩
     ·exact cF (by simp; omega) ⟨rfl,by simp[h0]⟩
    rintro w6 b4 ⟨rfl,rfl⟩ -
    by_cases hz:b.toNat=0/\0<i
    ·rw[if_pos hz] at hstep;exact cT (dT hz) (hfail 2 hstep)
    ·rw[if_neg hz] at hstep;refine cF (dF hz) ?_
     by_cases hmost:most<y+b.toNat*2 ^ (7*i)
     ·refine cT (dT (by omega)) (aq (DM hst 4) ?_);rintro _ w3 ⟨rfl,h3⟩;refine⟨rfl,?_⟩;unfold dw;rw[hstep]
      dsimp only
      rw[if_pos hmost];exact⟨rfl,h3⟩
     ·have hi1:IntKind.i64.wrap ((i:Int)+1)=((i+1:Nat):Int):=by rw[IntWalk.i64_in _ (by omega)]; omega
      refine cF (dF (by omega)) ⟨_,Sf hst,by rw[hi1]; omega,by rw[hi1,cS]; omega,?_⟩;rw[hi1,Int.toNat_natCast,Dm,hdr];refine zk hst (by simp) rfl λ w9 h9=>?_;unfold dw;rw[hstep]
      dsimp only
      rw[if_neg hmost];exact⟨rfl,h9⟩
theorem El:∀ (l:List UInt8) (i x e:Nat),yo l i x=.inl e->e≠0
 | [],_,_,e,h=>by unfold yo at h; cases h; decide
 | b :: l,i,x,e,h=>by
  unfold yo at h
  split at h
  ·cases h; decide
  ·split at h
   ·exact El l _ _ e h
   ·split at h
    ·cases h; decide
    ·cases h
theorem Gw:∀ (l:List UInt8) (i x n:Nat) (t:List UInt8),yo l i x=.inr (n,t)->t.length<l.length
 | [],_,_,_,_,h=>by unfold yo at h; cases h
 | b :: l,i,x,n,t,h=>by
  unfold yo at h
  split at h
  ·cases h
  ·split at h
   ·have:=Gw l _ _ n t h; simp; omega
   ·split at h
    ·cases h
    ·cases h; simp
def qy(l:List UInt8):Option (List UInt8×List UInt8):=match yo l 0 0 with
 | .inl _=>none
 | .inr (n,t)=>if 4000<n then none else if t.length<n then none else some (t.take n,t.drop n)
structure RS where
 l:List UInt8
 e:Int
def rU(σ:RS)(most:Nat):Nat×RS:=if σ.e=0 then (match dw σ.l most with
 | .inl c=>(0,⟨σ.l,((c:Nat):Int)⟩)
 | .inr (n,t)=>(n,⟨t,0⟩)) else (0,σ)
def rT(σ:RS):List UInt8×RS:=if σ.e=0 then (match dw σ.l 4000 with
 | .inl c=>([],⟨σ.l,((c:Nat):Int)⟩)
 | .inr (n,t)=>if t.length<n then ([],⟨t,1⟩) else (t.take n,⟨t.drop n,0⟩)) else ([],σ)
def rE(σ:RS):Int:=if σ.e=0/\σ.l≠[] then 3 else σ.e
theorem L8{l:List UInt8}{most e:Nat}(h:dw l most=.inl e):e≠0:=by
 unfold dw at h
 split at h
 ·rename_i hr; cases h; exact El _ _ _ _ hr
 ·split at h
  ·cases h; decide
  ·cases h
theorem nH{l:List UInt8}{most n:Nat}{t:List UInt8}(h:dw l most=.inr (n,t)):t.length<l.length/\n<=most:=by
 unfold dw at h
 split at h
 ·cases h
 ·rename_i hr
  split at h
  ·cases h
  ·cases h; exact⟨Gw _ _ _ _ _ hr,by omega⟩
theorem Ej(σ:RS)(most:Nat):(rU σ most).2.l.length<=σ.l.length:=by
 unfold rU
 split
 ·cases hr:dw σ.l most with
  | inl c=>exact Nat.le_refl _
  | inr p=>exact Nat.le_of_lt (nH hr).1
 ·exact Nat.le_refl _
theorem Gu(σ:RS)(most:Nat):(rU σ most).1<=most:=by
 unfold rU
 split
 ·cases hr:dw σ.l most with
  | inl c=>exact Nat.zero_le _
  | inr p=>exact(nH hr).2
 ·exact Nat.zero_le _
theorem VR(σ:RS):(rT σ).2.l.length<=σ.l.length/\(rT σ).1.length<=4000:=by
 unfold rT
 split
 ·cases hr:dw σ.l 4000 with
  | inl c=>exact⟨Nat.le_refl _,Nat.zero_le _⟩
  | inr p =>
   obtain⟨n,t⟩:=p;have h:=nH hr
   dsimp only
   split
   ·exact⟨Nat.le_of_lt h.1,Nat.zero_le _⟩
   ·exact⟨by rw[List.length_drop]; omega,by rw[List.length_take]; omega⟩
 ·exact⟨Nat.le_refl _,Nat.zero_le _⟩
section
variable {w0 w:World} {x:Nat} {l:List UInt8} {σ:RS} {B:aJ}
abbrev yT (x:Nat) (σ:RS):aJ:=Cx x σ.l σ.e
theorem OF(h:St w0 w (star (yT x σ) B))(hl:σ.l.length<=4611686018427387904)(most:Nat) :
  CP 37 #[.pointer (some ⟨x,0,none⟩),.int .u64 (most:Int)] w (λ r w'=>r=.int .u64 ((rU σ most).1:Nat)/\St w0 w' (star (yT x (rU σ most).2) B)):=by
 obtain⟨l,e⟩:=σ
 by_cases he:e=0
 ·subst he;refine aq (J5 h hl most) ?_;intro r w1 hu;refine⟨_,rfl,?_⟩;unfold rU;rw[if_pos rfl];show r=_/\_
  cases hr:dw l most with
  | inl c=>rw[hr] at hu; exact hu
  | inr p=>rw[hr] at hu; exact hu
 ·refine CV ?_;unfold IS;refine aq (Lw h) ?_;rintro _ w1 ⟨rfl,rfl⟩;refine⟨_,rfl,cT (by simpa using he) ?_⟩;unfold rU;rw[if_neg he];exact⟨rfl,h⟩
theorem Gz(h:St w0 w (star (Cx x l 0) B))(hl:l.length<=4611686018427387904) :
  CP 40 #[.pointer (some ⟨x,0,none⟩),.int .i64 (4000:Int)] w (λ r w'=>r=sv (rT ⟨l,0⟩).1/\St w0 w' (star (yT x (rT ⟨l,0⟩).2) B)):=by
 refine CU ?_;unfold IQ;refine aq (Lw h) ?_;rintro _ w1 ⟨rfl,rfl⟩;refine⟨_,rfl,cF rfl ⟨λ n2 w'=>n2=((4000:Nat):Int)/\w' = w1,?_,cT (by decide) ⟨by rw[IntWalk.u64_in _ (by omega)]; rfl,rfl⟩⟩⟩;rintro w2 n2 ⟨rfl,rfl⟩ -;refine aq (J5 h hl 4000) ?_;intro r w3 hu
 cases hr:dw l 4000 with
 | inl e =>
  have hrT:rT ⟨l,0⟩=([],⟨l,((e:Nat):Int)⟩):=by simp[rT,hr]
  rw[hr] at hu;obtain⟨rfl,h3⟩:=hu;have he:((e:Nat):Int)≠0:=by have:=L8 hr; omega
  rw[hrT];refine⟨_,rfl,λ w'=>w' = w3,?_,λ b w'=>b=false/\w' = w3,?_,_,Hh h3,cF (by simpa using he) ⟨rfl,rfl⟩⟩
  ·rintro w4 rfl -;refine⟨λ w'=>w' = w4,?_,λ b w'=>b=false/\w' = w4,?_,_,Hh h3,cF (by simpa using he) ⟨rfl,rfl⟩⟩
   ·rintro w5 rfl -;exact⟨_,Hh h3,cT (by simpa using he) ⟨rfl,h3⟩⟩
   ·rintro w5 b ⟨rfl,rfl⟩ -;exact cF rfl rfl
  ·rintro w4 b ⟨rfl,rfl⟩ -;exact cF rfl rfl
 | inr p =>
  obtain⟨n,t⟩:=p;obtain⟨htl,hn4⟩:=nH hr;have hrT:rT ⟨l,0⟩=if t.length<n then ([],⟨t,1⟩) else (t.take n,⟨t.drop n,0⟩):=by simp[rT,hr]
  rw[hr] at hu;obtain⟨rfl,h3⟩:=hu;rw[hrT];refine⟨_,rfl,λ w'=>w' = w3,?_,λ b w'=>b=false/\w' = w3,?_,_,Hh h3,cT (by decide) ⟨by decide,rfl⟩⟩
  ·rintro w4 rfl -
   by_cases ht:t.length<n
   ·rw[if_pos ht];refine⟨λ w'=>St w0 w' (star (Cx x t 1) B),?_,λ b w'=>b=true/\w' = w4,?_,_,Hh h3,cT (by decide) ⟨_,Sf h3,?_,rfl⟩⟩
    ·rintro w5 h5 -;exact⟨_,Hh h5,cT (by decide) ⟨rfl,h5⟩⟩
    ·rintro w5 b ⟨rfl,rfl⟩ -;refine cT rfl (aq (DM h3 1) ?_);rintro _ w6 ⟨rfl,h6⟩;exact⟨rfl,h6⟩
    ·rw[cS,IntWalk.u64_in _ (by omega)];exact dT (by omega)
   ·rw[if_neg ht];refine⟨λ w'=>w' = w4,?_,λ b w'=>b=false/\w' = w4,?_,_,Hh h3,cT (by decide) ⟨_,Sf h3,?_,rfl⟩⟩
    ·rintro w5 rfl -;refine⟨_,Hh h3,cF (by decide) ⟨_,Sf h3,by omega,by rw[cS]; omega,_,Sf h3,by omega,by rw[cS]; omega,?_⟩⟩;rw[Int.toNat_natCast,Dm,Th];exact zk h3 (by simp) rfl λ w6 h6=>⟨rfl,h6⟩
    ·rintro w5 b ⟨rfl,rfl⟩ -;exact cF rfl rfl
    ·rw[cS,IntWalk.u64_in _ (by omega)];exact dF (by omega)
  ·rintro w4 b ⟨rfl,rfl⟩ -;exact cF rfl rfl
theorem Sn(h:St w0 w (star (Cx x l 0) B))(hl:l.length<=4611686018427387904) :
  CP 40 #[.pointer (some ⟨x,0,none⟩),.int .i64 (4000:Int)] w (λ r w'=>match qy l with
   | none=>∃ (s:List UInt8) (e:Int) (l' : List UInt8),r=Pf s/\e≠0/\St w0 w' (star (Cx x l' e) B)
   | some (s,t)=>r=Pf s/\St w0 w' (star (Cx x t 0) B)):=by
 refine aq (Gz h hl) ?_;rintro _ w1 ⟨rfl,hs⟩;refine⟨_,rfl,?_⟩;unfold qy
 cases hu:yo l 0 0 with
 | inl e =>
  have h1:dw l 4000=.inl e:=by unfold dw; rw[hu]
  have hrT:rT ⟨l,0⟩=([],⟨l,((e:Nat):Int)⟩):=by simp[rT,h1]
  rw[hrT] at hs ⊢;exact⟨[],_,l,rfl,by have:=El _ _ _ _ hu; show((e:Nat):Int)≠0; omega,hs⟩
 | inr p =>
  obtain⟨n,t⟩:=p
  dsimp only
  by_cases h4:4000<n
  ·have h1:dw l 4000=.inl 4:=by unfold dw; rw[hu]; dsimp only; rw[if_pos h4]
   have hrT:rT ⟨l,0⟩=([],⟨l,4⟩):=by simp[rT,h1]
   rw[if_pos h4];rw[hrT] at hs ⊢;exact⟨[],_,l,rfl,by show(4:Int)≠0; decide,hs⟩
  ·have h1:dw l 4000=.inr (n,t):=by unfold dw; rw[hu]; dsimp only; rw[if_neg h4]
   have hrT:rT ⟨l,0⟩=if t.length<n then ([],⟨t,1⟩) else (t.take n,⟨t.drop n,0⟩):=by simp[rT,h1]
   rw[if_neg h4];rw[hrT] at hs ⊢
   by_cases ht:t.length<n
   ·rw[if_pos ht] at hs ⊢;rw[if_pos ht];exact⟨[],_,t,rfl,by show(1:Int)≠0; decide,hs⟩
   ·rw[if_neg ht] at hs ⊢;rw[if_neg ht];exact⟨rfl,hs⟩
theorem Zq(h:St w0 w (star (yT x σ) B))(hl:σ.l.length<=4611686018427387904) :
  CP 40 #[.pointer (some ⟨x,0,none⟩),.int .i64 (4000:Int)] w (λ r w'=>r=sv (rT σ).1/\St w0 w' (star (yT x (rT σ).2) B)):=by
 obtain⟨l,e⟩:=σ
 by_cases he:e=0
 ·subst he; exact Gz h hl
 ·refine CU ?_;unfold IQ;refine aq (Lw h) ?_;rintro _ w1 ⟨rfl,rfl⟩;refine⟨_,rfl,cT (by simpa using he) ?_⟩;unfold rT;rw[if_neg he];exact⟨rfl,h⟩
theorem XC(h:St w0 w (star (yT x σ) B))(n:Int)(he:σ.e=0):CP 38 #[.pointer (some ⟨x,0,none⟩),.int .i64 n] w (λ r w'=>r=.tuple #[]/\St w0 w' (star (yT x ⟨σ.l,n⟩) B)) :=
 DM (by rw[<- he]; exact h) n
theorem XB(h:St w0 w (star (yT x σ) B))(n:Int)(he:σ.e≠0):CP 38 #[.pointer (some ⟨x,0,none⟩),.int .i64 n] w (λ r w'=>r=.tuple #[]/\w' = w):=by
 refine GZ ?_;unfold PG;refine⟨λ b w'=>b=false/\w' = w,?_,σ.e,Hh h,by simpa using he,rfl⟩;rintro w1 b ⟨rfl,rfl⟩ -;exact cF rfl ⟨rfl,rfl⟩
theorem XA(h:St w0 w (star (yT x σ) B)):CP 41 #[.pointer (some ⟨x,0,none⟩)] w (λ r w'=>r=iv (rE σ)/\St w0 w' (star (yT x ⟨σ.l,rE σ⟩) B)):=by
 refine S0 ?_;unfold X8;refine⟨λ w'=>St w0 w' (star (yT x ⟨σ.l,rE σ⟩) B),?_,?_⟩
 ·rintro w1 h1 -;refine aq (M5 h1) ?_;rintro _ w2 ⟨rfl,rfl⟩;exact⟨_,rfl,rfl,h1⟩
 ·refine⟨λ b w'=>b=decide (σ.e=0/\σ.l≠[])/\w' = w,?_,aq (Lw h) ?_⟩
  ·rintro w3 b ⟨rfl,rfl⟩ -
   by_cases g:σ.e=0/\σ.l≠[]
   ·refine cT (dT g) (aq (XC h 3 g.1) ?_);rintro _ w4 ⟨rfl,h4⟩;exact⟨rfl,by unfold rE; rw[if_pos g]; exact h4⟩
   ·exact cF (dF g) (by unfold rE; rw[if_neg g]; exact h)
  ·rintro _ w5 ⟨rfl,rfl⟩;refine⟨_,rfl,?_⟩
   by_cases he:σ.e=0
   ·refine cT (by simpa using he) ⟨_,Sf h,?_,rfl⟩;rw[jm,jm]
    cases hl:σ.l with
    | nil=>rw[dF λ h=>h.2 rfl]; rfl
    | cons c l=>rw[dT ⟨he,by simp⟩]; rfl
   ·exact cF (by simpa using he) ⟨by rw[dF λ h=>he h.1],rfl⟩
end
theorem Cy:∀ (l:List UInt8) (i x n:Nat) (t:List UInt8),i<=9->yo l i x=.inr (n,t)->∃ y,n=x+y*2 ^ (7*i)/\l=ji (9-i) y++t/\(0<i->0<y)
 | [],_,_,_,_,_,h=>by unfold yo at h; cases h
 | b :: l,i,x,n,t,hi,h=>by
  have hbl:=b.toNat_lt;have hof:UInt8.ofNat b.toNat=b:=UInt8.ofNat_toNat;unfold yo at h
  split at h
  ·cases h
  ·rename_i h9
   split at h
   ·rename_i h128;have hi9:i<=8:=by omega
    obtain⟨y,hn,hl,hy⟩:=Cy l (i+1) _ n t (by omega) h;have hy:=hy (by omega);refine⟨b.toNat%128+128*y,?_,?_,λ _=>by omega⟩
    ·rw[hn,show 7*(i+1)=7*i+7 by omega,Nat.pow_add,Nat.add_mul];have:y*(2 ^ (7*i)*2 ^ 7)=128*y*2 ^ (7*i):=by
      rw[show(2:Nat) ^ 7=128 from rfl,Nat.mul_comm (2 ^ (7*i)) 128,<- Nat.mul_assoc,Nat.mul_comm y 128]
     omega
    ·obtain⟨k,hk⟩:∃ k,9-i=k+1:=⟨8-i,by omega⟩;rw[hk];unfold ji;rw[if_neg (by omega),show(b.toNat%128+128*y)%128+128=b.toNat by omega,hof,show(b.toNat%128+128*y) / 128=y by omega,hl,show 9-(i+1)=k by omega];rfl
   ·rename_i h128
    split at h
    ·cases h
    ·rename_i hz
     cases h
     refine⟨b.toNat,rfl,?_,λ _=>by omega⟩;have:ji (9-i) b.toNat=[b]:=by
      cases 9-i with
      | zero=>unfold ji; rw[Nat.mod_eq_of_lt (by omega),hof]
      | succ k=>unfold ji; rw[if_pos (by omega),Nat.mod_eq_of_lt (by omega),hof]
     rw[this];rfl
theorem qA{l s t:List UInt8}(h:qy l=some (s,t)):l=dM s++t/\s.length<=4000:=by
 unfold qy at h
 split at h
 ·cases h
 ·rename_i n t' hr
  split at h
  ·cases h
  ·split at h
   ·cases h
   ·rename_i h4 ht
    cases h
    obtain⟨y,hn,hl,_⟩:=Cy _ _ _ _ _ (by decide) hr;have hny:n=y:=by simpa using hn
    subst hny;have hlen:(t'.take n).length=n:=by rw[List.length_take]; omega
    refine⟨?_,by omega⟩;unfold dM jj;rw[hlen,List.append_assoc,List.take_append_drop];exact hl
structure lB where
 s:List UInt8
 head:Nat
 till:Nat
def iH:Nat->List UInt8->Nat->Nat->List lB
 | 0,_,_,_=>[]
 | k+1,l,at_,h=>match qy l with
  | none=>[]
  | some (s,t)=>if t.take 8=uB 8 (aI h s) then ⟨s,aI h s,at_+(aT s (aI h s)).length⟩ :: iH k (t.drop 8) (at_+(aT s (aI h s)).length) (aI h s) else []
def dU(l:List UInt8):List lB:=iH l.length l 0 0
theorem mZ{l s t:List UInt8}{h:Nat}(hr:qy l=some (s,t))(ht:t.take 8=uB 8 h):l=aT s h++t.drop 8/\8<=t.length/\(aT s h).length=l.length-t.length+8:=by
 have h8:8<=t.length:=by
  have:=congrArg List.length ht;rw[aN,List.length_take] at this;omega
 obtain⟨hl,_⟩:=qA hr;refine⟨?_,h8,?_⟩
 ·rw[hl];unfold aT;rw[<- ht,List.append_assoc,List.take_append_drop]
 ·unfold aT;rw[List.length_append,aN,hl,List.length_append];omega
theorem Ac{k at_ h:Nat}{l:List UInt8}(hr:qy l=none):iH k l at_ h=[]:=by
 cases k with
 | zero=>rfl
 | succ k=>unfold iH; rw[hr]
theorem v7{k at_ h:Nat}{l s t:List UInt8}(hr:qy l=some (s,t))(ht:t.take 8≠uB 8 (aI h s)):iH k l at_ h=[]:=by
 cases k with
 | zero=>rfl
 | succ k=>unfold iH; rw[hr]; dsimp only; rw[if_neg ht]
theorem sY{k at_ h:Nat}{l s t:List UInt8}(hr:qy l=some (s,t))(ht:t.take 8=uB 8 (aI h s)) :
  iH (k+1) l at_ h=⟨s,aI h s,at_+(aT s (aI h s)).length⟩ :: iH k (t.drop 8) (at_+(aT s (aI h s)).length) (aI h s):=by
 conv=>lhs; unfold iH
 rw[hr]; dsimp only; rw[if_pos ht]
def bE(pre:List lB):Nat:=(pre.getLast?.map (·.till)).getD 0
theorem IN(pre:List lB)(e:lB):bE (pre++[e])=e.till:=by simp[bE]
theorem B8:∀ (k:Nat) (l:List UInt8) (a h:Nat),(iH k l a h).length<=l.length
 | 0,_,_,_=>Nat.zero_le _
 | k+1,l,a,h=>by
  unfold iH
  split
  ·exact Nat.zero_le _
  ·rename_i s t hr
   split
   ·rename_i ht;obtain⟨hl,h8,_⟩:=mZ hr ht;have:=B8 k (t.drop 8) (a+(aT s (aI h s)).length) (aI h s);have h1:=congrArg List.length hl;simp only[List.length_append,List.length_drop,List.length_cons] at h1 this ⊢;unfold aT at h1;rw[List.length_append,aN] at h1;omega
   ·exact Nat.zero_le _
theorem Qe{w0 w:World}{x:Nat}{cs:Array Value}{T:TypeId}{B:aJ}{R:World->Prop}(h:St w0 w (star (ah x cs T) B))(vs:List Value)(hn:vs.length=cs.size)(h1:∀ v∈vs,v.oneCell' = true)(k:∀ w',St w0 w' (star (ah x vs.toArray T) B)->R w'):aU ⟨x,0,none⟩ 0 vs w R:=by
 obtain⟨F,⟨ho,rfl⟩,use⟩:=h.use;refine AX vs 0 w cs ho (by omega) h1 λ w' hb hc _=>k w' (use w' (ah x vs.toArray T) ⟨[x],⟨?_,rfl⟩,hc,λ j hj=>.inl hj⟩);rw[hb];have:cs.toList.drop (0+0+vs.length)=[]:=List.drop_of_length_le (by simp; omega);rw[this]
 simp
def jb(h:Nat)(l:List (List UInt8)):Nat:=l.foldl aI h
def bh:Nat->List (List UInt8)->List UInt8
 | _,[]=>[]
 | h,s :: l=>aT s (aI h s)++bh (aI h s) l
def nX:Nat->Nat->List (List UInt8)->List lB
 | _,_,[]=>[]
 | a,h,s :: l=>⟨s,aI h s,a+(aT s (aI h s)).length⟩ :: nX (a+(aT s (aI h s)).length) (aI h s) l
def zZ:Nat->List (List UInt8)->List Nat
 | _,[]=>[]
 | h,s :: l=>aI h s :: zZ (aI h s) l
theorem K4(h:Nat):jb h []=h:=rfl
theorem nk(h:Nat)(s:List UInt8)(l:List (List UInt8)):jb h (s :: l)=jb (aI h s) l:=List.foldl_cons ..
theorem Fv(h:Nat):bh h []=[]:=rfl
theorem gu(h:Nat)(s:List UInt8)(l:List (List UInt8)):bh h (s :: l)=aT s (aI h s)++bh (aI h s) l:=by rw[bh]
theorem vW(h:Nat)(s:List UInt8)(l:List (List UInt8)):zZ h (s :: l)=aI h s :: zZ (aI h s) l:=by rw[zZ]
theorem pG:∀ (l m:List (List UInt8)) (h:Nat),bh h (l++m)=bh h l++bh (jb h l) m
 | [],_,_=>rfl
 | s :: l,m,h=>by rw[List.cons_append,gu,gu,pG l m,nk,List.append_assoc]
theorem xj:∀ (l m:List (List UInt8)) (h:Nat),zZ h (l++m)=zZ h l++zZ (jb h l) m
 | [],_,_=>rfl
 | s :: l,m,h=>by rw[List.cons_append,vW,vW,xj l m,nk,List.cons_append]
theorem DV(l m:List (List UInt8))(h:Nat):jb h (l++m)=jb (jb h l) m:=List.foldl_append ..
theorem B6:∀ (l:List (List UInt8)) (h:Nat),(zZ h l).getLast?.getD h=jb h l
 | [],_=>rfl
 | s :: l,h=>by
  have h1:=B6 l (aI h s);rw[vW,nk,<- h1,List.getLast?_cons];rfl
theorem zG:∀ (l:List (List UInt8)) (a h:Nat),((nX a h l).getLast?.map (·.till)).getD a=a+(bh h l).length
 | [],_,_=>by simp[nX,bh]
 | [s],a,h=>by simp[nX,bh]
 | s :: t :: l,a,h=>by
  have:=zG (t :: l) (a+(aT s (aI h s)).length) (aI h s);simp only[nX,List.getLast?_cons_cons,bh,List.length_append] at this ⊢;simp only[List.getLast?_cons,Option.map_some,Option.getD_some] at this ⊢;omega
theorem IM(l:List (List UInt8))(h:Nat):bE (nX 0 h l)=(bh h l).length:=by
 have:=zG l 0 h;rw[Nat.zero_add] at this;exact this
theorem xo:∀ (k:Nat) (l:List UInt8) (a h:Nat),iH k l a h=nX a h ((iH k l a h).map (·.s))/\bh h ((iH k l a h).map (·.s)) <+: l/\∀ s∈(iH k l a h).map (·.s),s.length<=4000
 | 0,l,a,h=>by simp[iH,nX,bh]
 | k+1,l,a,h=>by
  cases hr:qy l with
  | none=>rw[Ac hr]; simp[nX,bh]
  | some p =>
   obtain⟨s,t⟩:=p
   by_cases ht:t.take 8=uB 8 (aI h s)
   ·rw[sY hr ht];obtain⟨h1,h2,h3⟩:=xo k (t.drop 8) (a+(aT s (aI h s)).length) (aI h s);obtain⟨hl,_⟩:=mZ hr ht;refine⟨?_,?_,?_⟩
    ·rw[List.map_cons,nX,<- h1]
    ·rw[List.map_cons,gu]
     conv=>rhs; rw[hl]
     exact(List.prefix_append_right_inj _).2 h2
    ·intro u hu;rw[List.map_cons,List.mem_cons] at hu;rcases hu with rfl|hu
     ·exact(qA hr).2
     ·exact h3 u hu
   ·rw[v7 hr ht]; simp[nX,bh]
theorem FO(l:List UInt8):dU l=nX 0 0 ((dU l).map (·.s))/\l.take (bE (dU l))=bh 0 ((dU l).map (·.s))/\(∀ s∈(dU l).map (·.s),s.length<=4000)/\bE (dU l)<=l.length:=by
 obtain⟨h1,h2,h3⟩:=xo l.length l 0 0;have ht:bE (dU l)=(bh 0 ((dU l).map (·.s))).length:=by
  conv=>lhs; unfold dU; rw[h1]
  exact IM _ _
 have h2' : bh 0 ((dU l).map (·.s)) <+: l:=h2;refine⟨h1,?_,h3,?_⟩
 ·rw[ht];exact(List.prefix_iff_eq_take.1 h2').symm
 ·rw[ht]; exact h2'.length_le
def NJ(a:ByteArray)(w:World)(K:KP):=au w (.cells #[.string a] 9) λ a b=>K (.func (.func 106) #[] #[qp a]) b
theorem FI{s1 w K}(h:NJ s1 w K):CP 59 #[.string s1] w K:=an (aF []) func59 (by kernel_rfl) (by kernel_rfl) h
def Tz(a b:Nat)(w:World)(K:KP):=∃ c:Int->Int->qN,(∃ d,c 0 (0:Int) w d)/\∀ e d f g,c f g e d->∀ h:qv,∃ h,e.cell? (qd b 0)=some (.string h)/\0<=f/\f<=((h.size:Nat):Int)/\CC 36 #[.string (h.extract ((f).toNat) h.size)] e λ e h=>∃ i,e=.returned (.pointer i)/\CC 40 #[.pointer i,iv 4000] h λ e h=>∃ j,e=.returned (.string j)/\∃ e:Bool->qW,(∀ k l,e l k->∀ m:qv,cond l (K (.tuple #[]) k) (CC 13 #[.int .u64 g,.string j] k λ g k=>∃ l,g=.returned (.int .u64 l)/\∃ g,k.drew.cell? (qd b 0)=some (.string g)/\CC 107 #[.pointer i] k.drew λ k m=>∃ n,k=.returned (iv n)/\m.cell? (qd b 0)=some (.string g)/\∃ k:Bool->qW,(∀ o p,k p o->∀ q:qv,cond p (K (.tuple #[]) o) (∃ p,p<d/\c (IntKind.i64.wrap ((IntKind.i64.wrap (((g.size:Nat):Int)-n))+(8:Int))) l o p))/\∃ c,m.drew.cell? (qd b 0)=some (.string c)/\0<=(IntKind.i64.wrap ((IntKind.i64.wrap (((g.size:Nat):Int)-n))+(8:Int)))/\(IntKind.i64.wrap ((IntKind.i64.wrap (((g.size:Nat):Int)-n))+(8:Int)))<=((c.size:Nat):Int)/\0<=f/\f<=((((IntKind.i64.wrap ((IntKind.i64.wrap (((g.size:Nat):Int)-n))+(8:Int)))).toNat:Nat):Int)/\CC 69 #[.string j,.int .u64 l] m.drew λ d m=>∃ o,d=.returned (.string o)/\m.cell? (qd b 0)=some (.string c)/\cond (!((c.extract ((f).toNat) (((IntKind.i64.wrap ((IntKind.i64.wrap (((g.size:Nat):Int)-n))+(8:Int)))).toNat)).toList==o.toList)) (k true m) (gX prog a #[.agg #[.string j,.int .u64 l,iv (IntKind.i64.wrap ((IntKind.i64.wrap (((g.size:Nat):Int)-n))+(8:Int)))]] m λ a b=>∃ c,.returned (.bool a)=Ending.returned (.bool c)/\k (!c) b)))/\CC 79 #[.pointer i] h λ a b=>∃ c,a=.returned (iv c)/\cond (c !=0) (e true b) (CC 107 #[.pointer i] b λ a b=>∃ c,a=.returned (iv c)/\e (decide (c<8)) b)
theorem NM{l1 b1 w K}(h:Tz l1 b1 w K):CP 106 #[.func (.yield l1) #[] #[],.pointer (some ⟨b1,0,none⟩)] w K:=an (aF [(6,[(3,.s (.int .i64)),(4,.s (.int .u64))]),(198,[(21,.s .bool)]),(1598,[(47,.s .bool)])]) func106 (by kernel_rfl) (by kernel_rfl) h
def FJ(a:Int)(w:World)(K:KP):=cond (a==0) (K .nilIface w) (K (.iface 30 (iv a)) w)
theorem FK{n1 w K}(h:FJ n1 w K):CP 67 #[iv n1] w K:=an (aF []) func67 (by kernel_rfl) (by kernel_rfl) h
def XI(a:Value)(w:World)(K:KP):=K (.bool false) w
theorem OZ{v1 w K}(h:XI v1 w K):CP 136 #[.nilIface,v1] w K:=an (aF []) func136 (by kernel_rfl) (by kernel_rfl) h
def Vl  (w:World) (K:KP):=au w (.cells #[qz] 30) λ a b=>CC 136 #[.nilIface,.iface 227 (qp a)] b λ b c=>∃ d,b=.returned (.bool d)/\cond d (∃ b,c.cell? (qd a 0)=some (iv b)/\K (iv b) c) (K qz c)
theorem K6{w K}(h:Vl w K):CP 113 #[.nilIface] w K:=an (aF []) func113 (by kernel_rfl) (by kernel_rfl) h
noncomputable def oa(b1:Nat)(s1:ByteArray)(n1:Int)(r1:Nat)(r2:Nat)(r3:Nat)(v1:Value):Tm:=[qp b1,undef,.pointer none,qz,.string s1,iv n1,qp r2,qp r3,undef,undef,undef,qp b1,.bool false,.tuple #[.string s1,iv n1],qp b1,.tuple #[.string s1,iv n1],.string s1,iv n1,iv n1,.bool (n1 !=0),undef,qp b1,.agg #[qp b1,qn,qz,.bool false],qp r1,.string s1,v1,undef,undef,undef,undef,undef,undef,undef,undef,undef,undef,undef,undef,undef,undef,undef,undef,undef,undef,undef,undef,undef,undef,undef,undef,undef,undef,undef,undef,undef,undef,undef,undef,undef,undef,undef,undef,undef,undef,undef,undef,undef,undef]
noncomputable def aK(b1:Nat)(s1:ByteArray)(n1:Int)(r1:Nat)(r2:Nat)(r3:Nat)(v1:Value)(fn:FuncId)(D:Nat):Loop:={ state:=.ready,pending:=none,fn:=fn,tmps:=(oa b1 s1 n1 r1 r2 r3 v1).toArray,params:=LO (cr Tryz.f21) 1018,assign:=LM (cr Tryz.f21) 1018,body:=LN (cr Tryz.f21) 1018,defers:=D }
def uA(a:Nat)(b:ByteArray)(c:Int)(d:Nat)(e:Nat)(f:Nat)(g:Value)(h:Nat)(i:ByteArray)(j:Int)(k:Int)(w:World)(K:Bool->qW):Prop:=au w (.cells #[.string (bs []),.int .u64 0,qz] 136) λ a b=>aU (qd a 0) 0 [.string i,.int .u64 j,iv k] b λ b=>∃ c,b.heap[h]?=some (.loop c)/\c.state=.ready/\∃ d,(World.putObj b h (.loop { c with state:=.busy })).drew.cell? (qd e 0)=some (.pointer d)/\∃ g,(World.putObj b h (.loop { c with state:=.busy })).drew.cell? (qd e 0)=some (.pointer g)/\av g λ i=>∃ j k l,(World.putObj b h (.loop { c with state:=.busy })).drew.cell? (Addr.add i 1)=some (.slice j k l)/\∃ m n o,af (World.putObj b h (.loop { c with state:=.busy })).drew (qd a 0) 0 [.string m,.int .u64 n,iv o]/\au (World.putObj b h (.loop { c with state:=.busy })).drew (.cells #[.string m,.int .u64 n,iv o] 136) λ b c=>c.cell? (Addr.add i 1)=some (.slice j k l)/\c.cell? (qd e 0)=some (.pointer g)/\c.cell? (qd e 0)=some (.pointer d)/\bn prog (Builtin.append_ #[129,129] 129 #[.slice j k l,.slice (some (qd b 0)) 1 1]) c λ b c=>∃ g i j,b=(.slice g i j)/\c.cell? (qd e 0)=some (.pointer d)/\av d λ b=>aS c (Addr.add b 1) (.slice g i j) λ b=>∃ c,b.cell? (qd a 2)=some (iv c)/\aS b (qd f 0) (iv c) λ a=>∃ b,a.heap[h]?=some (.loop b)/\K true (World.putObj a h (.loop { b with state:=.ready,pending:=none }))
theorem yg{b1:Nat}{s1:ByteArray}{n1:Int}{r1:Nat}{r2:Nat}{r3:Nat}{v1:Value}{l2:Nat}{s2:ByteArray}{n8:Int}{n9:Int}{w:World}{K:Bool->World->Prop}{r:Loop}(hl:w.heap[l2]?=some (.loop r))(ht:r.tmps=(oa b1 s1 n1 r1 r2 r3 v1).toArray)(hp:r.params=LO (cr Tryz.f21) 1018)(ha:r.assign=LM (cr Tryz.f21) 1018)(hb:r.body=LN (cr Tryz.f21) 1018)(h:uA b1 s1 n1 r1 r2 r3 v1 l2 s2 n8 n9 w K):gX prog l2 #[.agg #[.string s2,.int .u64 n8,iv n9]] w K:=Bc (aF []) (args:=[.agg #[.string s2,.int .u64 n8,iv n9]]) hl ht hp ha hb (by kernel_rfl) (by kernel_rfl) (by kernel_rfl) h
def TA(a:Nat)(w:World)(K:KP):=CC 58 #[qp a] w λ b c=>∃ d e,b=.returned (.tuple #[.string d,iv e])/\cond (e !=0) (K (.tuple #[.pointer none,iv e]) c) (au c (.cells #[qp a,qn,qz,.bool false] 131) λ b c=>au c (.cells #[.pointer none] 27) λ c f=>aS f (qd c 0) (qp b) λ f=>au f (.cells #[qz] 3) λ f g=>aS g (qd f 0) qz λ g=>CC 59 #[.string d] g λ g h=>∃ i:Value,g=.returned i/\wz prog i λ g j=>Au prog g j (aK a d e b c f i) h (λ b=>∃ e,b.drew.cell? (qd c 0)=some (.pointer e)/\∃ g,b.drew.cell? (qd c 0)=some (.pointer g)/\av g λ g=>∃ i j k,b.drew.cell? (Addr.add g 1)=some (.slice i j k)/\av e λ e=>aS b.drew (Addr.add e 2) (iv (j:Int)) λ b=>∃ e:qW,(∀ g,e g->∀ i:qv,∃ i:qW,(∀ j,i j->∀ k:qv,∃ k,j.cell? (qd c 0)=some (.pointer k)/\j.heap[h.heap.size]?=some (.deferred (some []))/\K (.tuple #[.pointer k,qz]) (World.putObj j h.heap.size (.deferred none)))/\CC 61 #[qp a] g λ c g=>∃ j,c=.returned (iv j)/\CC 62 #[qp a] g λ c g=>∃ k,c=.returned (iv k)/\cond (decide (j<k)) (CC 63 #[qp a] g λ c j=>∃ k,c=.returned (iv k)/\cond (k !=0) (j.heap[h.heap.size]?=some (.deferred (some []))/\K (.tuple #[.pointer none,iv k]) (World.putObj j h.heap.size (.deferred none))) (i j)) (i g))/\∃ c,b.cell? (qd f 0)=some (iv c)/\cond (decide (c<((d.size:Nat):Int))) (∃ c,b.cell? (qd f 0)=some (iv c)/\CC 60 #[qp a,iv c] b λ a c=>∃ d,a=.returned (iv d)/\cond (d !=0) (c.heap[h.heap.size]?=some (.deferred (some []))/\K (.tuple #[.pointer none,iv d]) (World.putObj c h.heap.size (.deferred none))) (e c)) (e b)) (λ _=>False) [])
theorem NN{b1 w K}(h:TA b1 w K):CP 21 #[.pointer (some ⟨b1,0,none⟩)] w K:=an (aF [(511,[]),(1023,[])]) func21 (by kernel_rfl) (by kernel_rfl) h
def NO(a:Nat)(b:Value)(w:World)(K:KP):=CC 113 #[b] w λ b c=>∃ d,b=.returned (iv d)/\∃ b:qW,(∀ e,b e->∀ f:qv,K (iv d) e)/\∃ e:Bool->qW,(∀ f g,e g f->∀ h:qv,cond g (aS f (qd a 3) (.bool true) λ a=>b a) (b f))/\cond (d !=0) (e (d !=18) c) (e false c)
theorem K9{b1 v1 w K}(h:NO b1 v1 w K):CP 66 #[.pointer (some ⟨b1,0,none⟩),v1] w K:=an (aF [(7,[]),(14,[(13,.s .bool)])]) func66 (by kernel_rfl) (by kernel_rfl) h
def JG(a:Nat)(b:ByteArray)(w:World)(K:KP):=cond (decide (((b.size:Nat):Int)>(4000:Int))) (K (.tuple #[.int .u64 0,iv 3]) w) (∃ c,w.cell? (qd a 3)=some (.bool c)/\cond c (K (.tuple #[.int .u64 0,iv 19]) w) (CC 65 #[qp a] w λ c d=>∃ e,c=.returned (.int .u64 e)/\CC 13 #[.int .u64 e,.string b] d λ c d=>∃ e,c=.returned (.int .u64 e)/\∃ c,d.drew.cell? (qd a 0)=some (.pointer c)/\CC 69 #[.string b,.int .u64 e] d.drew λ d f=>∃ g,d=.returned (.string g)/\f.cell? (qd a 0)=some (.pointer c)/\CC 68 #[.pointer c,.string g] f λ c d=>∃ f,c=.returned (iv f)/\CC 67 #[iv f] d λ c d=>∃ f:Value,c=.returned f/\CC 66 #[qp a,f] d λ c d=>∃ f,c=.returned (iv f)/\cond (f !=0) (K (.tuple #[.int .u64 0,iv f]) d) (∃ c f g,d.cell? (qd a 1)=some (.slice c f g)/\au d (.cells #[.string b,.int .u64 e,qz] 136) λ b d=>bn prog (Builtin.append_ #[129,129] 129 #[.slice c f g,.slice (some (qd b 0)) 1 1]) d λ b c=>∃ d f g,b=(.slice d f g)/\aS c (qd a 1) (.slice d f g) λ a=>K (.tuple #[.int .u64 e,qz]) a)))
theorem HQ{b1 s1 w K}(h:JG b1 s1 w K):CP 23 #[.pointer (some ⟨b1,0,none⟩),.string s1] w K:=an (aF []) func23 (by kernel_rfl) (by kernel_rfl) h
def Vm(a:Nat)(w:World)(K:KP):=∃ b c d,w.cell? (qd a 1)=some (.slice b c d)/\K (iv (c:Int)) w
theorem K7{b1 w K}(h:Vm b1 w K):CP 29 #[.pointer (some ⟨b1,0,none⟩)] w K:=an (aF []) func29 (by kernel_rfl) (by kernel_rfl) h
def JH(a:Nat)(b:Int)(w:World)(K:KP):=∃ c:Bool->qW,(∀ d e,c e d->∀ f:qv,cond e (K (.tuple #[.string (bs []),iv 4]) d) (∃ e f g,d.cell? (qd a 1)=some (.slice e f g)/\av e λ e=>0<=b/\b<(f:Int)/\∃ f,d.cell? (Addr.add e ((b).toNat*3))=some (.string f)/\K (.tuple #[.string f,qz]) d))/\cond (decide (b<0)) (c true w) (∃ d e f,w.cell? (qd a 1)=some (.slice d e f)/\c (decide (b>=(e:Int))) w)
theorem HR{b1 n1 w K}(h:JH b1 n1 w K):CP 70 #[.pointer (some ⟨b1,0,none⟩),iv n1] w K:=an (aF [(14,[(18,.s .bool)])]) func70 (by kernel_rfl) (by kernel_rfl) h
def Ty(a:Nat)(w:World)(K:KP):=∃ b:Bool->qW,(∀ c d,b d c->∀ e:qv,cond d (K (.int .u64 0) c) (∃ d e f,c.drew.cell? (qd a 1)=some (.slice d e f)/\∃ f g h,c.drew.cell? (qd a 1)=some (.slice f g h)/\av d λ d=>0<=(IntKind.i64.wrap ((g:Int)-(1:Int)))/\(IntKind.i64.wrap ((g:Int)-(1:Int)))<(e:Int)/\∃ e,c.drew.cell? (Addr.add (Addr.add d (((IntKind.i64.wrap ((g:Int)-(1:Int)))).toNat*3)) 1)=some (.int .u64 e)/\K (.int .u64 e) c.drew))/\∃ c d e,w.cell? (qd a 1)=some (.slice c d e)/\b ((d:Int)==(0:Int)) w
theorem NL{b1 w K}(h:Ty b1 w K):CP 65 #[.pointer (some ⟨b1,0,none⟩)] w K:=an (aF [(6,[(12,.s .bool)])]) func65 (by kernel_rfl) (by kernel_rfl) h
theorem XL:fZ prog 129 136 (.agg #[.string ⟨#[]⟩,.int .u64 0,.int .i64 0]) 3 32:=fZ.mk' underlying129 (by kernel_rfl) rfl (by decide)
def dY(e:lB):List Value:=[.string (bs e.s),.int .u64 (e.head:Int),.int .i64 (e.till:Int)]
def dz(x b:Nat)(es:List lB)(dur:Nat)(bL:Bool):aJ :=
 Tp λ v:Value=>star (ah x #[.pointer (some ⟨b,0,none⟩),v,.int .i64 (dur:Int),.bool bL] 131) (dD 136 3 v es.length (es.flatMap dY))
theorem WT(v:Value)(w:World):CP 136 #[.nilIface,v] w (λ r w'=>r=.bool false/\w' = w):=OZ ⟨rfl,rfl⟩
theorem Qn:BF 113 #[.nilIface] (.int .i64 0):=λ w=>by
 refine K6 (aL (aq (WT _ _) ?_));rintro _ w2 ⟨rfl,rfl⟩;exact⟨_,rfl,cF rfl ⟨rfl,aD.new _ _ _⟩⟩
def vF(w0:World):Prop:=∀ (n:Int) (w:World),aD w0 w []->CP 113 #[.iface 30 (.int .i64 n)] w (λ r w'=>r=.int .i64 n/\aD w w' [])
theorem vF.aC{w w' : World}(h:vF w)(hc:aD w w' []):vF w':=λ n w2 h2=>h n w2 (hc.trans h2 (by simp))
def M4(n:Int):Value:=if n=0 then .nilIface else .iface 30 (.int .i64 n)
theorem KU(n:Int):BF 67 #[.int .i64 n] (M4 n):=λ w=>by
 refine FK ?_;unfold FJ M4
 by_cases h:n=0
 ·rw[if_pos h]; exact cT (by simp[h]) ⟨rfl,aD.refl _ _⟩
 ·rw[if_neg h]; exact cF (by simp[h]) ⟨rfl,aD.refl _ _⟩
theorem Qo(n:Int)(w:World)(hg:n=0\/vF w):CP 113 #[M4 n] w (λ r w'=>r=.int .i64 n/\aD w w' []):=by
 unfold M4
 by_cases h:n=0
 ·rw[if_pos h,h]; exact Qn w
 ·rw[if_neg h]; exact(hg.resolve_left h) n w (aD.refl _ _)
section jou
variable {w0 w:World} {x b dur:Nat} {es:List lB} {bL:Bool} {B:aJ}
theorem iG(h:St w0 w (star (dz x b es dur bL) B)):∃ a c,St w0 w (Sep [ah x #[.pointer (some ⟨b,0,none⟩),.slice a es.length c,.int .i64 (dur:Int),.bool bL] 131,dD 136 3 (.slice a es.length c) es.length (es.flatMap dY),B]):=by
 obtain⟨v,h⟩:=h.ex;have h:=h.xx.two;obtain⟨a,c,rfl⟩:=bJ (h.rowAt 1 rfl);exact⟨a,c,h⟩
theorem FN{v:Value}(h:St w0 w (Sep [ah x #[.pointer (some ⟨b,0,none⟩),v,.int .i64 (dur:Int),.bool bL] 131,dD 136 3 v es.length (es.flatMap dY),B])):St w0 w (star (dz x b es dur bL) B) :=
 St.tg (f:=λ v:Value=>star (ah x #[.pointer (some ⟨b,0,none⟩),v,.int .i64 (dur:Int),.bool bL] 131) (dD 136 3 v es.length (es.flatMap dY))) v h.join.pair
theorem MK(h:St w0 w (star (dz x b es dur bL) B))(n:Int)(hg:n=0\/vF w0) :
  CP 66 #[.pointer (some ⟨x,0,none⟩),M4 n] w (λ r w'=>r=.int .i64 n/\St w0 w' (star (dz x b es dur (bL||(n !=0&&n !=18))) B)):=by
 refine K9 ?_;unfold NO;refine aq (Qo n w (hg.imp_right λ hg=>hg.aC h.aC)) ?_;rintro _ w1 ⟨rfl,hc⟩;have h1:=h.quiet hc;refine⟨n,rfl,λ w'=>St w0 w' (star (dz x b es dur (bL||(n !=0&&n !=18))) B),λ w2 h2 _=>⟨rfl,h2⟩,λ g w'=>g=(n !=0&&n !=18)/\St w0 w' (star (dz x b es dur bL) B),?_,?_⟩
 ·rintro w2 g ⟨hgg,h2⟩ -;subst hgg
  cases hn:(n !=0&&n !=18) with
  | false=>refine cF rfl ?_; rw[Bool.or_false]; exact h2
  | true =>
   obtain⟨a,c,h3⟩:=iG h2;refine cT rfl (h3.aM 0 rfl (by show 3<4; decide) rfl λ w3 h3=>?_);rw[Bool.or_true];exact FN h3
 ·by_cases hn:n=0
  ·exact cF (by simp[hn]) ⟨by simp[hn],h1⟩
  ·exact cT (by simp[hn]) ⟨by simp[hn],h1⟩
def dL(es:List lB):Nat:=(es.getLast?.map (·.head)).getD 0
theorem Fl{es:List lB}{i:Nat}{e:lB}(h:es[i]?=some e)(j:Nat)(hj:j<3):(es.flatMap dY)[i*3+j]?=(dY e)[j]?:=by
 induction es generalizing i with
 | nil=>simp at h
 | cons d es ih =>
  rw[List.flatMap_cons]
  cases i with
  | zero =>
   simp at h; subst h;rw[List.getElem?_append_left (by show 0*3+j<3; omega)]
   simp
  | succ i =>
   rw[List.getElem?_append_right (by show 3<=(i+1)*3+j; omega)];have:(i+1)*3+j-(dY d).length=i*3+j:=by show(i+1)*3+j-3=i*3+j; omega
   rw[this];exact ih (by simpa using h)
theorem Qq(h:St w0 w (star (dz x b es dur bL) B)):CP 29 #[.pointer (some ⟨x,0,none⟩)] w (λ r w'=>r=.int .i64 (es.length:Int)/\w' = w):=by
 obtain⟨a,c,h⟩:=iG h;exact K7 ⟨a,_,c,h.ag 0 rfl 1,rfl,rfl⟩
theorem OJ(h:St w0 w (star (dz x b es dur bL) B)){i:Nat}{e:lB}(he:es[i]?=some e):CP 70 #[.pointer (some ⟨x,0,none⟩),.int .i64 (i:Int)] w (λ r w'=>r=.tuple #[.string (bs e.s),.int .i64 0]/\w' = w):=by
 obtain⟨a,c,h⟩:=iG h;have hi:i<es.length:=(List.getElem?_eq_some_iff.1 he).1;refine HR ?_;unfold JH;refine⟨λ g w'=>g=false/\w' = w,?_,cF (dF (by omega)) ⟨a,_,c,h.ag 0 rfl 1,dF (by omega),rfl⟩⟩;rintro w1 g ⟨rfl,rfl⟩ -;obtain⟨g,rfl,hget⟩:=yU (h.rowAt 1 rfl) (by omega);refine cF rfl ⟨_,_,c,h.ag 0 rfl 1,by omega,by omega,bs e.s,?_,rfl,rfl⟩;rw[Int.toNat_natCast,gY];refine hget _ _ ?_;have:=Fl he 0 (by decide);rw[Nat.add_zero] at this;rw[this];rfl
theorem Vh(h:St w0 w (star (dz x b es dur bL) B))(hs:es.length<=9223372036854775807):CP 65 #[.pointer (some ⟨x,0,none⟩)] w (λ r w'=>r=.int .u64 (dL es:Int)/\aD w w' []):=by
 obtain⟨a,c,h⟩:=iG h;refine NL ?_;unfold Ty;refine⟨λ g w'=>g=decide (es.length=0)/\w' = w,?_,a,_,c,h.ag 0 rfl 1,by rw[Bool.eq_iff_iff]; simp,rfl⟩;rintro w1 g ⟨rfl,rfl⟩ -
 by_cases h0:es.length=0
 ·refine cT (dT h0) ⟨?_,aD.refl _ _⟩;rw[List.length_eq_zero_iff.1 h0]; rfl
 ·have hl:=h.quiet (aD.drew w1 []);obtain⟨g,rfl,hget⟩:=yU (hl.rowAt 1 rfl) (by omega);obtain⟨e,he⟩:∃ e,es[es.length-1]?=some e:=⟨es[es.length-1],by simp[show es.length-1<es.length by omega]⟩;have hw:IntKind.i64.wrap ((es.length:Int)-1)=((es.length-1:Nat):Int):=by rw[IntWalk.i64_in _ (by omega)]; omega
  refine cF (dF h0) ⟨_,_,c,hl.ag 0 rfl 1,_,_,c,hl.ag 0 rfl 1,by rw[hw]; omega,by rw[hw]; omega,e.head,?_,?_,aD.drew _ _⟩
  ·rw[hw,Int.toNat_natCast,gY,aZ];exact hget _ _ (by rw[Fl he 1 (by decide)]; rfl)
  ·unfold dL;rw[List.getLast?_eq_getElem?,he]; rfl
structure JO where
 head:Nat
 err:Int
 es:List lB
 bL:Bool
 s:MS
def Db(es:List lB)(bL:Bool)(s:MS)(rc:List UInt8):JO :=
 if 4000<rc.length then ⟨0,3,es,bL,s⟩ else if bL=true then ⟨0,19,es,bL,s⟩ else
 if (s.app (aT rc (aI (dL es) rc))).1=0 then ⟨aI (dL es) rc,0,es++[⟨rc,aI (dL es) rc,0⟩],bL,(s.app (aT rc (aI (dL es) rc))).2⟩
 else ⟨0,(s.app (aT rc (aI (dL es) rc))).1,es,(s.app (aT rc (aI (dL es) rc))).1 !=18,(s.app (aT rc (aI (dL es) rc))).2⟩
theorem My{s:MS}(h:St w0 w (star (dz x b es dur bL) (star (dA b s) B)))(ho:s.Ok)(hs:es.length<=1000000000)(rc:List UInt8)(hr:rc.length<=4611686018427387904)(hg:(s.app (aT rc (aI (dL es) rc))).1=0\/vF w0) :
  CP 23 #[.pointer (some ⟨x,0,none⟩),.string (bs rc)] w (λ r w'=>r=.tuple #[.int .u64 ((Db es bL s rc).head:Int),.int .i64 (Db es bL s rc).err] /\
   St w0 w' (star (dz x b (Db es bL s rc).es dur (Db es bL s rc).bL) (star (dA b (Db es bL s rc).s) B))):=by
 refine HQ ?_;unfold JG Db
 by_cases h4:4000<rc.length
 ·rw[if_pos h4];exact cT (dT (by rw[cS]; omega)) ⟨rfl,h⟩
 rw[if_neg h4];obtain⟨a,c,h1⟩:=iG h;refine cF (dF (by rw[cS]; omega)) ⟨bL,h1.ag 0 rfl 3,?_⟩
 cases bL with
 | true=>exact cT rfl ⟨rfl,h⟩
 | false =>
  rw[if_neg (by decide)];refine cF rfl (aq (Vh h (by omega)) ?_);rintro _ w1 ⟨rfl,hc1⟩;have h1:=h.quiet hc1;refine⟨_,rfl,nJ (FL (dL es) (bs rc) (by rw[cS]; omega)) λ w2 hc2=>⟨_,rfl,?_⟩⟩;have h2:=(h1.quiet hc2).quiet (aD.drew w2 []);have e0:(bs rc).data.toList=rc:=rfl;rw[e0];obtain⟨hd,hhd⟩:∃ hd,aI (dL es) rc=hd:=⟨_,rfl⟩;rw[hhd] at hg ⊢;obtain⟨a,c,k2⟩:=iG h2;refine⟨_,k2.ag 0 rfl 0,nJ (Js (bs rc) (by rw[cS]; omega) hd) λ w3 hc3=>⟨_,rfl,?_⟩⟩;rw[e0];have h3:=h2.quiet hc3;obtain⟨a,c,k3⟩:=iG h3;refine⟨k3.ag 0 rfl 0,aq (KI h3.CD ho ⟨(aT rc hd).toArray⟩) ?_⟩;rintro _ w4 ⟨rfl,h4⟩;have h4:=h4.CD;refine⟨_,rfl,nJ (KU _) λ w5 hc5=>⟨_,rfl,aq (MK (h4.quiet hc5) _ hg) ?_⟩⟩;rintro _ w6 ⟨rfl,h6⟩;refine⟨_,rfl,?_⟩
  by_cases hz:(s.app (aT rc hd)).1=0
  ·rw[if_pos hz];have hb:(false||((s.app (aT rc hd)).1 !=0&&(s.app (aT rc hd)).1 !=18))=false:=by simp[hz]
   have h6:St w0 w6 (star (dz x b es dur false) (star (dA b (s.app (aT rc hd)).2) B)):=by rw[<- hb]; exact h6
   obtain⟨a,c,k6⟩:=iG h6;refine cF (by rw[show(s.app (ByteArray.mk (aT rc hd).toArray).data.toList).1=0 from hz]; rfl) ⟨a,_,c,k6.ag 0 rfl 1,?_⟩;refine yF XL (k6.out 1 rfl) (news:=dY ⟨rc,hd,0⟩) rfl (by simp[dY,Value.oneCell']) (by omega) (by omega) (λ a4 c4 w8 h8=>?_) rfl;have h8:=h8.back (i:=1) (by show 1<3; decide);refine h8.aM 0 rfl (by show 1<4; decide) rfl λ w9 h9=>⟨rfl,?_⟩;have hl:(es++[(⟨rc,hd,0⟩:lB)]).length=es.length+1:=by simp
   have hm:(es++[(⟨rc,hd,0⟩:lB)]).flatMap dY=es.flatMap dY++dY ⟨rc,hd,0⟩:=by simp
   refine FN (v:=.slice a4 (es.length+1) c4) ?_;rw[hl,hm];exact h9
  ·rw[if_neg hz];refine cT (by simp; exact hz) ⟨rfl,?_⟩;have hb:(false||((s.app (aT rc hd)).1 !=0&&(s.app (aT rc hd)).1 !=18))=((s.app (aT rc hd)).1 !=18):=by simp[hz]
   rw[<- hb];exact h6
end jou
def QD(e:lB):Value:=.agg #[.string (bs e.s),.int .u64 (e.head:Int),.int .i64 (e.till:Int)]
theorem Wx{w0 w:World}{A:aJ}(h:St w0 w A)(l:List UInt8):CP 36 #[.string (bs l)] w (λ r w'=>∃ x,r=.pointer (some ⟨x,0,none⟩)/\St w0 w' (star (Cx x l 0) A)) :=
 Ks ⟨_,rfl,(h.box _ _).swap⟩
theorem Vj{w0 w:World}{b l:Nat}{L:List UInt8}(hL:L.length<=2305843009213693952){R:List lB->aJ}{B:aJ}(hY:∀ (pre:List lB) (e:lB) (w1:World) (Fr:aJ),pre++[e] <+: dU L->St w0 w1 (star (R pre) Fr)->gX prog l #[QD e] w1 λ g w2=>g=true/\St w0 w2 (star (R (pre++[e])) Fr))(h:St w0 w (star (R []) (star (ah b #[.string (bs L)] 9) B))) :
  CP 106 #[.func (.yield l) #[] #[],.pointer (some ⟨b,0,none⟩)] w (λ r w'=>r=.tuple #[]/\St w0 w' (star (R (dU L)) (star (ah b #[.string (bs L)] 9) B))):=by
 refine NM ?_;unfold Tz;refine⟨λ n1 n2 w' m=>∃ (pre:List lB) (k at_ hd:Nat),n1=(at_:Int)/\n2=(hd:Int)/\at_<=L.length/\m=L.length-at_/\m<=k/\dU L=pre++iH k (L.drop at_) at_ hd/\St w0 w' (star (R pre) (star (ah b #[.string (bs L)] 9) B)),⟨L.length,[],L.length,0,0,rfl,rfl,by omega,by omega,by omega,rfl,h⟩,?_⟩
 rintro w1 m n1 n2 ⟨pre,k,at_,hd,rfl,rfl,hat,rfl,hk,hp,hst⟩ -;have hcell:∀ {w' : World} {A:aJ},St w0 w' (star A (star (ah b #[.string (bs L)] 9) B))->w'.cell? ⟨b,0,none⟩=some (.string (bs L)):=λ h=>h.CD.boxed 0;refine⟨_,hcell hst,by omega,by rw[cS]; omega,?_⟩;rw[Int.toNat_natCast,Dm];obtain⟨rest,hrest⟩:∃ rest,L.drop at_=rest:=⟨_,rfl⟩;have hlen:rest.length=L.length-at_:=by rw[<- hrest,List.length_drop]
 rw[hrest] at hp ⊢;refine aq (Wx hst rest) ?_;rintro _ w2 ⟨x,rfl,h2⟩;refine⟨_,rfl,aq (Sn h2 (by omega)) ?_⟩;intro r w3 h3
 cases hr:qy rest with
 | none =>
  rw[hr] at h3;obtain⟨s,e,l',rfl,he,h3⟩:=h3;have hend:dU L=pre:=by rw[hp,Ac hr,List.append_nil]
  refine⟨_,rfl,λ g w'=>g=true/\w' = w3,?_,aq (M5 h3) ?_⟩
  ·rintro w4 g ⟨rfl,rfl⟩ -;exact cT rfl ⟨rfl,by rw[hend]; exact h3.second⟩
  ·rintro _ w4 ⟨rfl,rfl⟩;exact⟨_,rfl,cT (by simpa using he) ⟨rfl,rfl⟩⟩
 | some p =>
  obtain⟨s,t⟩:=p;rw[hr] at h3;obtain⟨rfl,h3⟩:=h3;obtain⟨hcan,hs4⟩:=qA hr;have htl:rest.length=(dM s).length+t.length:=by rw[hcan,List.length_append]
  refine⟨_,rfl,λ g w'=>g=decide (t.length<8)/\w' = w3,?_,aq (M5 h3) ?_⟩
  rotate_left
  ·rintro _ w4 ⟨rfl,rfl⟩;refine⟨_,rfl,cF rfl (aq (NS h3) ?_)⟩;rintro _ w5 ⟨rfl,rfl⟩;refine⟨_,rfl,?_,rfl⟩;rw[if_pos rfl];exact decide_eq_decide.2 ⟨λ h=>by omega,λ h=>by omega⟩
  ·rintro w4 g ⟨rfl,rfl⟩ -
   by_cases ht8:t.length<8
   ·have hend:dU L=pre:=by
     rw[hp,v7 hr (λ hh=>by have:=congrArg List.length hh; rw[aN,List.length_take] at this; omega),List.append_nil]
    exact cT (dT ht8) ⟨rfl,by rw[hend]; exact h3.second⟩
   ·refine cF (dF ht8) (nJ (FL hd (bs s) (by rw[cS]; omega)) λ w5 hc5=>⟨_,rfl,?_⟩);have h5:=(h3.quiet hc5).quiet (aD.drew w5 []);have e0:(bs s).data.toList=s:=rfl;rw[e0];refine⟨_,hcell h5.second,aq (NS h5) ?_⟩;rintro _ w6 ⟨rfl,rfl⟩;refine⟨_,rfl,hcell h5.second,?_⟩;rw[if_pos rfl];have hE:IntKind.i64.wrap ((IntKind.i64.wrap ((((bs L).size:Nat):Int)-((t.length:Nat):Int)))+(8:Int))=((L.length-t.length+8:Nat):Int):=by
     rw[cS,IntWalk.i64_in ((L.length:Int)-(t.length:Int)) (by omega),IntWalk.i64_in _ (by omega)]; omega
    rw[hE];have h6:=h5.quiet (aD.drew w5.drew []);refine⟨λ g w'=>(g=false/\t.take 8=uB 8 (aI hd s)/\St w0 w' (star (R (pre++[⟨s,aI hd s,at_+(aT s (aI hd s)).length⟩])) (star (ah b #[.string (bs L)] 9) B))) \/
      (g=true/\t.take 8≠uB 8 (aI hd s)/\St w0 w' (star (R pre) (star (ah b #[.string (bs L)] 9) B))),?_,_,hcell h6.second,by omega,by rw[cS]; omega,by omega,by omega,?_⟩
    ·rintro w7 g (⟨rfl,hgood,h7⟩|⟨rfl,hbad,h7⟩) -
     ·obtain⟨hfr,_,hfl⟩:=mZ hr hgood;obtain⟨k',rfl⟩:∃ k',k=k' + 1:=⟨k-1,by omega⟩;have hat' : at_+(aT s (aI hd s)).length=L.length-t.length+8:=by omega
      refine cF rfl ⟨L.length-(L.length-t.length+8),by omega,_,k',L.length-t.length+8,aI hd s,rfl,rfl,by omega,rfl,by omega,?_,h7⟩;rw[hp,sY hr hgood,<- hat',List.append_assoc]
      congr 2
      rw[hat',show L.drop (L.length-t.length+8)=t.drop 8 from ?_]
      ·rfl
      ·have:L.drop (L.length-t.length+8)=(L.drop at_).drop ((dM s).length+8):=by rw[List.drop_drop]; congr 1; omega
       rw[this,hrest,hcan,<- List.drop_drop,List.drop_left]
     ·have hend:dU L=pre:=by rw[hp,v7 hr hbad,List.append_nil]
      exact cT rfl ⟨rfl,by rw[hend]; exact h7⟩
    ·refine nJ (Js (bs s) (by rw[cS]; omega) (aI hd s)) λ w8 hc8=>⟨_,rfl,?_⟩;rw[e0];have h8:=h6.quiet hc8;refine⟨hcell h8.second,?_⟩;have hcmp:((bs L).extract at_ ((L.length-t.length+8:Nat):Int).toNat).data.toList=dM s++t.take 8:=by
      rw[Int.toNat_natCast,ByteArray.data_extract,Array.toList_extract,List.extract_eq_drop_take'];have e1:(bs L).data.toList=L:=rfl;rw[e1,List.drop_take,hrest,hcan,show L.length-t.length+8-at_=(dM s).length+8 by omega,List.take_append,List.take_of_length_le (by omega)]
      congr 2
      omega
     by_cases hgood:t.take 8=uB 8 (aI hd s)
     ·refine cF (KK _ _ (by rw[hcmp,hgood]; rfl)) ?_;have hmem:pre++[⟨s,aI hd s,at_+(aT s (aI hd s)).length⟩] <+: dU L:=by
       obtain⟨k',rfl⟩:∃ k',k=k' + 1:=⟨k-1,by omega⟩;rw[hp,sY hr hgood];exact⟨_,by rw[List.append_assoc]; rfl⟩
      obtain⟨_,_,hfl⟩:=mZ hr hgood;have hv:Value.agg #[.string (bs s),.int .u64 ((aI hd s:Nat):Int),.int .i64 ((L.length-t.length+8:Nat):Int)]=QD ⟨s,aI hd s,at_+(aT s (aI hd s)).length⟩:=by
       unfold QD;rw[show at_+(aT s (aI hd s)).length=L.length-t.length+8 by omega]
      have:=hY pre _ w8 _ hmem h8.second;rw[<- hv] at this;obtain⟨fn,tmps,asg,bdy,hrun,hR⟩:=this;refine⟨fn,tmps,asg,bdy,hrun,hR.mono λ e w9 ⟨g,he,hg,h9⟩=>⟨g,he,g,rfl,?_⟩⟩;subst hg;exact .inl ⟨rfl,hgood,h9⟩
     ·refine cT ?_ (.inr ⟨rfl,hgood,h8.second⟩);have hne:dM s++t.take 8≠aT s (aI hd s):=λ hh=>hgood (List.append_cancel_left hh);rw[Go.ByteArray.toList_eq,Go.ByteArray.toList_eq,hcmp];simpa using hne
def Xw(l D x b r2 r3:Nat)(lp:Loop)(pre:List lB):aJ :=
 Tp λ v:Value=>Sep [aV l (.loop lp),ah x #[.pointer (some ⟨b,0,none⟩),v,.int .i64 0,.bool false] 131,dD 136 3 v pre.length (pre.flatMap dY),ah r2 #[.pointer (some ⟨x,0,none⟩)] 27,ah r3 #[.int .i64 (bE pre:Int)] 3,aV D (.deferred (some []))]
theorem Oo{w0 w:World}{s:ByteArray}{n1:Int}{x b r2 r3 l D:Nat}{v1:Value}{fn:FuncId}{pre:List lB}{e:lB}{Fr:aJ}(hlen:pre.length<=230584300921)(h:St w0 w (star (Xw l D x b r2 r3 (aK b s n1 x r2 r3 v1 fn D) pre) Fr)) :
  gX prog l #[QD e] w λ g w2=>g=true/\St w0 w2 (star (Xw l D x b r2 r3 (aK b s n1 x r2 r3 v1 fn D) (pre++[e])) Fr):=by
 obtain⟨v,h⟩:=h.ex;have h:=h.flat;refine yg (b1:=b) (s1:=s) (n1:=n1) (r1:=x) (r2:=r2) (r3:=r3) (v1:=v1) (St.obj h) rfl rfl rfl rfl ?_;unfold uA;obtain⟨a,c,hv⟩:=bJ (St.rowOf (h.pull 2));refine aL ?_;have h3:=h.box #[.string (bs []),.int .u64 0,.int .i64 0] 136;obtain⟨y,hy⟩:∃ y,w.heap.size=y:=⟨_,rfl⟩;rw[hy] at h3 ⊢;refine Qe h3.swap _ rfl (by simp[Value.oneCell']) λ w8 h8=>?_;have h8:St w0 w8 (Sep [ah y #[.string (bs e.s),.int .u64 (e.head:Int),.int .i64 (e.till:Int)] 136,aV l (.loop (aK b s n1 x r2 r3 v1 fn D)),ah x #[.pointer (some ⟨b,0,none⟩),v,.int .i64 0,.bool false] 131,dD 136 3 v pre.length (pre.flatMap dY),ah r2 #[.pointer (some ⟨x,0,none⟩)] 27,ah r3 #[.int .i64 (bE pre:Int)] 3,aV D (.deferred (some [])),Fr]):=h8;refine⟨_,St.obj (h8.pull 1),rfl,?_⟩;have p9:=(St.put (h8.pull 1) (.loop { aK b s n1 x r2 r3 v1 fn D with state:=.busy })).quiet (aD.drew _ []);have h9:St w0 _ (Sep [aV l (.loop { aK b s n1 x r2 r3 v1 fn D with state:=.busy }),ah y #[.string (bs e.s),.int .u64 (e.head:Int),.int .i64 (e.till:Int)] 136,ah x #[.pointer (some ⟨b,0,none⟩),v,.int .i64 0,.bool false] 131,dD 136 3 v pre.length (pre.flatMap dY),ah r2 #[.pointer (some ⟨x,0,none⟩)] 27,ah r3 #[.int .i64 (bE pre:Int)] 3,aV D (.deferred (some [])),Fr]):=p9;have c2:=St.boxed (h9.pull 4) 0;have cx:=St.boxed (h9.pull 2) 1;refine⟨_,c2,_,c2,a,pre.length,c,by rw[gY,<- hv]; exact cx,bs e.s,_,_,⟨by rw[gY]; exact St.boxed (h9.pull 1) 0,by rw[gY]; exact St.boxed (h9.pull 1) 1,by rw[gY]; exact St.boxed (h9.pull 1) 2,trivial⟩,?_⟩;refine aL ?_;have n9:=h9.quiet (aD.new _ (.cells #[.string (bs e.s),.int .u64 (e.head:Int),.int .i64 (e.till:Int)] 136) []);have d2:=St.boxed (n9.pull 4) 0;refine⟨by rw[gY,<- hv]; exact St.boxed (n9.pull 2) 1,d2,d2,?_⟩;rw[<- hv];refine Dd XL (n9.pull 3) (m:=1) (news:=dY e) rfl (λ j u hj=>?_) (by simp[dY,Value.oneCell']) (by omega) (by omega) λ v' w19 h19=>?_
 ·rw[gY,cK,cw,if_pos rfl,cv];simpa[dY] using hj
 obtain⟨a3,c3,rfl⟩:=bJ (St.rowOf h19);have h19:St w0 w19 (Sep [dD 136 3 (.slice a3 (pre.length+1) c3) (pre.length+1) (pre.flatMap dY++dY e),aV l (.loop { aK b s n1 x r2 r3 v1 fn D with state:=.busy }),ah y #[.string (bs e.s),.int .u64 (e.head:Int),.int .i64 (e.till:Int)] 136,ah x #[.pointer (some ⟨b,0,none⟩),v,.int .i64 0,.bool false] 131,ah r2 #[.pointer (some ⟨x,0,none⟩)] 27,ah r3 #[.int .i64 (bE pre:Int)] 3,aV D (.deferred (some [])),Fr]):=h19;refine⟨a3,_,c3,rfl,St.boxed (h19.pull 4) 0,?_⟩
 dsimp only[av]
 rw[gY];refine zk (h19.pull 3) (by simp) rfl λ w20 h20=>?_;have h20:St w0 w20 (Sep [ah x #[.pointer (some ⟨b,0,none⟩),(.slice a3 (pre.length+1) c3),.int .i64 0,.bool false] 131,dD 136 3 (.slice a3 (pre.length+1) c3) (pre.length+1) (pre.flatMap dY++dY e),aV l (.loop { aK b s n1 x r2 r3 v1 fn D with state:=.busy }),ah y #[.string (bs e.s),.int .u64 (e.head:Int),.int .i64 (e.till:Int)] 136,ah r2 #[.pointer (some ⟨x,0,none⟩)] 27,ah r3 #[.int .i64 (bE pre:Int)] 3,aV D (.deferred (some [])),Fr]):=h20;refine⟨_,St.boxed (h20.pull 3) 2,zk (h20.pull 5) (by simp) rfl λ w21 h21=>?_⟩;have h21:St w0 w21 (Sep [ah r3 #[.int .i64 (e.till:Int)] 3,ah x #[.pointer (some ⟨b,0,none⟩),(.slice a3 (pre.length+1) c3),.int .i64 0,.bool false] 131,dD 136 3 (.slice a3 (pre.length+1) c3) (pre.length+1) (pre.flatMap dY++dY e),aV l (.loop { aK b s n1 x r2 r3 v1 fn D with state:=.busy }),ah y #[.string (bs e.s),.int .u64 (e.head:Int),.int .i64 (e.till:Int)] 136,ah r2 #[.pointer (some ⟨x,0,none⟩)] 27,aV D (.deferred (some [])),Fr]):=h21;refine⟨_,St.obj (h21.pull 3),rfl,?_⟩;have h22:=St.put (h21.pull 3) (.loop (aK b s n1 x r2 r3 v1 fn D));have h22:St w0 _ (Sep [aV l (.loop (aK b s n1 x r2 r3 v1 fn D)),ah r3 #[.int .i64 (e.till:Int)] 3,ah x #[.pointer (some ⟨b,0,none⟩),(.slice a3 (pre.length+1) c3),.int .i64 0,.bool false] 131,dD 136 3 (.slice a3 (pre.length+1) c3) (pre.length+1) (pre.flatMap dY++dY e),ah y #[.string (bs e.s),.int .u64 (e.head:Int),.int .i64 (e.till:Int)] 136,ah r2 #[.pointer (some ⟨x,0,none⟩)] 27,aV D (.deferred (some [])),Fr]):=h22;have h23:=((h22.pull 4).second);have h23:St w0 _ (Sep [aV l (.loop (aK b s n1 x r2 r3 v1 fn D)),ah r3 #[.int .i64 (e.till:Int)] 3,ah x #[.pointer (some ⟨b,0,none⟩),(.slice a3 (pre.length+1) c3),.int .i64 0,.bool false] 131,dD 136 3 (.slice a3 (pre.length+1) c3) (pre.length+1) (pre.flatMap dY++dY e),ah r2 #[.pointer (some ⟨x,0,none⟩)] 27,aV D (.deferred (some [])),Fr]):=h23;refine St.tg (.slice a3 (pre.length+1) c3) (St.EH _ ?_);have hl:(pre++[e]).length=pre.length+1:=by simp
 have hm:(pre++[e]).flatMap dY=pre.flatMap dY++dY e:=by simp
 rw[hl,hm,IN];exact(((h23.pull 1).push 4).pull 0)
def VI(s:MS):MS:={ s with b:=s.b.take (bE (dU s.b)),dur:=bE (dU s.b) }
theorem GL{s:MS}(hl:s.left=none):s.bL=(true,s):=by unfold MS.bL; rw[hl]
theorem DP(h:Nat)(l:List (List UInt8))(s:List UInt8):bh h (l++[s])=bh h l++aT s (aI (jb h l) s):=by
 rw[pG,gu,Fv,List.append_nil]
theorem BJ:∀ (x:List UInt8) (s:MS),s.left=none->MS.sM x s=(0,{ s with b:=s.b++x })
 | [],s,_=>by unfold MS.sM; simp
 | c :: cs,s,h=>by
  unfold MS.sM;rw[h]
  dsimp only
  rw[BJ cs _ rfl]
  simp
theorem E0{s:MS}{x:List UInt8}(hd:s.down=false)(hl:s.left=none)(hx:(s.b.length:Int)+x.length<=s.size):s.app x=(0,{ s with b:=s.b++x }):=by
 rw[MS.Mx hd (by omega),BJ x s hl]
theorem KE{es:List lB}{s:MS}{rc:List UInt8}(h4:rc.length<=4000)(hd:s.down=false)(hl:s.left=none)(hx:(s.b.length:Int)+(aT rc (aI (dL es) rc)).length<=s.size) :
  Db es false s rc=⟨aI (dL es) rc,0,es++[⟨rc,aI (dL es) rc,0⟩],false,{ s with b:=s.b++aT rc (aI (dL es) rc) }⟩:=by
 unfold Db;rw[if_neg (by omega),if_neg (by decide),E0 hd hl hx,if_pos rfl]
theorem FM{es:List lB}{l:List (List UInt8)}(h:es.map (·.head)=zZ 0 l):dL es=jb 0 l:=by
 unfold dL;rw[<- List.getLast?_map,h,B6]
structure Has (es:List lB) (l:List (List UInt8)):Prop where
 s:es.map (·.s)=l
 h:es.map (·.head)=zZ 0 l
theorem Has.len{es:List lB}{l:List (List UInt8)}(h:Has es l):es.length=l.length:=by rw[<- h.s]; simp
theorem Has.head{es:List lB}{l:List (List UInt8)}(h:Has es l):dL es=jb 0 l:=FM h.h
theorem Has.snoc{es:List lB}{l:List (List UInt8)}(h:Has es l)(x:List UInt8)(t:Nat):Has (es++[⟨x,aI (dL es) x,t⟩]) (l++[x]):=by
 refine⟨by simp[h.s],?_⟩;rw[xj,<- h.head,<- h.h];simp[zZ]
theorem Has.nil:Has [] []:=⟨rfl,rfl⟩
structure Good (es:List lB) (l:List (List UInt8)) (s:MS) (n:Int):Prop where
 has:Has es l
 b:s.b=bh 0 l
 ok:s.Ok
 dn:s.down=false
 lf:s.left=none
 sz:s.size=n
theorem Good.snoc{es:List lB}{l:List (List UInt8)}{s:MS}{n:Int}(h:Good es l s n){x:List UInt8}(hx:x.length<=4000)(hn:((bh 0 (l++[x])).length:Int)<=n) :
  Db es false s x=⟨jb 0 (l++[x]),0,es++[⟨x,jb 0 (l++[x]),0⟩],false,{ s with b:=bh 0 (l++[x]) }⟩/\Good (es++[⟨x,jb 0 (l++[x]),0⟩]) (l++[x]) { s with b:=bh 0 (l++[x]) } n/\(s.app (aT x (aI (dL es) x))).1=0:=by
 have hh:aI (dL es) x=jb 0 (l++[x]):=by rw[h.has.head,DV,nk,K4]
 have hb:s.b++aT x (aI (dL es) x)=bh 0 (l++[x]):=by rw[DP,h.b,<- h.has.head]
 have hbl:=congrArg List.length hb;rw[List.length_append] at hbl;have hfit:(s.b.length:Int)+(aT x (aI (dL es) x)).length<=s.size:=by rw[h.sz]; omega
 have hap:=E0 h.dn h.lf hfit;have hok:=MS.Up h.ok (aT x (aI (dL es) x));refine⟨?_,⟨?_,rfl,?_,h.dn,h.lf,h.sz⟩,by rw[hap]⟩
 ·rw[KE hx h.dn h.lf hfit,hb,hh]
 ·rw[<- hh]; exact h.has.snoc x 0
 ·rw[hap,hb] at hok;exact hok
def ms0(n:Int):MS:=⟨n,[],0,false,none⟩
theorem Good.init(n:Int)(hn : ¬ (n<1\/262144<n)):Good [] [] (ms0 n) n:=⟨Has.nil,rfl,TT hn,rfl,rfl,rfl⟩
theorem HJ(x:List UInt8)(h:Nat):(aT x h).length<=x.length+18:=by
 have h1:=CO x;unfold aT;rw[List.length_append,aN]; omega
theorem B4:∀ (l:List (List UInt8)) (h m:Nat),(∀ x∈l,x.length<=m)->(bh h l).length<=(m+18)*l.length
 | [],_,_,_=>by simp[bh]
 | x :: l,h,m,hl=>by
  have h1:=B4 l (aI h x) m λ y hy=>hl y (by simp[hy]);have h2:=HJ x (aI h x);have h3:=hl x (by simp);rw[gu,List.length_append,List.length_cons,Nat.mul_add]; omega
noncomputable def ZL(b:Nat)(s:ByteArray)(n1:Int)(x r2 r3:Nat)(v:Value)(fn:FuncId)(D:Nat):Loop:={ aK b s n1 x r2 r3 v fn D with state:=.exhausted }
theorem Rw{w0 w:World}{b:Nat}{s:MS}{B:aJ}(h:St w0 w (star (dA b s) B))(ho:s.Ok)(hd:s.down=false)(hl:s.left=none) :
  CP 21 #[.pointer (some ⟨b,0,none⟩)] w (λ r w'=>∃ x,r=.tuple #[.pointer (some ⟨x,0,none⟩),.int .i64 0] /\
   St w0 w' (star (dz x b (dU s.b) (dU s.b).length false) (star (dA b (VI s)) B))):=by
 have hlen:s.b.length<=262144:=by have:=ho.s1; have:=ho.s2; omega
 obtain⟨hc1,hc2,hc3,hc4⟩:=FO s.b;refine NN ?_;unfold TA;refine aq (Sh h) ?_;rintro _ w1 ⟨rfl,rfl⟩;unfold MS.rd;rw[if_neg (by rw[hd]; decide)];refine⟨_,_,rfl,cF rfl ?_⟩;refine aL ?_;obtain⟨x,hx⟩:∃ x,w1.heap.size=x:=⟨_,rfl⟩;have h1:=h.xx.cD #[.pointer (some ⟨b,0,none⟩),.slice none 0 0,.int .i64 0,.bool false] 131;rw[hx] at h1 ⊢;refine aL ?_;obtain⟨r2,hr2⟩:∃ r2,(w1.alloc (.cells #[.pointer (some ⟨b,0,none⟩),.slice none 0 0,.int .i64 0,.bool false] 131)).heap.size=r2:=⟨_,rfl⟩;have h2:=h1.cD #[.pointer none] 27;rw[hr2] at h2 ⊢;refine h2.aM 0 rfl (by decide) rfl λ w3 h3=>aL ?_;obtain⟨r3,hr3⟩:∃ r3,w3.heap.size=r3:=⟨_,rfl⟩;have h4:=h3.cD #[.int .i64 0] 3;rw[hr3] at h4 ⊢;refine h4.aM 0 rfl (by decide) rfl λ w5 h5=>?_;refine aq (R:=_) (FI (K:=λ v w'=>∃ y,v=.func (.func 106) #[] #[.pointer (some ⟨y,0,none⟩)]/\St w0 w' (Sep [ah y #[.string (bs s.b)] 9,ah r3 #[.int .i64 0] 3,ah r2 #[.pointer (some ⟨x,0,none⟩)] 27,ah x #[.pointer (some ⟨b,0,none⟩),.slice none 0 0,.int .i64 0,.bool false] 131,dA b s,B])) (aL ⟨_,rfl,h5.cD _ _⟩)) ?_;rintro _ w6 ⟨y,rfl,h6⟩;refine⟨_,rfl,?_⟩;show cond (true&&bU prog 53) _ False;refine cT (by kernel_rfl) ?_;intro fn;obtain⟨D,hD⟩:∃ D,w6.heap.size=D:=⟨_,rfl⟩;have h7:=h6.Og (.deferred (some []));rw[hD] at h7 ⊢;have hD1:(w6.alloc (.deferred (some []))).heap.size=D+1:=by rw[World.size_alloc,hD]
 have h8:=h7.Og (.loop (aK b (bs s.b) 0 x r2 r3 (.func (.func 106) #[] #[.pointer (some ⟨y,0,none⟩)]) fn D));rw[hD1] at h8;have h9:=(h8.Zs 136 3).aA [1,6,0,5,4,2,3,7,8];have h9:St w0 _ (Sep [aV (D+1) (.loop (aK b (bs s.b) 0 x r2 r3 (.func (.func 106) #[] #[.pointer (some ⟨y,0,none⟩)]) fn D)),ah x #[.pointer (some ⟨b,0,none⟩),.slice none 0 0,.int .i64 0,.bool false] 131,dD 136 3 (.slice none 0 0) 0 [],ah r2 #[.pointer (some ⟨x,0,none⟩)] 27,ah r3 #[.int .i64 0] 3,aV D (.deferred (some [])),ah y #[.string (bs s.b)] 9,dA b s,B]):=h9
 have h10:=St.split (m:=[ah y #[.string (bs s.b)] 9,dA b s,B]) [_,_,_,_,_,_] h9;have h11:=St.tg (f:=λ v:Value=>Sep [aV (D+1) (.loop (aK b (bs s.b) 0 x r2 r3 (.func (.func 106) #[] #[.pointer (some ⟨y,0,none⟩)]) fn D)),ah x #[.pointer (some ⟨b,0,none⟩),v,.int .i64 0,.bool false] 131,dD 136 3 v 0 [],ah r2 #[.pointer (some ⟨x,0,none⟩)] 27,ah r3 #[.int .i64 0] 3,aV D (.deferred (some []))]) (.slice none 0 0) h10
 obtain⟨es,hes⟩:∃ es,dU s.b=es:=⟨_,rfl⟩;refine aq (Vj (L:=s.b) (by omega) (R:=Xw (D+1) D x b r2 r3 (aK b (bs s.b) 0 x r2 r3 (.func (.func 106) #[] #[.pointer (some ⟨y,0,none⟩)]) fn D)) (B:=Sep [dA b s,B]) (λ pre e w1 Fr hpre hst=>?_) h11) ?_
 ·refine Oo ?_ hst;have h1:=hpre.length_le;have h2:=B8 s.b.length s.b 0 0;simp only[List.length_append,List.length_cons,List.length_nil] at h1;unfold dU at h1;omega
 ·rintro _ w7 ⟨rfl,hv⟩;obtain⟨v,hv⟩:=hv.ex;have hv:=St.cat (m:=[ah y #[.string (bs s.b)] 9,dA b s,B]) hv;rw[hes] at hv hc1 hc2 hc3 hc4;rw[VI,hes];have hv:St w0 w7 (Sep [aV (D+1) (.loop (aK b (bs s.b) 0 x r2 r3 (.func (.func 106) #[] #[.pointer (some ⟨y,0,none⟩)]) fn D)),ah x #[.pointer (some ⟨b,0,none⟩),v,.int .i64 0,.bool false] 131,dD 136 3 v es.length (es.flatMap dY),ah r2 #[.pointer (some ⟨x,0,none⟩)] 27,ah r3 #[.int .i64 (bE es:Int)] 3,aV D (.deferred (some [])),ah y #[.string (bs s.b)] 9,dA b s,B]):=hv
  obtain⟨a,c,rfl⟩:=bJ (hv.rowAt 2 rfl);refine⟨⟨_,rfl⟩,_,hv.mg 0 rfl,by simp[aK],?_⟩;have k2:=(hv.putAt 0 rfl (.loop { aK b (bs s.b) 0 x r2 r3 (.func (.func 106) #[] #[.pointer (some ⟨y,0,none⟩)]) fn D with state:=.exhausted })).quiet (aD.drew _ []);refine⟨_,k2.ag 3 rfl 0,_,k2.ag 3 rfl 0,a,_,c,by rw[gY]; exact k2.ag 1 rfl 1,?_⟩
  dsimp only[av]
  rw[gY];refine k2.aM 1 rfl (by show 2<4; decide) rfl λ w8 k3=>?_;have k3:St w0 w8 (Sep [aV (D+1) (.loop (ZL b (bs s.b) 0 x r2 r3 (.func (.func 106) #[] #[.pointer (some ⟨y,0,none⟩)]) fn D)),ah x #[.pointer (some ⟨b,0,none⟩),.slice a es.length c,.int .i64 (es.length:Int),.bool false] 131,dD 136 3 (.slice a es.length c) es.length (es.flatMap dY),ah r2 #[.pointer (some ⟨x,0,none⟩)] 27,ah r3 #[.int .i64 (bE es:Int)] 3,aV D (.deferred (some [])),ah y #[.string (bs s.b)] 9,dA b s,B]):=k3
  generalize ZL b (bs s.b) 0 x r2 r3 (.func (.func 106) #[] #[.pointer (some ⟨y,0,none⟩)]) fn D=lp at k3;refine⟨λ w'=>St w0 w' (Sep [aV (D+1) (.loop lp),ah x #[.pointer (some ⟨b,0,none⟩),.slice a es.length c,.int .i64 (es.length:Int),.bool false] 131,dD 136 3 (.slice a es.length c) es.length (es.flatMap dY),ah r2 #[.pointer (some ⟨x,0,none⟩)] 27,ah r3 #[.int .i64 (bE es:Int)] 3,aV D (.deferred (some [])),ah y #[.string (bs s.b)] 9,dA b (s.cut (bE es)),B]),λ w9 k9 _=>?_,?_⟩
  ·refine⟨λ w'=>St w0 w' (Sep [aV (D+1) (.loop lp),ah x #[.pointer (some ⟨b,0,none⟩),.slice a es.length c,.int .i64 (es.length:Int),.bool false] 131,dD 136 3 (.slice a es.length c) es.length (es.flatMap dY),ah r2 #[.pointer (some ⟨x,0,none⟩)] 27,ah r3 #[.int .i64 (bE es:Int)] 3,aV D (.deferred (some [])),ah y #[.string (bs s.b)] 9,dA b { s with b:=s.b.take (bE es),dur:=bE es },B]),λ w10 k10 _=>?_,?_⟩
   ·refine⟨_,k10.ag 3 rfl 0,k10.mg 5 rfl,x,rfl,?_⟩;have k11:=(k10.putAt 5 rfl (.deferred none)).aA [1,2,7,8];have k12:=St.triple k11.join;exact St.tg (f:=λ v:Value=>star (ah x #[.pointer (some ⟨b,0,none⟩),v,.int .i64 (es.length:Int),.bool false] 131) (dD 136 3 v es.length (es.flatMap dY))) (.slice a es.length c) k12
   ·refine aq (HC (k9.out 7 rfl)) ?_;rintro _ w10 ⟨rfl,rfl⟩;refine⟨_,rfl,aq (SA (k9.out 7 rfl)) ?_⟩;rintro _ w11 ⟨rfl,rfl⟩;refine⟨_,rfl,?_⟩;have hbl:(s.cut (bE es)).b.length=bE es:=by
     show(s.b.take (bE es)).length=_;rw[List.length_take]; omega
    have hdu:(s.cut (bE es)).dur=min s.dur (bE es):=rfl
    by_cases hlt:(s.cut (bE es)).dur<(s.cut (bE es)).b.length
    ·refine cT (dT (by omega)) (aq (SP (k9.out 7 rfl) (MS.UE ho _)) ?_);have hsyn:(s.cut (bE es)).syn=(0,{ s with b:=s.b.take (bE es),dur:=bE es }):=by
      unfold MS.syn;rw[if_neg (by show ¬ s.down=true; rw[hd]; decide),GL (by exact hl),if_pos rfl,hbl];rfl
     rw[hsyn];rintro _ w12 ⟨rfl,k12⟩;exact⟨_,rfl,cF rfl (k12.back (by show 7<9; decide))⟩
    ·refine cF (dF (by omega)) ?_;have:s.cut (bE es)={ s with b:=s.b.take (bE es),dur:=bE es }:=by
      unfold MS.cut;rw[show min s.dur (bE es)=bE es by omega]
     rw[this] at k9;exact k9
  ·refine⟨_,k3.ag 4 rfl 0,?_⟩;show cond (decide ((bE es:Int)<((s.b.length:Nat):Int))) _ _
   by_cases hlt:bE es<s.b.length
   ·refine cT (dT (by omega)) ⟨_,k3.ag 4 rfl 0,aq (GU (k3.out 7 rfl) ho _) ?_⟩;have htru:s.Ko (bE es:Int)=(0,s.cut (bE es)):=by
     unfold MS.Ko;rw[if_neg (by rw[hd]; decide),if_neg (by omega),GL hl,if_pos rfl]
     simp
    rw[htru];rintro _ w12 ⟨rfl,k12⟩;exact⟨_,rfl,cF rfl (k12.back (by show 7<9; decide))⟩
   ·refine cF (dF (by omega)) ?_;have:s.cut (bE es)=s:=by
     unfold MS.cut;have:=ho.d;rw[List.take_of_length_le (by omega),show min s.dur (bE es)=s.dur by omega]
    rw[this];exact k3
theorem Av:∀ (k y i x:Nat) (t:List UInt8),k+i=9->y<2*128 ^ k->(0<i->0<y)->yo (ji k y++t) i x=.inr (x+y*2 ^ (7*i),t)
 | 0,y,i,x,t,hi,hy,hp=>by
  obtain rfl:i=9:=by omega
  have:=hp (by decide);obtain rfl:y=1:=by simp at hy; omega
  rfl
 | k+1,y,i,x,t,hi,hy,hp=>by
  have h9 : ¬ i=9:=by omega
  unfold ji
  by_cases h:y<128
  ·rw[if_pos h];have hb:(UInt8.ofNat (y%256)).toNat=y:=by rw[UInt8.toNat_ofNat']; omega
   show yo (UInt8.ofNat (y%256) :: t) i x=_;unfold yo;rw[hb,if_neg (λ hh=>h9 hh.1),if_neg (by omega),if_neg (λ hh=>by have:=hp hh.2; omega)]
  ·rw[if_neg h];have hb:(UInt8.ofNat (y%128+128)).toNat=y%128+128:=by rw[UInt8.toNat_ofNat']; omega
   show yo (UInt8.ofNat (y%128+128) :: (ji k (y / 128)++t)) i x=_;unfold yo;rw[hb,if_neg (λ hh=>h9 hh.1),if_pos (by omega),Av k (y / 128) (i+1) _ t (by omega) ?_ (λ _=>by omega)]
   ·congr 2
    rw[show(y%128+128)%128=y%128 by omega,show 7*(i+1)=7*i+7 by omega,Nat.pow_add];generalize 2 ^ (7*i)=p;have h1:y=128*(y / 128)+y%128:=(Nat.div_add_mod y 128).symm;have h2:y / 128*(p*2 ^ 7)=128*(y / 128)*p:=by
     rw[show(2:Nat) ^ 7=128 from rfl,Nat.mul_comm p 128,<- Nat.mul_assoc,Nat.mul_comm (y / 128) 128]
    rw[h2,Nat.add_assoc,<- Nat.add_mul,Nat.add_comm (y%128),<- h1]
   ·rw[Nat.pow_succ] at hy;omega
theorem At{n most:Nat}(t:List UInt8)(h:n<=most)(h6:n<18446744073709551616):rU ⟨jj n++t,0⟩ most=(n,⟨t,0⟩):=by
 have:dw (jj n++t) most=.inr (n,t):=by
  unfold dw jj;rw[Av 9 n 0 0 t rfl (by omega) (by omega)];simp only[Nat.mul_zero,Nat.pow_zero,Nat.mul_one,Nat.zero_add];rw[if_neg (by omega)]
 unfold rU;rw[if_pos rfl,this]
theorem VQ{s:List UInt8}(t:List UInt8)(h:s.length<=4000):rT ⟨dM s++t,0⟩=(s,⟨t,0⟩):=by
 have:dw (dM s++t) 4000=.inr (s.length,s++t):=by
  unfold dM dw jj;rw[List.append_assoc,Av 9 s.length 0 0 (s++t) rfl (by omega) (by omega)];simp only[Nat.mul_zero,Nat.pow_zero,Nat.mul_one,Nat.zero_add];rw[if_neg (by omega)]
 unfold rT;rw[if_pos rfl,this]
 dsimp only
 rw[if_neg (by simp),List.take_left,List.drop_left]
def lU(s:List UInt8):Nat×RS:=let p:=rU ⟨s,0⟩ 10; (p.1,if p.1=0/\p.2.e=0 then ⟨p.2.l,2⟩ else p.2)
def Dt(k:Int)(σ:RS):Nat×RS:=if fB k then rU σ 7 else (0,σ)
def Dv(k:Int)(σ:RS):Nat×RS:=if fR k then rU σ 29 else (0,σ)
def PU:Nat->RS->I6×RS
 | 0,σ=>(z6,σ)
 | k+1,σ=>let p:=PU k σ; let q:=rU p.2 4; (p.1.put k (q.1:Nat),q.2)
def Dy(k:Int)(σ:RS):I6×RS:=if fW k then PU 6 σ else (z6,σ)
def Dw(k:Int)(σ:RS):List UInt8×RS:=if fT k then rT σ else ([],σ)
def Du(k:Int)(σ:RS):Nat×RS:=if fD k then rU σ 18446744073709551615 else (0,σ)
def Hz(s:List UInt8):Ev×Int :=
 let a:=lU s; let k:Int:=(a.1:Nat); let b:=Dt k a.2; let r:=Dv k b.2; let u:=Dy k r.2; let t:=Dw k u.2; let d:=Du k t.2
 (⟨k,(b.1:Nat),(r.1:Nat),u.1,t.1,(d.1:Nat)⟩,rE d.2)
def yD:Ev:=⟨0,0,0,z6,[],0⟩
def bX(s:List UInt8):Ev×Int:=if 4000<s.length then (yD,3) else if (Hz s).2=0 then ((Hz s).1,0) else (yD,(Hz s).2)
theorem Ji(s:List UInt8):(bX s).1.In:=by
 have h0:yD.In:=⟨by decide⟩;unfold bX
 split
 ·exact h0
 ·split
  ·refine⟨?_⟩;show 0<=(((Du _ _).1:Nat):Int)/\(((Du _ _).1:Nat):Int)<18446744073709551616;unfold Du
   split
   ·have:=Gu (Dw ((lU s).1:Nat) (Dy ((lU s).1:Nat) (Dv ((lU s).1:Nat) (Dt ((lU s).1:Nat) (lU s).2).2).2).2).2 18446744073709551615;omega
   ·show(0:Int)<=0/\(0:Int)<18446744073709551616
    decide
  ·exact h0
theorem Jh(u:I6)(t:List UInt8)(h:I6.Le u 4):∀ k,k<=6->PU k ⟨(u.l.take k).flatMap nB++t,0⟩=(I6.mix k u z6,⟨t,0⟩)
 | 0,_=>rfl
 | k+1,hk=>by
  have hk' : k<6:=by omega
  have hw:=h k hk';have e1:(u.l.take (k+1)).flatMap nB++t=(u.l.take k).flatMap nB++(jj (u.at' k).toNat++t):=by
   rw[aO (u.nu k hk'),List.flatMap_append,List.append_assoc]; simp[nB]
  rw[PU,e1,show PU k ⟨(u.l.take k).flatMap nB++(jj (u.at' k).toNat++t),0⟩=(I6.mix k u z6,⟨jj (u.at' k).toNat++t,0⟩) from Jh u _ h k (by omega)]
  dsimp only
  rw[At t (by omega) (by omega)];refine Prod.ext ?_ rfl;refine I6.ext' λ j hj=>?_;show((I6.mix k u z6).put k _).at' j=_;rw[I6.wv _ _ _ _ hk' hj,I6.cH _ _ _ _ hj,I6.cH _ _ _ _ hj]
  by_cases e:j=k
  ·subst e; rw[if_pos rfl,if_pos (by omega)]; omega
  ·rw[if_neg e]
   by_cases h2:j<k
   ·rw[if_pos h2,if_pos (by omega)]
   ·rw[if_neg h2,if_neg (by omega)]
theorem Qu{e:Ev}(h:cQ e=0)(hi:e.In):bX (aW e)=(e,0):=by
 have hR:=ju h hi.d;have hb:e=dr e/\1<=e.kind:=by
  unfold cQ at h
  split at h
  ·cases h
  ·rename_i g;exact⟨Decidable.byContradiction λ x=>g (.inr x),by omega⟩
 have hl:=BV h;have hk:=hR.k; have hB:=hR.b; have hr:=hR.r; have hw:=hR.w; have ht:=hR.t; have hd:=hR.d;obtain⟨hbe,hk1⟩:=hb;have b1:fB e.kind=false->e.bidder=0:=λ hf=>by rw[hbe]; simp[dr,hf]
 have b2:fR e.kind=false->e.round=0:=λ hf=>by rw[hbe]; simp[dr,hf]
 have b3:fW e.kind=false->e.want=z6:=λ hf=>by rw[hbe]; simp[dr,hf]
 have b4:fT e.kind=false->e.text=[]:=λ hf=>by rw[hbe]; simp[dr,hf]
 have b5:fD e.kind=false->e.digest=0:=λ hf=>by rw[hbe]; simp[dr,hf]
 have cast:∀ {n:Int},0<=n->((n.toNat:Nat):Int)=n:=λ h=>Int.toNat_of_nonneg h;let t5:=if fD e.kind then nB e.digest else []
 let t4:=(if fT e.kind then dM e.text else [])++t5;let t3:=(if fW e.kind then e.want.l.flatMap nB else [])++t4;let t2:=(if fR e.kind then nB e.round else [])++t3;let t1:=(if fB e.kind then nB e.bidder else [])++t2;have e0:aW e=nB e.kind++t1:=by simp only[aW,t1,t2,t3,t4,t5,List.append_assoc]
 have s0:lU (aW e)=(e.kind.toNat,⟨t1,0⟩):=by
  unfold lU;rw[e0,nB,At t1 (by omega) (by omega)]
  dsimp only
  rw[if_neg (by omega)]
 have s1:Dt e.kind ⟨t1,0⟩=(e.bidder.toNat,⟨t2,0⟩):=by
  unfold Dt
  cases hf:fB e.kind with
  | true=>simp only[t1,hf,if_true]; exact At t2 (by omega) (by omega)
  | false=>simp only[t1,hf,b1 hf]; rfl
 have s2:Dv e.kind ⟨t2,0⟩=(e.round.toNat,⟨t3,0⟩):=by
  unfold Dv
  cases hf:fR e.kind with
  | true=>simp only[t2,hf,if_true]; exact At t3 (by omega) (by omega)
  | false=>simp only[t2,hf,b2 hf]; rfl
 have s3:Dy e.kind ⟨t3,0⟩=(e.want,⟨t4,0⟩):=by
  unfold Dy
  cases hf:fW e.kind with
  | true =>
   simp only[t3,hf,if_true];have:=Jh e.want t4 hw 6 (by decide);rw[I6.yM] at this;exact this
  | false=>simp only[t3,hf,b3 hf]; rfl
 have s4:Dw e.kind ⟨t4,0⟩=(e.text,⟨t5,0⟩):=by
  unfold Dw
  cases hf:fT e.kind with
  | true=>simp only[t4,hf,if_true]; exact VQ t5 ht
  | false=>simp only[t4,hf,b4 hf]; rfl
 have s5:Du e.kind ⟨t5,0⟩=(e.digest.toNat,⟨[],0⟩):=by
  unfold Du
  cases hf:fD e.kind with
  | true =>
   simp only[t5,hf,if_true];have:=At (n:=e.digest.toNat) (most:=18446744073709551615) [] (by omega) (by omega);rw[List.append_nil] at this;exact this
  | false=>simp only[t5,hf,b5 hf]; rfl
 have hA:Hz (aW e)=(e,0):=by
  unfold Hz;rw[s0]
  dsimp only
  rw[cast hk.1,s1]
  dsimp only
  rw[s2]
  dsimp only
  rw[s3]
  dsimp only
  rw[s4]
  dsimp only
  rw[s5]
  dsimp only
  rw[cast hB.1,cast hr.1,cast hd.1];rfl
 unfold bX;rw[if_neg (by omega),hA,if_pos rfl]
def uj(a:ByteArray)(w:World)(K:KP):=au w (.cells #[qz,qz,qz,qz,qz,qz,qz,qz,qz,.string (bs []),.int .u64 0] 43) λ b c=>cond (decide (((a.size:Nat):Int)>(4000:Int))) (aU (qd b 0) 0 [qz,qz,qz,qz,qz,qz,qz,qz,qz,.string (bs []),.int .u64 0] c λ d=>∃ e f g,∃ h:I6,∃ i j,af d (qd b 0) 0 (iv e :: iv f :: iv g :: h.on [.string i,.int .u64 j])/\K (.tuple #[.agg (iv e :: iv f :: iv g :: h.on [.string i,.int .u64 j]:List Value).toArray,iv 3]) d) (CC 36 #[.string a] c λ a c=>∃ d,a=.returned (.pointer d)/\CC 37 #[.pointer d,.int .u64 10] c λ a c=>∃ e,a=.returned (.int .u64 e)/\au c (.cells #[qz,qz,qz,qz,qz,qz,qz,qz,qz,.string (bs []),.int .u64 0] 43) λ a c=>aU (qd a 0) 0 [iv (IntKind.i64.wrap e),qz,qz,qz,qz,qz,qz,qz,qz,.string (bs []),.int .u64 0] c λ c=>∃ e:qW,(∀ f,e f->∀ g:qv,∃ g,f.cell? (qd a 0)=some (iv g)/\CC 39 #[iv g] f λ f g=>∃ h,f=.returned (iv h)/\∃ f:qW,(∀ i,f i->∀ j:qv,∃ j:qW,(∀ k,j k->∀ l:qv,∃ l:qW,(∀ m,l m->∀ n:qv,∃ n:qW,(∀ o,n o->∀ p:qv,∃ p:qW,(∀ q,p q->∀ r:qv,CC 41 #[.pointer d] q λ q r=>∃ s,q=.returned (iv s)/\cond (s !=0) (aU (qd b 0) 0 [qz,qz,qz,qz,qz,qz,qz,qz,qz,.string (bs []),.int .u64 0] r λ q=>∃ t u v,∃ x:I6,∃ y z,af q (qd b 0) 0 (iv t :: iv u :: iv v :: x.on [.string y,.int .u64 z])/\K (.tuple #[.agg (iv t :: iv u :: iv v :: x.on [.string y,.int .u64 z]:List Value).toArray,iv s]) q) (∃ q s t,∃ u:I6,∃ v x,af r (qd a 0) 0 (iv q :: iv s :: iv t :: u.on [.string v,.int .u64 x])/\aU (qd b 0) 0 (iv q :: iv s :: iv t :: u.on [.string v,.int .u64 x]) r λ q=>∃ r s t,∃ u:I6,∃ v x,af q (qd b 0) 0 (iv r :: iv s :: iv t :: u.on [.string v,.int .u64 x])/\K (.tuple #[.agg (iv r :: iv s :: iv t :: u.on [.string v,.int .u64 x]:List Value).toArray,qz]) q))/\cond ((iu .i64 h 16) !=(0:Int)) (CC 37 #[.pointer d,.int .u64 18446744073709551615] o λ b q=>∃ r,b=.returned (.int .u64 r)/\aS q (qd a 10) (.int .u64 r) λ b=>p b) (p o))/\cond ((iu .i64 h 4) !=(0:Int)) (CC 40 #[.pointer d,iv 4000] m λ b o=>∃ p,b=.returned (.string p)/\aS o (qd a 9) (.string p) λ b=>n b) (n m))/\cond ((iu .i64 h 2) !=(0:Int)) (∃ b:Int->qN,(∃ m,b 0 k m)/\∀ n m o,b o n m->∀ p:qv,cond (decide (o<6)) (CC 37 #[.pointer d,.int .u64 4] n λ p q=>∃ r,p=.returned (.int .u64 r)/\0<=o/\o<6/\aS q (Addr.add (qd a 3) ((o).toNat*1)) (iv (IntKind.i64.wrap r)) λ p=>∃ q,q<m/\b (IntKind.i64.wrap (o+1)) p q) (l n)) (l k))/\cond ((iu .i64 h 8) !=(0:Int)) (CC 37 #[.pointer d,.int .u64 29] i λ b k=>∃ l,b=.returned (.int .u64 l)/\aS k (qd a 2) (iv (IntKind.i64.wrap l)) λ b=>j b) (j i))/\cond ((iu .i64 h 1) !=(0:Int)) (CC 37 #[.pointer d,.int .u64 7] g λ b h=>∃ i,b=.returned (.int .u64 i)/\aS h (qd a 1) (iv (IntKind.i64.wrap i)) λ b=>f b) (f g))/\∃ b,c.cell? (qd a 0)=some (iv b)/\cond (b==0) (CC 38 #[.pointer d,iv 2] c λ a b=>a=.returned (.tuple #[])/\e b) (e c))
theorem xW{s1 w K}(h:uj s1 w K):CP 14 #[.string s1] w K:=an (aF [(31,[]),(127,[]),(255,[]),(511,[]),(1023,[]),(2047,[]),(16362,[(44,.s (.int .i64))])]) func14 (by kernel_rfl) (by kernel_rfl) h
theorem UN(e:Ev)(k:Nat)(x:Int)(hk:k<6):e.cells.toArray.setIfInBounds (3+k) (iv x)=({ e with want:=e.want.put k x }:Ev).cells.toArray:=by
 match k,hk with
 | 0,_|1,_|2,_|3,_|4,_|5,_=>rfl
theorem KS(s:List UInt8):(lU s).2.l.length<=s.length:=by
 have:=Ej ⟨s,0⟩ 10;unfold lU
 dsimp only
 split
 ·exact this
 ·exact this
theorem MP(k:Int)(σ:RS):(Dt k σ).2.l.length<=σ.l.length:=by unfold Dt; split; exact Ej _ _; exact Nat.le_refl _
theorem MQ(k:Int)(σ:RS):(Dv k σ).2.l.length<=σ.l.length:=by unfold Dv; split; exact Ej _ _; exact Nat.le_refl _
theorem Dx(σ:RS):∀ k,(PU k σ).2.l.length<=σ.l.length
 | 0=>Nat.le_refl _
 | k+1=>Nat.le_trans (Ej _ _) (Dx σ k)
theorem MT(k:Int)(σ:RS):(Dy k σ).2.l.length<=σ.l.length:=by unfold Dy; split; exact Dx _ _; exact Nat.le_refl _
theorem MR(k:Int)(σ:RS):(Dw k σ).2.l.length<=σ.l.length:=by unfold Dw; split; exact(VR _).1; exact Nat.le_refl _
theorem S7{w0 w:World}{L:List aJ}(h:St w0 w (Sep L))(l:List UInt8):CP 36 #[sv l] w (λ r w'=>∃ x,r=.pointer (some ⟨x,0,none⟩)/\St w0 w' (Sep (yT x ⟨l,0⟩ :: L))) :=
 Ks ⟨_,rfl,h.cD _ _⟩
theorem Fg(w:World)(s:List UInt8):CP 14 #[sv s] w (λ r w'=>r=.tuple #[(bX s).1.v,iv (bX s).2]/\aD w w' []):=by
 refine xW ?_;unfold uj;refine(St.start w).one.aB yD.cells.toArray λ r1 w1 s1=>?_
 by_cases h4:4000<s.length
 ·refine cT (dT (by rw[gZ]; omega)) (s1.aE 0 rfl yD.cells rfl (Ev.one _) λ w2 s2=>⟨_,_,_,yD.want,_,_,s2.cellsIn 0 rfl,?_,s2.aC⟩);unfold bX;rw[if_pos h4]; rfl
 refine cF (dF (by rw[gZ]; omega)) (aq (S7 s1 s) ?_);rintro v w3 ⟨x,rfl,s3⟩;refine⟨_,rfl,aq (OF s3 (show s.length<=_ by omega) 10) ?_⟩;rintro v w4 ⟨rfl,s4⟩;have s4:St w w4 (Sep [yT x (rU ⟨s,0⟩ 10).2,ah r1 yD.cells.toArray 43,emp]):=s4;refine⟨_,rfl,s4.aB yD.cells.toArray λ r2 w5 s5=>?_⟩;have hk:=Gu ⟨s,0⟩ 10;have W:∀ {n:Nat},n<=29->IntKind.i64.wrap (n:Int)=n:=λ h=>aH ⟨by omega,by omega⟩;rw[W (by omega)];obtain⟨a,ha⟩:∃ a,lU s=a:=⟨_,rfl⟩;have ha1:(rU ⟨s,0⟩ 10).1=a.1:=by rw[<- ha]; rfl
 have hal:a.2.l.length<=s.length:=by rw[<- ha]; exact KS s
 let L:Ev->RS->List aJ:=λ e σ=>[ah r2 e.cells.toArray 43,yT x σ,ah r1 yD.cells.toArray 43,emp];rw[ha1];refine s5.aE 0 rfl (⟨(a.1:Nat),0,0,z6,[],0⟩:Ev).cells rfl (Ev.one _) λ w6 s6=>?_;refine⟨λ w'=>St w w' (Sep (L ⟨(a.1:Nat),0,0,z6,[],0⟩ a.2)),?_,?_⟩
 rotate_left
 ·refine⟨_,s6.ag 0 rfl 0,?_⟩
  by_cases h0:a.1=0
  ·refine cT (by simp[h0]) ?_;have hA:a.2=if (rU ⟨s,0⟩ 10).2.e=0 then ⟨(rU ⟨s,0⟩ 10).2.l,2⟩ else (rU ⟨s,0⟩ 10).2:=by
    rw[<- ha];unfold lU
    dsimp only
    by_cases g:(rU ⟨s,0⟩ 10).2.e=0
    ·rw[if_pos g,if_pos ⟨by rw[ha1,h0],g⟩]
    ·rw[if_neg g,if_neg λ h=>g h.2]
   by_cases g:(rU ⟨s,0⟩ 10).2.e=0
   ·rw[if_pos g] at hA;refine aq (XC (s6.out 1 rfl) 2 g) ?_;rintro v w28 ⟨rfl,s7⟩;rw[hA];exact⟨rfl,s7.back (i:=1) (by show 1<4; decide)⟩
   ·rw[if_neg g] at hA;refine aq (XB (s6.out 1 rfl) 2 g) ?_;rintro v w28 ⟨rfl,rfl⟩;rw[hA];exact⟨rfl,s6⟩
  ·refine cF (by simp; omega) ?_;have hA:a.2=(rU ⟨s,0⟩ 10).2:=by
    rw[<- ha];unfold lU
    dsimp only
    rw[if_neg λ h=>h0 (by rw[<- ha1,h.1])]
   rw[hA]; exact s6
 clear s1 s3 s4 s5 s6;rintro w7 s7 -;refine⟨_,s7.ag 0 rfl 0,aq (zQ w7 (a.1:Nat)) ?_⟩;rintro v w8 ⟨rfl,rfl⟩;refine⟨_,rfl,?_⟩;obtain⟨g1,g2,g3,g4,g5⟩:=zR (a.1:Nat);rw[g1,g2,g3,g4,g5];obtain⟨b,hb⟩:∃ b,Dt (a.1:Nat) a.2=b:=⟨_,rfl⟩;have hbl:b.2.l.length<=s.length:=by rw[<- hb]; exact Nat.le_trans (MP _ _) hal
 refine⟨λ w'=>St w w' (Sep (L ⟨(a.1:Nat),(b.1:Nat),0,z6,[],0⟩ b.2)),?_,?_⟩
 rotate_left
 ·cases hf:fB (a.1:Nat) with
  | true =>
   have e1:b=rU a.2 7:=by rw[<- hb]; unfold Dt; rw[if_pos hf]
   have hle:=Gu a.2 7;refine cT rfl (aq (OF (s7.out 1 rfl) (by omega) 7) ?_);rintro v w26 ⟨rfl,s8⟩;have s8:=s8.back (i:=1) (by show 1<4; decide);rw[<- e1] at hle s8 ⊢;refine⟨_,rfl,?_⟩;rw[W (by omega)];exact s8.aM 0 rfl (j:=1) (by show 1<11; decide) rfl λ w27 s9=>s9
  | false =>
   have e1:b=(0,a.2):=by rw[<- hb]; unfold Dt; rw[if_neg (by rw[hf]; decide)]
   rw[e1];exact cF rfl s7
 clear s7;rintro w9 s9 -;obtain⟨c,hc⟩:∃ c,Dv (a.1:Nat) b.2=c:=⟨_,rfl⟩;have hcl:c.2.l.length<=s.length:=by rw[<- hc]; exact Nat.le_trans (MQ _ _) hbl
 refine⟨λ w'=>St w w' (Sep (L ⟨(a.1:Nat),(b.1:Nat),(c.1:Nat),z6,[],0⟩ c.2)),?_,?_⟩
 rotate_left
 ·cases hf:fR (a.1:Nat) with
  | true =>
   have e1:c=rU b.2 29:=by rw[<- hc]; unfold Dv; rw[if_pos hf]
   have hle:=Gu b.2 29;refine cT rfl (aq (OF (s9.out 1 rfl) (by omega) 29) ?_);rintro v w26 ⟨rfl,s8⟩;have s8:=s8.back (i:=1) (by show 1<4; decide);rw[<- e1] at hle s8 ⊢;refine⟨_,rfl,?_⟩;rw[W (by omega)];exact s8.aM 0 rfl (j:=2) (by show 2<11; decide) rfl λ w27 s9=>s9
  | false =>
   have e1:c=(0,b.2):=by rw[<- hc]; unfold Dv; rw[if_neg (by rw[hf]; decide)]
   rw[e1];exact cF rfl s9
 clear s9;rintro w10 s10 -;obtain⟨u,hu⟩:∃ u,Dy (a.1:Nat) c.2=u:=⟨_,rfl⟩;have hul:u.2.l.length<=s.length:=by rw[<- hu]; exact Nat.le_trans (MT _ _) hcl
 refine⟨λ w'=>St w w' (Sep (L ⟨(a.1:Nat),(b.1:Nat),(c.1:Nat),u.1,[],0⟩ u.2)),?_,?_⟩
 rotate_left
 ·cases hf:fW (a.1:Nat) with
  | true =>
   have e1:u=PU 6 c.2:=by rw[<- hu]; unfold Dy; rw[if_pos hf]
   refine cT rfl ⟨λ n w' m=>∃ k:Nat,n=k/\k<=6/\m=6-k/\St w w' (Sep (L ⟨(a.1:Nat),(b.1:Nat),(c.1:Nat),(PU k c.2).1,[],0⟩ (PU k c.2).2)),⟨6,0,rfl,by omega,by omega,s10⟩,?_⟩;rintro w21 m n ⟨k,rfl,hk6,hm,s11⟩ -
   by_cases hlt:(k:Int)<6
   ·have hk' : k<6:=by omega
    have hl:=Dx c.2 k;have hle:=Gu (PU k c.2).2 4;refine cT (dT hlt) (aq (OF (s11.out 1 rfl) (by omega) 4) ?_);rintro v w22 ⟨rfl,s12⟩;have s12:=s12.back (i:=1) (by show 1<4; decide);refine⟨_,rfl,by omega,by omega,?_⟩;rw[W (by omega),aZ,Int.toNat_natCast,Nat.mul_one];refine s12.aM 0 rfl (j:=3+k) (by show 3+k<11; omega) rfl λ w23 s13=>⟨6-(k+1),by omega,k+1,inc (by decide) hk',by omega,rfl,?_⟩;rw[UN _ _ _ hk'] at s13;exact s13
   ·obtain rfl:k=6:=by omega
    rw[e1];exact cF (by simp) s11
  | false =>
   have e1:u=(z6,c.2):=by rw[<- hu]; unfold Dy; rw[if_neg (by rw[hf]; decide)]
   rw[e1];exact cF rfl s10
 clear s10;rintro w11 s11 -;obtain⟨t,ht⟩:∃ t,Dw (a.1:Nat) u.2=t:=⟨_,rfl⟩;have htl:t.2.l.length<=s.length:=by rw[<- ht]; exact Nat.le_trans (MR _ _) hul
 refine⟨λ w'=>St w w' (Sep (L ⟨(a.1:Nat),(b.1:Nat),(c.1:Nat),u.1,t.1,0⟩ t.2)),?_,?_⟩
 rotate_left
 ·cases hf:fT (a.1:Nat) with
  | true =>
   have e1:t=rT u.2:=by rw[<- ht]; unfold Dw; rw[if_pos hf]
   refine cT rfl (aq (Zq (s11.out 1 rfl) (by omega)) ?_);rintro v w26 ⟨rfl,s8⟩;have s8:=s8.back (i:=1) (by show 1<4; decide);rw[<- e1] at s8 ⊢;exact⟨_,rfl,s8.aM 0 rfl (j:=9) (by show 9<11; decide) rfl λ w27 s9=>s9⟩
  | false =>
   have e1:t=([],u.2):=by rw[<- ht]; unfold Dw; rw[if_neg (by rw[hf]; decide)]
   rw[e1];exact cF rfl s11
 clear s11;rintro w12 s12 -;obtain⟨d,hd⟩:∃ d,Du (a.1:Nat) t.2=d:=⟨_,rfl⟩;refine⟨λ w'=>St w w' (Sep (L ⟨(a.1:Nat),(b.1:Nat),(c.1:Nat),u.1,t.1,(d.1:Nat)⟩ d.2)),?_,?_⟩
 rotate_left
 ·cases hf:fD (a.1:Nat) with
  | true =>
   have e1:d=rU t.2 18446744073709551615:=by rw[<- hd]; unfold Du; rw[if_pos hf]
   refine cT rfl (aq (OF (s12.out 1 rfl) (by omega) 18446744073709551615) ?_);rintro v w26 ⟨rfl,s8⟩;have s8:=s8.back (i:=1) (by show 1<4; decide);rw[<- e1] at s8 ⊢;exact⟨_,rfl,s8.aM 0 rfl (j:=10) (by show 10<11; decide) rfl λ w27 s9=>s9⟩
  | false =>
   have e1:d=(0,t.2):=by rw[<- hd]; unfold Du; rw[if_neg (by rw[hf]; decide)]
   rw[e1];exact cF rfl s12
 clear s12;rintro w13 s13 -;have hA:Hz s=(⟨(a.1:Nat),(b.1:Nat),(c.1:Nat),u.1,t.1,(d.1:Nat)⟩,rE d.2):=by
  unfold Hz;simp only[ha,hb,hc,hu,ht,hd]
 have hD:bX s=if rE d.2=0 then (⟨(a.1:Nat),(b.1:Nat),(c.1:Nat),u.1,t.1,(d.1:Nat)⟩,0) else (yD,rE d.2):=by
  unfold bX;rw[if_neg h4,hA]
 refine aq (XA (s13.out 1 rfl)) ?_;rintro v w14 ⟨rfl,s14⟩;have s14:=s14.back (i:=1) (by show 1<4; decide);refine⟨_,rfl,?_⟩
 by_cases hz:rE d.2=0
 ·rw[if_pos hz] at hD;rw[hD];refine cF (by simpa using hz) ⟨_,_,_,u.1,_,_,s14.cellsIn 0 rfl,s14.aE 2 rfl (⟨(a.1:Nat),(b.1:Nat),(c.1:Nat),u.1,t.1,(d.1:Nat)⟩:Ev).cells rfl (Ev.one _) λ w16 s16=>⟨_,_,_,u.1,_,_,s16.cellsIn 2 rfl,rfl,s16.aC⟩⟩
 ·rw[if_neg hz] at hD;rw[hD];refine cT (by simpa using hz) (s14.aE 2 rfl yD.cells rfl (Ev.one _) λ w15 s15=>⟨_,_,_,yD.want,_,_,s15.cellsIn 2 rfl,rfl,s15.aC⟩)
