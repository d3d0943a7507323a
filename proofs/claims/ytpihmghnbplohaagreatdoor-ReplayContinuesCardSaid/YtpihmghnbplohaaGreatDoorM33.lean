import Derived.Test.YtpihmghnbplohaaGreatDoorProg
import Derived.KernelRfl
import Derived.Test.YtpihmghnbplohaaGreatDoorM02
import Derived.Test.YtpihmghnbplohaaGreatDoorM03
import Derived.Test.YtpihmghnbplohaaGreatDoorM30
import Derived.Test.YtpihmghnbplohaaGreatDoorM32
set_option linter.unusedVariables false
set_option maxRecDepth 100000
namespace Go.Proofs.YtpihmghnbplohaaGreatDoor
open Go Go.Vc Tryz
noncomputable def Ty(b:Nat)(s:ByteArray)(n1:Int)(x r2 r3:Nat)(v:Value)(fn:FuncId)(D:Nat):Loop:={ aF b s n1 x r2 r3 v fn D with state:=.exhausted }
theorem Nf{w0 w:World}{b:Nat}{s:MS}{B:aD}(h:St w0 w (star (eH b s) B))(ho:s.Ok)(hd:s.down=false)(hl:s.left=none) :
    CP 21 #[.pointer (some ⟨b,0,none⟩)] w (λ r w'=>∃ x,r=.tuple #[.pointer (some ⟨x,0,none⟩),.int .i64 0] /\
      St w0 w' (star (bU x b (cV s.b) (cV s.b).length false) (star (eH b (QE s)) B))):=by
  have hlen:s.b.length<=262144:=by have:=ho.s1; have:=ho.s2; omega
  obtain⟨hc1,hc2,hc3,hc4⟩:=Dw s.b;refine Kz ?_;unfold OS;refine aj (NS h) ?_;rintro _ w1 ⟨rfl,rfl⟩;unfold MS.rd;rw[if_neg (by rw[hd]; decide)];refine⟨_,_,rfl,cF rfl ?_⟩;refine aG ?_;obtain⟨x,hx⟩:∃ x,w1.heap.size=x:=⟨_,rfl⟩;have h1:=h.vn.bI #[.pointer (some ⟨b,0,none⟩),.slice none 0 0,.int .i64 0,.bool false] 131;rw[hx] at h1 ⊢;refine aG ?_;obtain⟨r2,hr2⟩:∃ r2,(w1.alloc (.cells #[.pointer (some ⟨b,0,none⟩),.slice none 0 0,.int .i64 0,.bool false] 131)).heap.size=r2:=⟨_,rfl⟩;have h2:=h1.bI #[.pointer none] 27;rw[hr2] at h2 ⊢;refine h2.aH 0 rfl (by decide) rfl λ w3 h3=>aG ?_;obtain⟨r3,hr3⟩:∃ r3,w3.heap.size=r3:=⟨_,rfl⟩;have h4:=h3.bI #[.int .i64 0] 3;rw[hr3] at h4 ⊢;refine h4.aH 0 rfl (by decide) rfl λ w5 h5=>?_;refine aj (R:=_) (Dq (K:=λ v w'=>∃ y,v=.func (.func 106) #[] #[.pointer (some ⟨y,0,none⟩)]/\St w0 w' (Sep [ai y #[.string (bs s.b)] 9,ai r3 #[.int .i64 0] 3,ai r2 #[.pointer (some ⟨x,0,none⟩)] 27,ai x #[.pointer (some ⟨b,0,none⟩),.slice none 0 0,.int .i64 0,.bool false] 131,eH b s,B])) (aG ⟨_,rfl,h5.bI _ _⟩)) ?_;rintro _ w6 ⟨y,rfl,h6⟩;refine⟨_,rfl,?_⟩;show cond (true&&dw prog 53) _ False;refine cT (by kernel_rfl) ?_;intro fn;obtain⟨D,hD⟩:∃ D,w6.heap.size=D:=⟨_,rfl⟩;have h7:=h6.Fk (.deferred (some []));rw[hD] at h7 ⊢;have hD1:(w6.alloc (.deferred (some []))).heap.size=D+1:=by rw[World.size_alloc,hD]
  have h8:=h7.Fk (.loop (aF b (bs s.b) 0 x r2 r3 (.func (.func 106) #[] #[.pointer (some ⟨y,0,none⟩)]) fn D));rw[hD1] at h8;have h9:=(h8.Tg 136 3).aq [1,6,0,5,4,2,3,7,8];have h9:St w0 _ (Sep [aK (D+1) (.loop (aF b (bs s.b) 0 x r2 r3 (.func (.func 106) #[] #[.pointer (some ⟨y,0,none⟩)]) fn D)),ai x #[.pointer (some ⟨b,0,none⟩),.slice none 0 0,.int .i64 0,.bool false] 131,cw 136 3 (.slice none 0 0) 0 [],
    ai r2 #[.pointer (some ⟨x,0,none⟩)] 27,ai r3 #[.int .i64 0] 3,aK D (.deferred (some [])),ai y #[.string (bs s.b)] 9,eH b s,B]):=h9
  have h10:=St.split (m:=[ai y #[.string (bs s.b)] 9,eH b s,B]) [_,_,_,_,_,_] h9;have h11:=St.kK (f:=λ v:Value=>Sep [aK (D+1) (.loop (aF b (bs s.b) 0 x r2 r3 (.func (.func 106) #[] #[.pointer (some ⟨y,0,none⟩)]) fn D)),ai x #[.pointer (some ⟨b,0,none⟩),v,.int .i64 0,.bool false] 131,cw 136 3 v 0 [],
    ai r2 #[.pointer (some ⟨x,0,none⟩)] 27,ai r3 #[.int .i64 0] 3,aK D (.deferred (some []))]) (.slice none 0 0) h10
  obtain⟨es,hes⟩:∃ es,cV s.b=es:=⟨_,rfl⟩;refine aj (Qk (L:=s.b) (by omega) (R:=R5 (D+1) D x b r2 r3 (aF b (bs s.b) 0 x r2 r3 (.func (.func 106) #[] #[.pointer (some ⟨y,0,none⟩)]) fn D)) (B:=Sep [eH b s,B]) (λ pre e w1 Fr hpre hst=>?_) h11) ?_
  · refine K2 ?_ hst;have h1:=hpre.length_le;have h2:=An s.b.length s.b 0 0;simp only[List.length_append,List.length_cons,List.length_nil] at h1;unfold cV at h1;omega
  · rintro _ w7 ⟨rfl,hv⟩;obtain⟨v,hv⟩:=hv.ex;have hv:=St.cat (m:=[ai y #[.string (bs s.b)] 9,eH b s,B]) hv;rw[hes] at hv hc1 hc2 hc3 hc4;rw[QE,hes];have hv:St w0 w7 (Sep [aK (D+1) (.loop (aF b (bs s.b) 0 x r2 r3 (.func (.func 106) #[] #[.pointer (some ⟨y,0,none⟩)]) fn D)),ai x #[.pointer (some ⟨b,0,none⟩),v,.int .i64 0,.bool false] 131,cw 136 3 v es.length (es.flatMap cX),
      ai r2 #[.pointer (some ⟨x,0,none⟩)] 27,ai r3 #[.int .i64 (bt es:Int)] 3,aK D (.deferred (some [])),ai y #[.string (bs s.b)] 9,eH b s,B]):=hv
    obtain⟨a,c,rfl⟩:=bA (hv.rowAt 2 rfl);refine⟨⟨_,rfl⟩,_,hv.dY 0 rfl,by simp[aF],?_⟩;have k2:=(hv.putAt 0 rfl (.loop { aF b (bs s.b) 0 x r2 r3 (.func (.func 106) #[] #[.pointer (some ⟨y,0,none⟩)]) fn D with state:=.exhausted })).quiet (az.drew _ []);refine⟨_,k2.ag 3 rfl 0,_,k2.ag 3 rfl 0,a,_,c,by rw[fQ]; exact k2.ag 1 rfl 1,?_⟩
    dsimp only[an]
    rw[fQ];refine k2.aH 1 rfl (by show 2<4; decide) rfl λ w8 k3=>?_;have k3:St w0 w8 (Sep [aK (D+1) (.loop (Ty b (bs s.b) 0 x r2 r3 (.func (.func 106) #[] #[.pointer (some ⟨y,0,none⟩)]) fn D)),ai x #[.pointer (some ⟨b,0,none⟩),.slice a es.length c,.int .i64 (es.length:Int),.bool false] 131,cw 136 3 (.slice a es.length c) es.length (es.flatMap cX),
      ai r2 #[.pointer (some ⟨x,0,none⟩)] 27,ai r3 #[.int .i64 (bt es:Int)] 3,aK D (.deferred (some [])),ai y #[.string (bs s.b)] 9,eH b s,B]):=k3
    generalize Ty b (bs s.b) 0 x r2 r3 (.func (.func 106) #[] #[.pointer (some ⟨y,0,none⟩)]) fn D=lp at k3;refine⟨λ w'=>St w0 w' (Sep [aK (D+1) (.loop lp),ai x #[.pointer (some ⟨b,0,none⟩),.slice a es.length c,.int .i64 (es.length:Int),.bool false] 131,cw 136 3 (.slice a es.length c) es.length (es.flatMap cX),
      ai r2 #[.pointer (some ⟨x,0,none⟩)] 27,ai r3 #[.int .i64 (bt es:Int)] 3,aK D (.deferred (some [])),ai y #[.string (bs s.b)] 9,eH b (s.cut (bt es)),B]),λ w9 k9 _=>?_,?_⟩
    · refine⟨λ w'=>St w0 w' (Sep [aK (D+1) (.loop lp),ai x #[.pointer (some ⟨b,0,none⟩),.slice a es.length c,.int .i64 (es.length:Int),.bool false] 131,cw 136 3 (.slice a es.length c) es.length (es.flatMap cX),
        ai r2 #[.pointer (some ⟨x,0,none⟩)] 27,ai r3 #[.int .i64 (bt es:Int)] 3,aK D (.deferred (some [])),ai y #[.string (bs s.b)] 9,eH b { s with b:=s.b.take (bt es),dur:=bt es },B]),λ w10 k10 _=>?_,?_⟩
      · refine⟨_,k10.ag 3 rfl 0,k10.dY 5 rfl,x,rfl,?_⟩;have k11:=(k10.putAt 5 rfl (.deferred none)).aq [1,2,7,8];have k12:=St.triple k11.join;exact St.kK (f:=λ v:Value=>star (ai x #[.pointer (some ⟨b,0,none⟩),v,.int .i64 (es.length:Int),.bool false] 131) (cw 136 3 v es.length (es.flatMap cX))) (.slice a es.length c) k12
      · refine aj (EX (k9.out 7 rfl)) ?_;rintro _ w10 ⟨rfl,rfl⟩;refine⟨_,rfl,aj (N7 (k9.out 7 rfl)) ?_⟩;rintro _ w11 ⟨rfl,rfl⟩;refine⟨_,rfl,?_⟩;have hbl:(s.cut (bt es)).b.length=bt es:=by
          show(s.b.take (bt es)).length=_;rw[List.length_take]; omega
        have hdu:(s.cut (bt es)).dur=min s.dur (bt es):=rfl
        by_cases hlt:(s.cut (bt es)).dur<(s.cut (bt es)).b.length
        · refine cT (dT (by omega)) (aj (Om (k9.out 7 rfl) (MS.PV ho _)) ?_);have hsyn:(s.cut (bt es)).syn=(0,{ s with b:=s.b.take (bt es),dur:=bt es }):=by
            unfold MS.syn;rw[if_neg (by show ¬ s.down=true; rw[hd]; decide),Eo (by exact hl),if_pos rfl,hbl];rfl
          rw[hsyn];rintro _ w12 ⟨rfl,k12⟩;exact⟨_,rfl,cF rfl (k12.back (by show 7<9; decide))⟩
        · refine cF (dF (by omega)) ?_;have:s.cut (bt es)={ s with b:=s.b.take (bt es),dur:=bt es }:=by
            unfold MS.cut;rw[show min s.dur (bt es)=bt es by omega]
          rw[this] at k9;exact k9
    · refine⟨_,k3.ag 4 rfl 0,?_⟩;show cond (decide ((bt es:Int)<((s.b.length:Nat):Int))) _ _
      by_cases hlt:bt es<s.b.length
      · refine cT (dT (by omega)) ⟨_,k3.ag 4 rfl 0,aj (Et (k3.out 7 rfl) ho _) ?_⟩;have htru:s.Hy (bt es:Int)=(0,s.cut (bt es)):=by
          unfold MS.Hy;rw[if_neg (by rw[hd]; decide),if_neg (by omega),Eo hl,if_pos rfl]
          simp
        rw[htru];rintro _ w12 ⟨rfl,k12⟩;exact⟨_,rfl,cF rfl (k12.back (by show 7<9; decide))⟩
      · refine cF (dF (by omega)) ?_;have:s.cut (bt es)=s:=by
          unfold MS.cut;have:=ho.d;rw[List.take_of_length_le (by omega),show min s.dur (bt es)=s.dur by omega]
        rw[this];exact k3
def Dx  (w:World) (K:KP):Prop:=ak w (.cells #[.int .u64 0,.int .u64 5,.int .u64 6] 37) λ a b=>ak b (.cells #[.int .u64 0,.int .u64 5,.int .u64 7,.int .u64 8] 37) λ b c=>Calls prog 33 #[.slice (some ⟨a,0,none⟩) 3 3,.slice (some ⟨b,0,none⟩) 4 4] c λ a b=>∃ c d e f,a=.returned (.tuple #[.agg #[iv c,.int .u64 d,.int .u64 e],.bool f])/\ak b (.cells #[iv 0,.int .u64 0,.int .u64 0] 83) λ a b=>aQ ⟨a,0,none⟩ 0 [iv c,.int .u64 d,.int .u64 e] b λ b=>ak b (.cells #[.int .u64 0,.int .u64 5] 37) λ b c=>ak c (.cells #[.int .u64 0,.int .u64 5,.int .u64 7] 37) λ c d=>Calls prog 33 #[.slice (some ⟨b,0,none⟩) 2 2,.slice (some ⟨c,0,none⟩) 3 3] d λ b c=>∃ d e g h,b=.returned (.tuple #[.agg #[iv d,.int .u64 e,.int .u64 g],.bool h])/\ak c (.cells #[iv 0,.int .u64 0,.int .u64 0] 83) λ b c=>aQ ⟨b,0,none⟩ 0 [iv d,.int .u64 e,.int .u64 g] c λ c=>Calls prog 9 #[.slice none 0 0] c λ c d=>∃ e,c=.returned (.pointer e)/\cond (e).isNone (K (.bool false) d) (Calls prog 15 #[.pointer e,.agg #[iv 0,iv 0,iv 0,iv 0],iv 3] d λ c d=>∃ g i j,c=.returned (.tuple #[.pointer g,iv i,iv j])/\Calls prog 10 #[.pointer e,.agg #[iv 0,iv 0,iv 0,iv 0]] d λ c d=>∃ e k l m,c=.returned (.tuple #[.slice e k l,iv m])/\cond f (∃ c f l,af d ⟨a,0,none⟩ 0 [iv c,.int .u64 f,.int .u64 l]/\cond ((c==2)&&((f==6)&&((l==7)&&true))) (cond h (∃ a c f,af d ⟨b,0,none⟩ 0 [iv a,.int .u64 c,.int .u64 f]/\cond ((a==2)&&((c==0)&&((f==7)&&true))) (cond (j==0) (cond (!(g).isNone) (cond (i==0) (cond (m==0) (cond ((k:Int)==(1:Int)) (an e λ a=>0<=(0:Int)/\(0:Int)<(k:Int)/\∃ b,d.cell? (Addr.add a (((0:Int)).toNat*1))=some (.int .u64 b)/\K (.bool (b==0)) d) (K (.bool false) d)) (K (.bool false) d)) (K (.bool false) d)) (K (.bool false) d)) (K (.bool false) d)) (K (.bool false) d)) (K (.bool false) d)) (K (.bool false) d)) (K (.bool false) d))
theorem yg{w K}(h:Dx w K):CP 12 #[] w (K):=ah (ay []) func12 (by kernel_rfl) (by kernel_rfl) h
def sy(a:OA)(b c:Nat)(w:World)(K:KP):Prop:=Calls prog 20 #[iv 262144] w λ c d=>∃ e f,c=.returned (.tuple #[.pointer e,iv f])/\∃ c:Bool->World->Prop,(∀ g h,c h g->∀ i:Nat->Value,cond h (K (.pointer none) g) (Calls prog 21 #[.pointer e] g λ g h=>∃ i j,g=.returned (.tuple #[.pointer i,iv j])/\∃ g:Bool->World->Prop,(∀ k l,g l k->∀ m:Nat->Value,cond l (K (.pointer none) k) (∃ l:Int->World->Nat->Prop,(∃ m,l 0 k m)/\∀ k m n,l n k m->∀ o:Nat->Value,cond (decide (n<(b:Int))) (an a λ a=>0<=n/\n<(b:Int)/\∃ b,k.cell? (Addr.add a ((n).toNat*1))=some (.string b)/\Calls prog 23 #[.pointer i,.string b] k λ a b=>∃ o p,a=.returned (.tuple #[.int .u64 o,iv p])/\cond (p !=0) (K (.pointer none) b) (∃ a,a<m/\l (IntKind.i64.wrap (n+1)) b a)) (K (.pointer i) k)))/\cond (j !=0) (g true h) (g (i).isNone h)))/\cond (f !=0) (c true d) (c (e).isNone d)
theorem vV{a1 l1 c1 w K}(h:sy a1 l1 c1 w K):CP 9 #[.slice a1 l1 c1] w (K):=ah (ay [(14,[(19,.s .bool)]),(62,[(30,.s .bool)]),(506,[(7,.s (.int .i64))])]) func9 (by kernel_rfl) (by kernel_rfl) h
def qk(a:OA)(b c:Nat)(w:World)(K:KP):Prop:=∃ c:OA->Nat->Nat->Int->World->Nat->Prop,(∃ d,c none 0 0 0 w d)/\∀ e d f g h i,c f g h i e d->∀ j:Nat->Value,∃ j:Bool->World->Prop,(∀ k l,j l k->∀ m:Nat->Value,cond l (∃ l:OA->Nat->Nat->World->Prop,(∀ m n o p,l n o p m->∀ q:Nat->Value,∃ q,q<d/\c n o p (IntKind.i64.wrap (i+1)) m q)/\an a λ a=>0<=i/\i<(b:Int)/\∃ (c d m:Int) (n:I6) (o:ByteArray) (p:Int),af k (Addr.add a ((i).toNat*11)) 0 (iv c :: iv d :: iv m :: n.on [.string o,.int .u64 p])/\Calls prog 22 #[.agg (iv c :: iv d :: iv m :: n.on [.string o,.int .u64 p]:List Value).toArray] k λ a c=>∃ d m,a=.returned (.tuple #[.string d,iv m])/\∃ a:Bool->World->Prop,(∀ n o,a o n->∀ p:Nat->Value,cond o (ak n (.cells #[.string d] 9) λ o p=>aZ prog (Builtin.append_ #[25,25] 25 #[.slice f g h,.slice (some ⟨o,0,none⟩) 1 1]) p λ o p=>∃ q r s,o=(.slice q r s)/\l q r s p) (l f g h n))/\cond (m==0) (a (decide (((d.size:Nat):Int)<=(1500:Int))) c) (a false c)) (K (.slice f g h) k))/\cond (decide (i<(b:Int))) (j (decide (i<30)) e) (j false e)
theorem ug{a1 l1 c1 w K}(h:qk a1 l1 c1 w K):CP 8 #[.slice a1 l1 c1] w (K):=ah (ay [(58,[(3,.s .slice),(4,.s (.int .i64))]),(232,[(14,.s .bool)]),(233,[(3,.s .slice)]),(1865,[(31,.s .bool)])]) func8 (by kernel_rfl) (by kernel_rfl) h
def sx(a b c d:Int)(e:OA)(f g:Nat)(w:World)(K:KP):Prop:=ak w (.cells #[iv a,iv b,iv c,iv d] 23) λ a b=>∃ c d g h,af b ⟨a,0,none⟩ 0 [iv c,iv d,iv g,iv h]/\Calls prog 32 #[.agg #[iv c,iv d,iv g,iv h]] b λ a b=>∃ c,a=.returned (.pointer c)/\∃ a:Int->World->Nat->Prop,(∃ d,a 0 b d)/\∀ b d g,a g b d->∀ h:Nat->Value,cond (decide (g<(f:Int))) (an e λ e=>0<=g/\g<(f:Int)/\∃ h,b.cell? (Addr.add e ((g).toNat*1))=some (.string h)/\Calls prog 14 #[.string h] b λ e h=>∃ (i j k:Int) (l:I6) (m:ByteArray) (n o:Int),e=.returned (.tuple #[.agg (iv i :: iv j :: iv k :: l.on [.string m,.int .u64 n]:List Value).toArray,iv o])/\ak h (.cells #[iv 0,iv 0,iv 0,iv 0,iv 0,iv 0,iv 0,iv 0,iv 0,.string (bs []),.int .u64 0] 43) λ e h=>aQ ⟨e,0,none⟩ 0 (iv i :: iv j :: iv k :: l.on [.string m,.int .u64 n]) h λ h=>cond (o !=0) (K (.tuple #[.pointer c,iv g,iv o]) h) (∃ (i j k:Int) (l:I6) (m:ByteArray) (n:Int),af h ⟨e,0,none⟩ 0 (iv i :: iv j :: iv k :: l.on [.string m,.int .u64 n])/\Calls prog 17 #[.pointer c,.agg (iv i :: iv j :: iv k :: l.on [.string m,.int .u64 n]:List Value).toArray] h λ e h=>∃ i,e=.returned (iv i)/\cond (i !=0) (K (.tuple #[.pointer c,iv g,iv i]) h) (∃ e,e<d/\a (IntKind.i64.wrap (g+1)) h e))) (K (.tuple #[.pointer c,iv (f:Int),iv 0]) b)
theorem vU{n1 n2 n3 n4 a1 l1 c1 w K}(h:sx n1 n2 n3 n4 a1 l1 c1 w K):CP 11 #[.agg #[iv n1,iv n2,iv n3,iv n4],.slice a1 l1 c1] w (K):=ah (ay [(58,[(8,.s (.int .i64))])]) func11 (by kernel_rfl) (by kernel_rfl) h
def yh(a b:Nat)(w:World)(K:KP):Prop:=∃ c:Bool->World->Prop,(∀ d e,c e d->∀ f:Nat->Value,cond e (K (.bool false) d) (Calls prog 31 #[.pointer (some ⟨a,0,none⟩)] d λ d e=>∃ f,d=.returned (.int .u64 f)/\Calls prog 31 #[.pointer (some ⟨b,0,none⟩)] e λ d e=>∃ g,d=.returned (.int .u64 g)/\cond (f==g) (Calls prog 43 #[.pointer (some ⟨a,0,none⟩)] e λ d f=>∃ g,d=.returned (iv g)/\Calls prog 43 #[.pointer (some ⟨b,0,none⟩)] f λ d f=>∃ h,d=.returned (iv h)/\cond (g==h) (Calls prog 44 #[.pointer (some ⟨a,0,none⟩)] f λ d g=>∃ h i j k l m n o p q r s,d=.returned (.agg #[.slice h i j,.slice k l m,.slice n o p,.slice q r s])/\Calls prog 44 #[.pointer (some ⟨b,0,none⟩)] g λ d g=>∃ h i j k m n o p q r s t,d=.returned (.agg #[.slice h i j,.slice k m n,.slice o p q,.slice r s t])/\cond ((l:Int)==(m:Int)) (Calls prog 45 #[.pointer (some ⟨a,0,none⟩)] g λ d h=>∃ i,d=.returned (.pointer i)/\Calls prog 46 #[.pointer i] h λ d h=>∃ (i:I6),d=.returned (.agg i.vs.toArray)/\Calls prog 45 #[.pointer (some ⟨b,0,none⟩)] h λ d h=>∃ j,d=.returned (.pointer j)/\Calls prog 46 #[.pointer j] h λ d h=>∃ (j:I6),d=.returned (.agg j.vs.toArray)/\cond (I6.beq i j) (Calls prog 45 #[.pointer (some ⟨a,0,none⟩)] h λ a d=>∃ i,a=.returned (.pointer i)/\Calls prog 47 #[.pointer i] d λ a d=>∃ i,a=.returned (iv i)/\Calls prog 45 #[.pointer (some ⟨b,0,none⟩)] d λ a b=>∃ d,a=.returned (.pointer d)/\Calls prog 47 #[.pointer d] b λ a b=>∃ d,a=.returned (iv d)/\K (.bool (i==d)) b) (K (.bool false) h)) (K (.bool false) g)) (K (.bool false) f)) (K (.bool false) e)))/\c false w
theorem zD{b1 b2 w K}(h:yh b1 b2 w K):CP 16 #[.pointer (some ⟨b1,0,none⟩),.pointer (some ⟨b2,0,none⟩)] w (K):=ah (ay [(6,[(10,.s .bool)])]) func16 (by kernel_rfl) (by kernel_rfl) h
def iQ(a b c d:Int)(e:OA)(f g:Nat)(h:Int)(w:World)(K:KP):Prop:=ak w (.cells #[iv a,iv b,iv c,iv d] 23) λ a b=>Calls prog 8 #[.slice e f g] b λ b c=>∃ d e f,b=.returned (.slice d e f)/\Calls prog 9 #[.slice d e f] c λ b c=>∃ g,b=.returned (.pointer g)/\cond (g).isNone (K (.bool false) c) (∃ b:Int->World->Prop,(∀ i j,b j i->∀ k:Nat->Value,∃ k l m n,af i ⟨a,0,none⟩ 0 [iv k,iv l,iv m,iv n]/\Calls prog 15 #[.pointer g,.agg #[iv k,iv l,iv m,iv n],iv h] i λ g i=>∃ k l m,g=.returned (.tuple #[.pointer k,iv l,iv m])/\∃ g n o p,af i.drew ⟨a,0,none⟩ 0 [iv g,iv n,iv o,iv p]/\0<=j/\j<=(f:Int)/\Calls prog 11 #[.agg #[iv g,iv n,iv o,iv p],.slice (if f=0 then d else Option.map (λ x=>Addr.add x (0*1)) d) ((j).toNat-0) (f-0)] i.drew λ a d=>∃ f g i,a=.returned (.tuple #[.pointer f,iv g,iv i])/\cond (m==i) (cond (l==g) (Calls prog 16 #[.pointer k,.pointer f] d λ a f=>∃ g,a=.returned (.bool g)/\cond g (Calls prog 12 #[] f λ a g=>∃ i,a=.returned (.bool i)/\K (.bool i) g) (K (.bool false) f)) (K (.bool false) d)) (K (.bool false) d))/\cond (decide (h<(e:Int))) (b (if (0:Int)>h then (0:Int) else h) c) (b (e:Int) c))
theorem mY{n1 n2 n3 n4 a1 l1 c1 n5 w K}(h:iQ n1 n2 n3 n4 a1 l1 c1 n5 w K):CP 5 #[.agg #[iv n1,iv n2,iv n3,iv n4],.slice a1 l1 c1,iv n5] w (K):=ah (ay [(63,[(9,.s (.int .i64))])]) func5 (by kernel_rfl) (by kernel_rfl) h
def jD(a b c d:Int)(e:OA)(f g:Nat)(w:World)(K:KP):Prop:=ak w (.cells #[iv a,iv b,iv c,iv d] 23) λ a b=>Calls prog 8 #[.slice e f g] b λ b c=>∃ d e f,b=.returned (.slice d e f)/\Calls prog 9 #[.slice d e f] c λ b c=>∃ g,b=.returned (.pointer g)/\cond (g).isNone (K (.bool false) c) (∃ b h i j,af c ⟨a,0,none⟩ 0 [iv b,iv h,iv i,iv j]/\Calls prog 10 #[.pointer g,.agg #[iv b,iv h,iv i,iv j]] c λ b c=>∃ g h i j,b=.returned (.tuple #[.slice g h i,iv j])/\∃ b i k l,af c ⟨a,0,none⟩ 0 [iv b,iv i,iv k,iv l]/\Calls prog 11 #[.agg #[iv b,iv i,iv k,iv l],.slice d e f] c λ a b=>∃ c f i,a=.returned (.tuple #[.pointer c,iv f,iv i])/\cond (j !=i) (K (.bool false) b) (cond (j !=0) (cond ((h:Int)==(0:Int)) (Calls prog 12 #[] b λ a c=>∃ f,a=.returned (.bool f)/\K (.bool f) c) (K (.bool false) b)) (∃ a:Bool->World->Prop,(∀ c f,a f c->∀ i:Nat->Value,cond f (K (.bool false) c) (∃ f:Int->World->Nat->Prop,(∃ i,f 0 c i)/\∀ c i j,f j c i->∀ k:Nat->Value,cond (decide (j<(e:Int))) (an g λ k=>0<=(IntKind.i64.wrap (j+1))/\(IntKind.i64.wrap (j+1))<(h:Int)/\∃ l,c.drew.cell? (Addr.add k (((IntKind.i64.wrap (j+1))).toNat*1))=some (.int .u64 l)/\an g λ m=>0<=j/\j<(h:Int)/\∃ n,c.drew.cell? (Addr.add m ((j).toNat*1))=some (.int .u64 n)/\an d λ d=>0<=j/\j<(e:Int)/\∃ m,c.drew.cell? (Addr.add d ((j).toNat*1))=some (.string m)/\Calls prog 13 #[.int .u64 n,.string m] c.drew λ d m=>∃ n,d=.returned (.int .u64 n)/\m.cell? (Addr.add k (((IntKind.i64.wrap (j+1))).toNat*1))=some (.int .u64 l)/\cond (l !=n) (K (.bool false) m) (∃ d,d<i/\f (IntKind.i64.wrap (j+1)) m d)) (Calls prog 12 #[] c λ c d=>∃ f,c=.returned (.bool f)/\K (.bool f) d)))/\cond ((h:Int) !=(IntKind.i64.wrap ((e:Int)+(1:Int)))) (a true b) (an g λ c=>0<=(0:Int)/\(0:Int)<(h:Int)/\∃ d,b.cell? (Addr.add c (((0:Int)).toNat*1))=some (.int .u64 d)/\a (d !=0) b))))
theorem nY{n1 n2 n3 n4 a1 l1 c1 w K}(h:jD n1 n2 n3 n4 a1 l1 c1 w K):CP 3 #[.agg #[iv n1,iv n2,iv n3,iv n4],.slice a1 l1 c1] w (K):=ah (ay [(1022,[(54,.s .bool)]),(8186,[(12,.s (.int .i64))])]) func3 (by kernel_rfl) (by kernel_rfl) h
def fA(a b c d:Int)(e:OA)(f g:Nat)(h:Int)(w:World)(K:KP):Prop:=ak w (.cells #[iv a,iv b,iv c,iv d] 23) λ a b=>Calls prog 8 #[.slice e f g] b λ b c=>∃ d e f,b=.returned (.slice d e f)/\Calls prog 9 #[.slice d e f] c λ b c=>∃ f,b=.returned (.pointer f)/\cond (f).isNone (K (.bool false) c) (∃ b g i j,af c ⟨a,0,none⟩ 0 [iv b,iv g,iv i,iv j]/\Calls prog 15 #[.pointer f,.agg #[iv b,iv g,iv i,iv j],iv (e:Int)] c λ b c=>∃ g i j,b=.returned (.tuple #[.pointer g,iv i,iv j])/\∃ b j k l,af c ⟨a,0,none⟩ 0 [iv b,iv j,iv k,iv l]/\Calls prog 15 #[.pointer f,.agg #[iv b,iv j,iv k,iv l],iv (IntKind.i64.wrap h)] c λ a b=>∃ c f h,a=.returned (.tuple #[.pointer c,iv f,iv h])/\∃ a:Bool->World->Prop,(∀ h j,a j h->∀ k:Nat->Value,cond j (K (.bool false) h) (∃ j:Int->World->Nat->Prop,(∃ k,j f h k)/\∀ h k l,j l h k->∀ m:Nat->Value,cond (decide (l<i)) (an d λ d=>0<=l/\l<(e:Int)/\∃ m,h.cell? (Addr.add d ((l).toNat*1))=some (.string m)/\Calls prog 14 #[.string m] h λ d m=>∃ (n o p:Int) (q:I6) (r:ByteArray) (s t:Int),d=.returned (.tuple #[.agg (iv n :: iv o :: iv p :: q.on [.string r,.int .u64 s]:List Value).toArray,iv t])/\ak m (.cells #[iv 0,iv 0,iv 0,iv 0,iv 0,iv 0,iv 0,iv 0,iv 0,.string (bs []),.int .u64 0] 43) λ d m=>aQ ⟨d,0,none⟩ 0 (iv n :: iv o :: iv p :: q.on [.string r,.int .u64 s]) m λ m=>∃ n:Bool->World->Prop,(∀ o p,n p o->∀ q:Nat->Value,cond p (K (.bool false) o) (∃ p,p<k/\j (IntKind.i64.wrap (l+1)) o p))/\cond (t !=0) (n true m) (∃ (j k l:Int) (o:I6) (p:ByteArray) (q:Int),af m ⟨d,0,none⟩ 0 (iv j :: iv k :: iv l :: o.on [.string p,.int .u64 q])/\Calls prog 17 #[.pointer c,.agg (iv j :: iv k :: iv l :: o.on [.string p,.int .u64 q]:List Value).toArray] m λ d j=>∃ k,d=.returned (iv k)/\n (k !=0) j)) (Calls prog 16 #[.pointer c,.pointer g] h λ d h=>∃ j,d=.returned (.bool j)/\cond j (Calls prog 12 #[] h λ d j=>∃ k,d=.returned (.bool k)/\K (.bool k) j) (K (.bool false) h))))/\cond (g).isNone (a true b) (cond (c).isNone (a true b) (cond (decide (i>(e:Int))) (a true b) (a (decide (f>i)) b))))
theorem j0{n1 n2 n3 n4 a1 l1 c1 n5 w K}(h:fA n1 n2 n3 n4 a1 l1 c1 n5 w K):CP 6 #[.agg #[iv n1,iv n2,iv n3,iv n4],.slice a1 l1 c1,.int .u8 n5] w (K):=ah (ay [(254,[(58,.s .bool)]),(2042,[(15,.s (.int .i64))]),(65353,[(80,.s .bool)])]) func6 (by kernel_rfl) (by kernel_rfl) h
def gT(a b c d:Int)(e:OA)(f g:Nat)(h:ByteArray)(w:World)(K:KP):Prop:=ak w (.cells #[iv a,iv b,iv c,iv d] 23) λ a b=>∃ c:ByteArray->World->Prop,(∀ d i,c i d->∀ j:Nat->Value,Calls prog 8 #[.slice e f g] d λ d e=>∃ f g j,d=.returned (.slice f g j)/\∃ d k l m,af e ⟨a,0,none⟩ 0 [iv d,iv k,iv l,iv m]/\Calls prog 11 #[.agg #[iv d,iv k,iv l,iv m],.slice f g j] e λ d e=>∃ k l m,d=.returned (.tuple #[.pointer k,iv l,iv m])/\Calls prog 14 #[.string i] e λ d e=>∃ (k n o:Int) (p:I6) (q:ByteArray) (r s:Int),d=.returned (.tuple #[.agg (iv k :: iv n :: iv o :: p.on [.string q,.int .u64 r]:List Value).toArray,iv s])/\ak e (.cells #[iv 0,iv 0,iv 0,iv 0,iv 0,iv 0,iv 0,iv 0,iv 0,.string (bs []),.int .u64 0] 43) λ d e=>aQ ⟨d,0,none⟩ 0 (iv k :: iv n :: iv o :: p.on [.string q,.int .u64 r]) e λ d=>∃ e:Bool->World->Prop,(∀ k n,e n k->∀ o:Nat->Value,cond n (Calls prog 12 #[] k λ n o=>∃ p,n=.returned (.bool p)/\K (.bool p) o) (ak k (.cells #[] 9) λ k n=>aZ prog (Builtin.append_ #[25,25] 25 #[.slice (some ⟨k,0,none⟩) 0 0,.slice f g j]) n λ f g=>∃ j k n,f=(.slice j k n)/\ak g (.cells #[.string i,.string (bs [109,111,114,101])] 9) λ f g=>aZ prog (Builtin.append_ #[25,25] 25 #[.slice j k n,.slice (some ⟨f,0,none⟩) 2 2]) g λ f g=>∃ i j k,f=(.slice i j k)/\Calls prog 9 #[.slice i j k] g λ f g=>∃ i,f=.returned (.pointer i)/\cond (i).isNone (K (.bool false) g) (∃ f j k n,af g ⟨a,0,none⟩ 0 [iv f,iv j,iv k,iv n]/\Calls prog 15 #[.pointer i,.agg #[iv f,iv j,iv k,iv n],iv 1000] g λ f g=>∃ j k n,f=.returned (.tuple #[.pointer j,iv k,iv n])/\∃ f o p q,af g ⟨a,0,none⟩ 0 [iv f,iv o,iv p,iv q]/\Calls prog 10 #[.pointer i,.agg #[iv f,iv o,iv p,iv q]] g λ a f=>∃ g i o p,a=.returned (.tuple #[.slice g i o,iv p])/\cond (!(j).isNone) (cond (k==l) (cond (n==s) (cond (p==s) (cond ((i:Int)==(0:Int)) (Calls prog 12 #[] f λ a g=>∃ i,a=.returned (.bool i)/\K (.bool i) g) (K (.bool false) f)) (K (.bool false) f)) (K (.bool false) f)) (K (.bool false) f)) (K (.bool false) f))))/\cond (m !=0) (e true d) (e (s==0) d))/\cond (decide (((h.size:Nat):Int)>(200:Int))) (0<=(200:Int)/\(200:Int)<=((h.size:Nat):Int)/\c (h.extract 0 (((200:Int)).toNat)) b) (c h b)
theorem lO{n1 n2 n3 n4 a1 l1 c1 s1 w K}(h:gT n1 n2 n3 n4 a1 l1 c1 s1 w K):CP 4 #[.agg #[iv n1,iv n2,iv n3,iv n4],.slice a1 l1 c1,.string s1] w (K):=ah (ay [(3,[(2,.s .str)]),(126,[(43,.s .bool)])]) func4 (by kernel_rfl) (by kernel_rfl) h
abbrev s1 (r:List UInt8):List Value:=[sv r]
theorem oD(r:List UInt8):(s1 r).length=1:=rfl
theorem FI(r:List UInt8):∀ v∈s1 r,v.oneCell' = true:=by intro v hv; simp at hv; subst hv; rfl
theorem Tl:gL prog 25 9 (sv []) 1 16:=gL.mk' underlying25 (by kernel_rfl) rfl (by decide)
abbrev NY (a:OA) (c:Nat) (l:List (List UInt8)):aD:=bW 9 1 s1 a c l
theorem wU{w:World}{a:OA}{l:List (List UInt8)}(h:cH 1 s1 w a l){i:Nat}{x:List UInt8}(hx:l[i]? = some x):∃ q,a=some q/\w.cell? (Addr.add q (i*1))=some (sv x):=by
  obtain⟨q,hq,hc⟩:=h.at hx;exact⟨q,hq,by have:=hc.1; rwa [Addr.add_add,Nat.add_zero] at this⟩
def pW(l:List Ev):List (List UInt8):=l.filterMap λ e=>if bP e=0/\(aX e).length<=1500 then some (aX e) else none
def lS(l:List Ev):List (List UInt8):=pW (l.take 30)
theorem IN(l:List Ev)(e:Ev):pW (l++[e])=if bP e=0/\(aX e).length<=1500 then pW l++[aX e] else pW l:=by
  unfold pW;rw[List.filterMap_append]
  by_cases h:bP e=0/\(aX e).length<=1500
  · rw[if_pos h]; simp[h]
  · rw[if_neg h]; simp[h]
theorem D7(l:List Ev):(pW l).length<=l.length:=List.length_filterMap_le _ _
theorem Lg{l:List Ev}{r:List UInt8}(h:r∈pW l):∃ e∈l,bP e=0/\r=aX e/\r.length<=1500:=by
  obtain⟨e,he,hr⟩:=List.mem_filterMap.1 h
  split at hr
  · rename_i g; cases hr; exact⟨e,he,g.1,rfl,g.2⟩
  · cases hr
theorem ot(l:List Ev):(lS l).length<=30:=Nat.le_trans (D7 _) (by rw[List.length_take]; omega)
theorem yF{l:List Ev}{r:List UInt8}(h:r∈lS l):∃ e∈l,bP e=0/\r=aX e/\r.length<=1500:=by
  obtain⟨e,he,h2⟩:=Lg h;exact⟨e,List.mem_of_mem_take he,h2⟩
theorem Lh{l:List Ev}(hi:∀ e∈l,e.In){r:List UInt8}(h:r∈lS l):(aW r).2=0/\aX (aW r).1=r:=by
  obtain⟨e,he,h1,rfl,_⟩:=yF h;rw[MQ h1 (hi e he)];exact⟨rfl,rfl⟩
theorem pn{w:World}{a:OA}{c:Nat}{l:List Ev}(h:cH 11 Ev.cells w a l)(hi:∀ e∈l,e.In) :
    CP 8 #[.slice a l.length c] w (λ r w'=>∃ a' c',r=.slice a' (lS l).length c'/\St w w' (Sep [NY a' c' (lS l)])):=by
  refine ug ?_;unfold qk;refine⟨λ a2 l2 c2 n w' m=>∃ i:Nat,n=i/\i<=min l.length 30/\m=min l.length 30-i/\l2=(pW (l.take i)).length/\St w w' (Sep [NY a2 c2 (pW (l.take i))]),⟨_,0,rfl,Nat.zero_le _,rfl,rfl,(St.start w).eZ⟩,?_⟩;rintro w1 m a2 l2 c2 n ⟨i,rfl,hi1,rfl,rfl,s⟩ -;have hl:=D7 (l.take i);rw[List.length_take] at hl;refine⟨λ b w'=>b=decide (i<min l.length 30)/\w' = w1,?_,?_⟩
  · rintro w2 b ⟨rfl,rfl⟩ -
    by_cases hlt:i<min l.length 30
    · have he:l[i]? = some (l[i]'(by omega)):=gE (by omega);generalize l[i]'(by omega)=e at he;have hem:=List.mem_of_getElem? he;have et:pW (l.take (i+1))=if bP e=0/\(aX e).length<=1500 then pW (l.take i)++[aX e] else pW (l.take i):=by rw[aL he,IN]
      obtain⟨q,rfl,hc⟩:=(h.av s.av).at he;refine cT (dT hlt) ⟨λ a3 l3 c3 w'=>l3=(pW (l.take (i+1))).length/\St w w' (Sep [NY a3 c3 (pW (l.take (i+1)))]),?_,?_⟩
      · rintro w3 a3 l3 c3 ⟨rfl,s3⟩ -;exact⟨min l.length 30-(i+1),by omega,i+1,aC ⟨by omega,by omega⟩,by omega,rfl,rfl,s3⟩
      · refine⟨by omega,by omega,_,_,_,e.want,_,_,hc,aj (Db w2 (hi e hem)) ?_⟩;rintro v w4 ⟨rfl,c4⟩;have s4:=s.quiet c4;refine⟨_,_,rfl,λ b w'=>b=decide (bP e=0/\(aX e).length<=1500)/\w' = w4,?_,?_⟩
        · rintro w5 b ⟨rfl,rfl⟩ -
          by_cases g:bP e=0/\(aX e).length<=1500
          · rw[if_pos g] at et;rw[if_pos g.1,et];refine cT (dT g) (iC Tl oD (FI _) (x:=aX e) s4 (by omega) (by omega) (λ a' c' w' s5=>⟨rfl,s5⟩) rfl)
          · rw[if_neg g] at et;rw[et];exact cF (dF g) ⟨rfl,s4⟩
        · by_cases g:bP e=0
          · rw[if_pos g];refine cT (by simpa using g) ⟨?_,rfl⟩;rw[fm];exact decide_eq_decide.2 ⟨λ h=>⟨g,by omega⟩,λ h=>by have:=h.2; omega⟩
          · exact cF (by simpa using g) ⟨(dF λ h=>g h.1).symm,rfl⟩
    · refine cF (dF hlt) ⟨a2,c2,?_,?_⟩
      · have:pW (l.take i)=lS l:=by
          obtain rfl:i=min l.length 30:=by omega
          unfold lS;rw[Nat.min_comm,<- List.take_take,List.take_length]
        rw[this]
      · have:pW (l.take i)=lS l:=by
          obtain rfl:i=min l.length 30:=by omega
          unfold lS;rw[Nat.min_comm,<- List.take_take,List.take_length]
        rw[this] at s;exact s
  · by_cases h1:i<l.length
    · exact cT (dT (by omega)) ⟨decide_eq_decide.2 ⟨λ h=>by omega,λ h=>by omega⟩,rfl⟩
    · exact cF (dF (by omega)) ⟨(dF (by omega)).symm,rfl⟩
theorem oN{w0 w:World}{a:OA}{c:Nat}{rs:List (List UInt8)}{L:List aD}(s:St w0 w (Sep L))(h:∀ {w'},az w0 w' []->cH 1 s1 w' a rs)(h4:∀ x∈rs,x.length<=4000)(hf:(aR 0 rs).length<=262144)(hn:rs.length<=100000) :
    CP 9 #[.slice a rs.length c] w (λ r w'=>∃ (x m:Nat) (es:List eJ),r=pt x/\es.map eJ.s=rs/\St w0 w' (Sep (bU x m es 0 false :: L))):=by
  refine vV ?_;unfold sy;refine aj (QA s (n:=262144) (by omega)) ?_;rintro _ w1 ⟨m,rfl,s1⟩;refine⟨_,_,rfl,λ b w'=>b=false/\w' = w1,?_,cF rfl ⟨rfl,rfl⟩⟩;rintro w2 b ⟨rfl,rfl⟩ -;refine cF rfl (aj (Nf (s:=ms0 262144) s1.swap (O9 (by omega)) rfl rfl) ?_);rintro _ w3 ⟨x,rfl,s3⟩;have e0:cV (ms0 262144).b=[]:=by rfl
  have e1:QE (ms0 262144)=ms0 262144:=by rfl
  rw[e0,e1] at s3;refine⟨_,_,rfl,λ b w'=>b=false/\w' = w3,?_,cF rfl ⟨rfl,rfl⟩⟩;rintro w4 b ⟨rfl,rfl⟩ -;refine cF rfl ⟨λ n w' k=>∃ (i:Nat) (es:List eJ) (t:MS),n=i/\i<=rs.length/\k=rs.length-i/\Good es (rs.take i) t 262144/\St w0 w' (star (bU x m es 0 false) (star (eH m t) (Sep L))),⟨rs.length,0,[],ms0 262144,rfl,by omega,rfl,Good.init _ (by omega),s3⟩,?_⟩;rintro w5 k n ⟨i,es,t,rfl,hi,rfl,hg,s5⟩ -
  by_cases hlt:i<rs.length
  · have hr:rs[i]? = some (rs[i]'hlt):=gE hlt;generalize rs[i]'hlt=r at hr;obtain⟨q,rfl,hc⟩:=wU (h s5.av) hr;have ht:=aL hr;have hfl:((aR 0 (rs.take i++[r])).length:Int)<=262144:=by
      have:=xX 0 rs (i+1);rw[ht] at this;omega
    obtain⟨g1,g2,g3⟩:=hg.snoc (h4 r (List.mem_of_getElem? hr)) hfl;have hes:es.length<=1000000000:=by rw[hg.has.len,List.length_take]; omega
    refine cT (dT (by omega)) ⟨by omega,by omega,_,hc,aj (JB s5 hg.ok hes r (by have:=h4 r (List.mem_of_getElem? hr); omega) (.inl g3)) ?_⟩;rw[g1];rintro _ w6 ⟨rfl,s6⟩;refine⟨_,_,rfl,cF rfl ⟨rs.length-(i+1),by omega,i+1,_,_,aC ⟨by omega,by omega⟩,by omega,rfl,?_,s6⟩⟩;rw[ht]; exact g2
  · obtain rfl:i=rs.length:=by omega
    rw[List.take_length] at hg;refine cF (dF (by omega)) ⟨x,m,es,rfl,hg.has.s,?_⟩;have s6:St w0 w5 (Sep (bU x m es 0 false :: eH m t :: L)):=s5;exact s6.weak (bH.right (bH.trans (aS.weak aS.swap) (bH.right (bH.none _) |>.trans (aS.unit' _).weak)))
theorem sr{w0 w:World}{a:OA}{c:Nat}{rs:List (List UInt8)}{L:List aD}(s:St w0 w (Sep L))(h:∀ {w'},az w0 w' []->cH 1 s1 w' a rs)(hn:rs.length<=100000)(o:Po) :
    CP 11 #[o.v,.slice a rs.length c] w (λ r w'=>∃ b,r=.tuple #[pt b,iv ((aB o rs).n:Nat),iv (aB o rs).e]/\St w0 w' (Sep (eI b (aB o rs).S (aB o rs).C :: L))):=by
  refine vU ?_;unfold sx;refine s.ax o.cells.toArray λ r1 w1 s1=>⟨_,_,_,_,s1.cellsIn 0 rfl,aj (LI w1 o) ?_⟩;rintro v w2 ⟨b,rfl,k2⟩;have s2:St w0 w2 (Sep ([ai b (ij o).cells.toArray 114]++ai r1 o.cells.toArray 23 :: L)):=St.cat (s1.and k2);have s3:St w0 w2 (star (held (zl (ij o) Jo)) (star (ai b (ij o).cells.toArray 114) (Sep (ai r1 o.cells.toArray 23 :: L)))):=s2.su (GW o);have s4:St w0 w2 (Sep (eI b (ij o) Jo :: ai r1 o.cells.toArray 23 :: L)):=wY (GV o) rfl ⟨λ _=>rfl,λ h=>absurd rfl h⟩ s3.AJ.pF;refine⟨_,rfl,λ n w' k=>∃ i:Nat,n=i/\i<=rs.length/\k=rs.length-i/\(aB o (rs.take i)).e=0/\St w0 w' (Sep (eI b (aB o (rs.take i)).S (aB o (rs.take i)).C :: L)),⟨rs.length,0,rfl,by omega,rfl,rfl,(s4.eqv aS.AJ).second⟩,?_⟩;rintro w3 k n ⟨i,rfl,hi,rfl,he,s5⟩ -
  by_cases hlt:i<rs.length
  · have hr:rs[i]? = some (rs[i]'hlt):=gE hlt;generalize rs[i]'hlt=r at hr;obtain⟨q,rfl,hc⟩:=wU (h s5.av) hr;have ef:aB o (rs.take (i+1))=aU (aB o (rs.take i)) r:=by rw[aL hr,fF]
    have hok:=jC o (rs.take i);have hni:(aB o (rs.take i)).n=i:=by rw[nW he,List.length_take]; omega
    refine cT (dT (by omega)) ⟨by omega,by omega,_,hc,aj (rO w3 r) ?_⟩;rintro _ w4 ⟨rfl,c4⟩;refine⟨_,_,_,(aW r).1.want,_,_,_,rfl,(s5.quiet c4).ax p8.cells.toArray λ r2 w5 s6=>s6.aA 0 rfl (aW r).1.cells rfl (Ev.one _) λ w6 s7=>?_⟩;have s7:St w0 w6 (Sep (ai r2 (aW r).1.cells.toArray 43 :: eI b (aB o (rs.take i)).S (aB o (rs.take i)).C :: L)):=s7;have stop:∀ {x:Int},x≠0->aU (aB o (rs.take i)) r={ aB o (rs.take i) with e:=x }->aB o rs={ aB o (rs.take i) with e:=x }:=λ {x} hx hs=>by
      rw[<- hs,<- ef];exact o7 (by rw[ef,hs]; exact hx)
    by_cases hd:(aW r).2=0
    · refine cF (by simpa using hd) ⟨_,_,_,(aW r).1.want,_,_,s7.cellsIn 0 rfl,aj (xp (s7.out 1 rfl) hok.ok (wG r)) ?_⟩;rintro _ w7 ⟨rfl,s8⟩;have s8:St w0 w7 (Sep (eI b (Ml (aB o (rs.take i)).S (aB o (rs.take i)).C (aW r).1).1 (Ml (aB o (rs.take i)).S (aB o (rs.take i)).C (aW r).1).2 :: ai r2 (aW r).1.cells.toArray 43 :: L)):=s8;have s9:=(s8.eqv aS.AJ).second;refine⟨_,rfl,?_⟩
      by_cases ha:uP (aB o (rs.take i)).S (aB o (rs.take i)).C (aW r).1=0
      · have e:Ml (aB o (rs.take i)).S (aB o (rs.take i)).C (aW r).1=((EF (aB o (rs.take i)).S (aB o (rs.take i)).C (aW r).1).er,(OF (aB o (rs.take i)).S (aB o (rs.take i)).C (aW r).1).er):=if_pos ha;rw[e] at s9;refine cF (by simpa using ha) ⟨rs.length-(i+1),by omega,i+1,aC ⟨by omega,by omega⟩,by omega,rfl,?_,?_⟩
        · rw[ef,gI he hd ha]
        · rw[ef,gI he hd ha]; exact s9
      · have e:Ml (aB o (rs.take i)).S (aB o (rs.take i)).C (aW r).1=((aB o (rs.take i)).S,(aB o (rs.take i)).C):=if_neg ha;rw[e] at s9;have hs:=stop ha (y4 he hd ha);refine cT (by simpa using ha) ⟨b,?_,?_⟩
        · rw[hs]; show _=Value.tuple #[pt b,iv ((aB o (rs.take i)).n:Nat),_]; rw[hni]
        · rw[hs]; exact s9
    · have hs:=stop hd (pE he hd);refine cT (by simpa using hd) ⟨b,?_,?_⟩
      · rw[hs]; show _=Value.tuple #[pt b,iv ((aB o (rs.take i)).n:Nat),_]; rw[hni]
      · rw[hs]; exact s7.second
  · obtain rfl:i=rs.length:=by omega
    rw[List.take_length] at he s5;exact cF (dF (by omega)) ⟨b,by rw[nW he,he],s5⟩
theorem JK{w0 w:World}{p:OA}{S:Sx}{C:Ck}{B:aD}(s:St w0 w (star (Gj p C) B))(hk:HG { S with k:=p }) :
    CP 46 #[.pointer p] w (λ r w'=>r=.agg (if S.ph=0 then z6 else C.p).vs.toArray/\az w w' []):=by
  by_cases h0:S.ph=0
  · have hp:p=none:=hk.1 h0;subst hp;rw[if_pos h0];exact lC ((St.start w).one.ax z6.vs.toArray λ r1 w1 s1=>s1.aA 0 rfl z6.vs rfl (I6.one _) λ w2 s2=>⟨z6,s2.cellsIn 0 rfl,rfl,s2.av⟩)
  · obtain⟨g,hg⟩:=hk.2 h0
    cases hg
    rw[if_neg h0];exact Ij (s.first.imp uV)
theorem JL{w0 w:World}{p:OA}{S:Sx}{C:Ck}{B:aD}(s:St w0 w (star (Gj p C) B))(hk:HG { S with k:=p }) :
    CP 47 #[.pointer p] w (λ r w'=>r=iv (if S.ph=0 then 0 else (C.cl.length:Int))/\az w w' []):=by
  by_cases h0:S.ph=0
  · have hp:p=none:=hk.1 h0;subst hp;rw[if_pos h0];exact mS (by unfold iF; exact⟨rfl,az.refl _ _⟩)
  · obtain⟨g,hg⟩:=hk.2 h0
    cases hg
    rw[if_neg h0];refine aj (KB (s.first.imp uV)) ?_;rintro v w1 ⟨rfl,rfl⟩;exact⟨_,rfl,rfl,az.refl _ _⟩
section
variable {w0 w:World} {b:Nat} {S:Sx} {C:Ck} {B:aD}
theorem Ej(s:St w0 w (star (eI b S C) B))(hok:zm S C):CP 44 #[pt b] w (λ r w'=>∃ S' : Se,S'.er=S.s/\r=.agg S'.arr/\St w w' (held S'.In)):=by
  obtain⟨S1,C1,rfl,rfl,hk,s1⟩:=wX s;exact LN (s1.cellsIn 0 rfl) (s1.iP 1 rfl).h.1 (SC (FT hok))
theorem rK(s:St w0 w (star (eI b S C) B))(hok:zm S C):CP 45 #[pt b] w (λ r w'=>∃ (p:OA) (C' : Ck),r=.pointer p/\C'.er=C/\HG { S with k:=p }/\St w w' (Gj p C')):=by
  obtain⟨S1,C1,rfl,rfl,hk,s1⟩:=wX s;have hok' : zm S1 C1:=FT hok;refine aj (Lx (s1.cellsIn 0 rfl) hok'.b8 (s1.iP 1 rfl) hok' hk) ?_;rintro v w1 ⟨p,C',rfl,e1,e2,e3⟩;exact⟨_,rfl,p,C',rfl,e1,e2,e3⟩
end
theorem Lw{w0 w:World}{b1 b2:Nat}{S:Sx}{C:Ck}{L:List aD}(s:St w0 w (Sep (eI b1 S C :: eI b2 S C :: L)))(hok:zm S C) :
    CP 16 #[pt b1,pt b2] w (λ r w'=>r=.bool true/\St w0 w' (Sep (eI b1 S C :: eI b2 S C :: L))):=by
  refine zD ?_;unfold yh;refine⟨λ bb w'=>bb=false/\w' = w,?_,rfl,rfl⟩;rintro w1 b3 ⟨rfl,rfl⟩ -;refine cF rfl (aj (FM (s.out 0 rfl) hok.b8) ?_);rintro _ w2 ⟨rfl,rfl⟩;refine⟨_,rfl,aj (FM (s.out 1 rfl) hok.b8) ?_⟩;rintro _ w3 ⟨rfl,rfl⟩;refine⟨_,rfl,cT (by simp) (aj (LR (s.out 0 rfl) hok.b8) ?_)⟩;rintro _ w4 ⟨rfl,rfl⟩;refine⟨_,rfl,aj (LR (s.out 1 rfl) hok.b8) ?_⟩;rintro _ w5 ⟨rfl,rfl⟩;refine⟨_,rfl,cT (by simp) (aj (Ej (s.out 0 rfl) hok) ?_)⟩;rintro _ w6 ⟨S1,e1,rfl,k1⟩;have s6:=s.quiet k1.av;refine⟨_,_,_,_,_,_,_,_,_,_,_,_,rfl,aj (Ej (s6.out 1 rfl) hok) ?_⟩;rintro _ w7 ⟨S2,e2,rfl,k2⟩;have s7:=s6.quiet k2.av;have ebd:S1.bd=S2.bd:=xu (e1.trans e2.symm);refine⟨_,_,_,_,_,_,_,_,_,_,_,_,rfl,cT (by rw[ebd]; simp) (aj (rK (s7.out 0 rfl) hok) ?_)⟩;rintro _ w8 ⟨p1,C1,rfl,eC1,hk1,k8⟩;have s8:St w0 w8 (Sep (Gj p1 C1 :: eI b1 S C :: eI b2 S C :: L)):=s7.and k8;refine⟨_,rfl,aj (JK s8 hk1) ?_⟩;rintro _ w9 ⟨rfl,c9⟩;have s9:=s8.quiet c9;refine⟨_,rfl,aj (rK (s9.out 2 rfl) hok) ?_⟩;rintro _ w10 ⟨p2,C2,rfl,eC2,hk2,k10⟩;have s10:St w0 w10 (Sep (Gj p2 C2 :: Gj p1 C1 :: eI b1 S C :: eI b2 S C :: L)):=s9.and k10;refine⟨_,rfl,aj (JK s10 hk2) ?_⟩;rintro _ w11 ⟨rfl,c11⟩;have ec:∀ {C1 C2:Ck},C1.er=C->C2.er=C->C1.p=C2.p/\C1.cl.length=C2.cl.length:=λ {C1 C2} h1 h2=>by
    have hh:=h1.trans h2.symm;refine⟨show C1.er.p=C2.er.p by rw[hh],?_⟩;rw[<- yj C1,hh,yj]
  have s11:=(s10.quiet c11).second.second;refine⟨_,rfl,cT (by rw[I6.beq_eq,(ec eC1 eC2).1]; simp) (aj (rK (St.out (l:=eI b1 S C :: eI b2 S C :: L) s11 0 rfl) hok) ?_)⟩;rintro _ w12 ⟨p3,C3,rfl,eC3,hk3,k12⟩;have s12:St w0 w12 (Sep (Gj p3 C3 :: eI b1 S C :: eI b2 S C :: L)):=s11.and k12;refine⟨_,rfl,aj (JL s12 hk3) ?_⟩;rintro _ w13 ⟨rfl,c13⟩;have s13:=s12.quiet c13;refine⟨_,rfl,aj (rK (s13.out 2 rfl) hok) ?_⟩;rintro _ w14 ⟨p4,C4,rfl,eC4,hk4,k14⟩;have s14:St w0 w14 (Sep (Gj p4 C4 :: Gj p3 C3 :: eI b1 S C :: eI b2 S C :: L)):=s13.and k14;refine⟨_,rfl,aj (JL s14 hk4) ?_⟩;rintro _ w15 ⟨rfl,c15⟩;refine⟨_,rfl,?_,(s14.quiet c15).second.second⟩;rw[(ec eC3 eC4).2]; simp
end Go.Proofs.YtpihmghnbplohaaGreatDoor
