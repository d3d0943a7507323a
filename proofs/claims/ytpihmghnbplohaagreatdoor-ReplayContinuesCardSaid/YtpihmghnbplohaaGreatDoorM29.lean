import Derived.Laws.Strings
import Derived.Test.YtpihmghnbplohaaGreatDoorProg
import Derived.KernelRfl
import Derived.Test.YtpihmghnbplohaaGreatDoorM02
import Derived.Test.YtpihmghnbplohaaGreatDoorM03
import Derived.Test.YtpihmghnbplohaaGreatDoorM20
import Derived.Test.YtpihmghnbplohaaGreatDoorM28
set_option linter.unusedVariables false
set_option maxRecDepth 100000
namespace Go.Proofs.YtpihmghnbplohaaGreatDoor
open Go Go.Vc Tryz
theorem yp{w w' : World}{x:Nat}{s s' : MS}{v:Value}(_h:ru w x s v)(h' : ru w' x s' v)(hc:az w w' [x]):dR w w' x s' (x :: v.ownBlock.toList) :=
  ⟨_,⟨v,h',rfl⟩,hc.mono (by simp),λ _ hk=>.inl hk⟩
theorem FZ{w:World}{x:Nat}{s:MS}{F:List Nat}(h:A9 w x s F)(ho:s.Ok) :
    CP 63 #[.pointer (some ⟨x,0,none⟩)] w (λ r w'=>r=.int .i64 s.syn.1/\dR w w' x s.syn.2 F):=by
  obtain⟨v,hv,rfl⟩:=h;refine KK ?_;unfold O3;refine aj (wZ hv) ?_;rintro _ w1 ⟨rfl,rfl⟩;refine⟨_,rfl,?_⟩
  cases hd:s.down with
  | true =>
    have:s.syn=(19,s):=by unfold MS.syn; rw[if_pos hd]
    rw[this];exact⟨rfl,dR.refl ⟨v,hv,rfl⟩ (az.refl _ _)⟩
  | false =>
    show cond ((0:Int) !=0) _ _;refine y5 hv ho (λ r w3 hh=>⟨_,rfl,hh⟩) ?_;intro r w3 hM3 hc3;refine⟨_,rfl,?_⟩
    cases hst:s.bh.1 with
    | false =>
      have:s.syn=(19,s.bh.2):=by unfold MS.syn; rw[if_neg (by rw[hd]; decide),if_neg (by rw[hst]; decide)]
      rw[this];exact⟨rfl,yp hv hM3 hc3⟩
    | true =>
      have:s.syn=(0,{ s.bh.2 with dur:=s.b.length }):=by unfold MS.syn; rw[if_neg (by rw[hd]; decide),if_pos hst]
      rw[this];show cond false _ _;obtain⟨a',cp',hve'⟩:=bA hM3.own;have hb:=MS.Hr s;refine⟨a',_,cp',by rw[<- hve']; exact dh hM3 1,Ff hM3 (by omega) rfl ⟨rfl,?_⟩⟩;refine yp hv (yq hM3 (by rw[hb.1]; rfl) rfl) (hc3.trans (az.set _ _ _ _ (F:=[x]) (by simp)) (λ i hi=>.inl hi))
theorem B4{w:World}{base:Nat}{e:TypeId}{v:Value}{n:Nat}{xs:List Value}(own:w.ownsRow base e 1 v n xs){a:OA}{l c:Nat}(hv:v=.slice a l c)(h0:0<n) :
    ∃ g,a=some ⟨g,0,none⟩/\v.ownBlock=some g/\∀ j u,xs[j]? = some u->w.cell? ⟨g,j,none⟩=some u:=by
  obtain⟨_,h,_⟩:=DR own hv;obtain⟨g,cur,ha,hg,hh,hle,ht⟩:=h h0;refine⟨g,ha,hg,λ j u hj=>?_⟩;rw[cK,hh,cG,<- Array.getElem?_toList];rw[<- ht,List.getElem?_take] at hj
  split at hj
  · exact hj
  · cases hj
theorem HT(l:List UInt8):∀ u∈l.map cU,u.oneCell' = true:=by
  intro u hu;obtain⟨b,_,rfl⟩:=List.mem_map.1 hu;rfl
theorem HX{w:World}{x:Nat}{s:MS}{F:List Nat}(h:A9 w x s F)(ho:s.Ok){n:Int}(h0:0<=n)(hn:n<=s.b.length) :
    CP 110 #[.pointer (some ⟨x,0,none⟩),.int .i64 n] w (λ r w'=>r=.tuple #[]/\dR w w' x (s.cut n.toNat) F):=by
  obtain⟨v,hv,rfl⟩:=h;refine Nr ?_;unfold R1;have s1:=ho.s1;have s2:=ho.s2;have hx:=dN hv.blk;refine KL Q8 rfl h0 (by omega) (by omega) ?_;generalize hg:w.heap.size=g;generalize hw1:w.alloc (.cells (Array.replicate n.toNat (.int .u8 0)) 5)=w1;have hg1:w1.heap[g]? = some (.cells (Array.replicate n.toNat (.int .u8 0)) 5 (0,0)):=by rw[<- hw1,ct,if_pos hg.symm]
  have hx1:w1.heap[x]? = some (.cells (bJ s v) 127 (0,0)):=by rw[<- hw1,ct,if_neg (by omega)]; exact hv.blk
  have hc1:az w w1 []:=by rw[<- hw1]; exact az.new _ _ _
  have own1:=ei hv.own hc1 (by simp);obtain⟨a,cp,hve⟩:=bA own1;have hgx:g≠x:=by omega
  refine⟨_,_,_,rfl,a,s.b.length,cp,by rw[cK,hx1,cG,<- hve]; rfl,?_⟩;have hlen:((s.b.take n.toNat).map cU).length=n.toNat:=by simp; omega
  refine Vc.ET Q8 hg1 (cs:=(s.b.take n.toNat).map cU) (by rw[hlen]; show _=min _ _; omega) (by simp) (λ hpos=>?_) (HT _) ?_
  · rw[hlen] at hpos;obtain⟨g0,rfl,_,hc⟩:=B4 own1 hve (by omega);refine⟨_,rfl,λ j u hj=>?_⟩;have:(⟨g0,0,none⟩:Addr).add j=⟨g0,j,none⟩:=by unfold Addr.add; split<;>simp_all
    rw[this];refine hc j u ?_;rw[List.map_take] at hj;rw[List.getElem?_take] at hj
    split at hj
    · exact hj
    · cases hj
  · intro w2 hg2 hc2;rw[hlen] at hg2;have hx2:=hc2.keep hx1 (by simpa using hgx.symm);refine⟨(s.dur:Int),by rw[cK,hx2]; rfl,oE hx2 (by simp[bJ]) rfl ?_⟩;have hx3:(w2.setCell ⟨x,1,none⟩ (.slice (some ⟨g,0,none⟩) n.toNat n.toNat)).heap[x]? = some (.cells (bJ s (.slice (some ⟨g,0,none⟩) n.toNat n.toNat)) 127 (0,0)):=by
      rw[heap_set,if_pos rfl,hx2]; rfl
    refine oE hx3 (by simp[bJ]) rfl ⟨rfl,?_⟩;refine⟨_,⟨.slice (some ⟨g,0,none⟩) n.toNat n.toNat,⟨?_,?_,?_⟩,rfl⟩,?_,?_⟩
    · rw[heap_set,if_pos rfl,hx3];have:(if n<(s.dur:Int) then n else (s.dur:Int))=((min s.dur n.toNat:Nat):Int):=by split<;>omega
      rw[this];rfl
    · refine⟨by simp[MS.cut],.inr ⟨g,n.toNat,((s.b.take n.toNat).map cU++(Array.replicate n.toNat (Value.int .u8 0)).toList.drop n.toNat).toArray,?_,Nat.zero_le _,?_,?_,?_,?_,?_⟩⟩
      · simp[MS.cut]; omega
      · rw[heap_set,if_neg hgx.symm,heap_set,if_neg hgx.symm,hg2]
      · simp[MS.cut]; omega
      · unfold maxLen; omega
      · simp; omega
      · have h1:(s.cut n.toNat).b.length=n.toNat:=by simp[MS.cut]; omega
        rw[h1,Nat.mul_one];have h2:(s.cut n.toNat).b=s.b.take n.toNat:=rfl;rw[h2];exact List.take_left' hlen
    · simp[Value.ownBlock]; omega
    · refine⟨?_,λ i hi hn=>?_,(hc1.env.trans hc2.env).trans ((Env.set _ _ _).trans (Env.set _ _ _))⟩
      · have:=hc1.size;have:=hc2.size
        simp; omega
      · have hix:x≠i:=λ e=>hn (by simp[e]);rw[heap_set,if_neg hix,heap_set,if_neg hix,hc2.same i (by have:=hc1.size; omega) (by simp; omega),hc1.same i hi (by simp)]
    · intro k hk;simp[Value.ownBlock] at hk;rcases hk with rfl | rfl
      · exact .inl (by simp)
      · exact .inr (by omega)
theorem zf{w:World}{x:Nat}{s:MS}{F:List Nat}(h:A9 w x s F)(ho:s.Ok)(n:Int) :
    CP 60 #[.pointer (some ⟨x,0,none⟩),.int .i64 n] w (λ r w'=>r=.int .i64 (s.Hy n).1/\dR w w' x (s.Hy n).2 F):=by
  obtain⟨v,hv,rfl⟩:=h;refine BY ?_;unfold Ap;refine aj (wZ hv) ?_;rintro _ w1 ⟨rfl,rfl⟩;refine⟨_,rfl,?_⟩
  cases hd:s.down with
  | true =>
    have:s.Hy n=(19,s):=by unfold MS.Hy; rw[if_pos hd]
    rw[this];exact⟨rfl,dR.refl ⟨v,hv,rfl⟩ (az.refl _ _)⟩
  | false =>
    show cond ((0:Int) !=0) _ _;obtain⟨a,cp,hve⟩:=bA hv.own;refine⟨λ b w'=>w' = w1/\b=decide (n<0\/(s.b.length:Int)<n),?_,?_⟩
    · rintro w2 b ⟨rfl,rfl⟩ -
      by_cases hbad:n<0\/(s.b.length:Int)<n
      · have:s.Hy n=(4,s):=by unfold MS.Hy; rw[if_neg (by rw[hd]; decide),if_pos hbad]
        rw[this,dT hbad];exact⟨rfl,dR.refl ⟨v,hv,rfl⟩ (az.refl _ _)⟩
      · rw[dF hbad];refine y5 hv ho (λ r w3 hh=>⟨_,rfl,hh⟩) ?_;intro r w3 hM3 hc3;refine⟨_,rfl,?_⟩;have hto3:=yp hv hM3 hc3
        cases hst:s.bh.1 with
        | false =>
          have:s.Hy n=(19,s.bh.2):=by unfold MS.Hy; rw[if_neg (by rw[hd]; decide),if_neg hbad,if_neg (by rw[hst]; decide)]
          rw[this];exact⟨rfl,hto3⟩
        | true =>
          have:s.Hy n=(0,s.bh.2.cut n.toNat):=by unfold MS.Hy; rw[if_neg (by rw[hd]; decide),if_neg hbad,if_pos hst]
          rw[this];show cond false _ _;refine aj (HX ⟨v,hM3,rfl⟩ (MS.FX ho) (by omega) (by rw[(MS.Hr s).1]; omega)) ?_;rintro _ w4 ⟨rfl,hto4⟩;refine⟨rfl,rfl,?_⟩;obtain⟨F4,h4,hc4,hf4⟩:=hto4;obtain⟨F3,h3,hc3',hf3⟩:=hto3;refine⟨F4,h4,hc3'.trans hc4 (λ i hi=>.inl hi),λ i hi=>?_⟩;rcases hf4 i hi with h | h
          · exact .inl h
          · exact .inr (Nat.le_trans hc3'.size h)
    · by_cases hneg:n<0
      · rw[dT hneg];exact⟨rfl,(dT (Or.inl hneg)).symm⟩
      · rw[dF hneg];refine⟨a,s.b.length,cp,by rw[<- hve]; exact dh hv 1,rfl,?_⟩;rw[decide_eq_decide];omega
theorem FF{w:World}{x:Nat}{s:MS}{F:List Nat}(h:A9 w x s F) :
    CP 58 #[.pointer (some ⟨x,0,none⟩)] w (λ r w'=>r=.tuple #[.string ⟨s.rd.1.toArray⟩,.int .i64 s.rd.2]/\w' = w):=by
  obtain⟨v,hv,rfl⟩:=h;refine KI ?_;unfold O2;refine aj (wZ hv) ?_;rintro _ w1 ⟨rfl,rfl⟩;refine⟨_,rfl,?_⟩
  cases hd:s.down with
  | true =>
    have:s.rd=([],19):=by unfold MS.rd; rw[if_pos hd]
    rw[this];exact⟨rfl,rfl⟩
  | false =>
    have:s.rd=(s.b,0):=by unfold MS.rd; rw[if_neg (by rw[hd]; decide)]
    rw[this];show cond ((0:Int) !=0) _ _;obtain⟨a,cp,hve⟩:=bA hv.own;refine⟨a,_,cp,by rw[<- hve]; exact dh hv 1,?_⟩;rw[<- hve];exact tv underlying125 underlying5 underlying9 hv.own ⟨_,rfl,rfl,rfl⟩
theorem FP{w:World}{x:Nat}{s:MS}{F:List Nat}(h:A9 w x s F) :
    CP 62 #[.pointer (some ⟨x,0,none⟩)] w (λ r w'=>r=.int .i64 (s.b.length:Int)/\w' = w):=by
  obtain⟨v,hv,rfl⟩:=h;obtain⟨a,cp,hve⟩:=bA hv.own;exact KJ ⟨a,_,cp,by rw[<- hve]; exact dh hv 1,rfl,rfl⟩
theorem zy{w:World}{x:Nat}{s:MS}{F:List Nat}(h:A9 w x s F) :
    CP 61 #[.pointer (some ⟨x,0,none⟩)] w (λ r w'=>r=.int .i64 (s.dur:Int)/\w' = w):=by
  obtain⟨v,hv,rfl⟩:=h;exact DI ⟨_,dh hv 2,rfl,rfl⟩
theorem IA(w:World)(n:Int) :
    CP 20 #[.int .i64 n] w (λ r w'=>if n<1\/262144<n then r=.tuple #[.pointer none,.int .i64 4]/\w' = w else
      ∃ y,r=.tuple #[.pointer (some ⟨y,0,none⟩),.int .i64 0]/\A9 w' y ⟨n,[],0,false,none⟩ [y]/\az w w' []/\w.heap.size<=y):=by
  refine Nq ?_;unfold RY;refine⟨λ b w'=>w' = w/\b=decide (n<1\/262144<n),?_,?_⟩
  · rintro w1 b ⟨rfl,rfl⟩ -
    by_cases hbad:n<1\/262144<n
    · rw[dT hbad,cond_true]
      dsimp only
      rw[if_pos hbad];exact⟨rfl,rfl⟩
    · rw[dF hbad,cond_false];refine aG ?_
      dsimp only
      rw[if_neg hbad];refine⟨w1.heap.size,rfl,⟨.slice none 0 0,⟨?_,World.ownsRow_nil _ _ _ _,by simp[Value.ownBlock]⟩,by simp[Value.ownBlock]⟩,az.new _ _ _,Nat.le_refl _⟩;rw[ct,if_pos rfl];rfl
  · by_cases h1:n<1
    · rw[dT h1]; exact⟨rfl,(dT (Or.inl h1)).symm⟩
    · rw[dF h1];refine⟨rfl,?_⟩;rw[decide_eq_decide];omega
def eH(x:Nat)(s:MS):aD where
  p w F:=A9 w x s F
  loc:=λ h hc hd=>A9.keep h hc hd
  lt:=λ h=>A9.lt h
section st
variable {w0 w:World} {x:Nat} {s:MS} {B:aD}
theorem HQ(h:St w0 w (star (eH x s) B))(ho:s.Ok)(t:ByteArray):CP 68 #[.pointer (some ⟨x,0,none⟩),.string t] w (λ r w'=>r=.int .i64 (s.app t.data.toList).1/\St w0 w' (star (eH x (s.app t.data.toList).2) B)):=by
  obtain⟨F,hF,k⟩:=h.use;exact(Bj hF ho t).mono λ e w' ⟨v,he,hv,hto⟩=>⟨v,he,hv,k w' (eH x _) hto⟩
theorem Om(h:St w0 w (star (eH x s) B))(ho:s.Ok):CP 63 #[.pointer (some ⟨x,0,none⟩)] w (λ r w'=>r=.int .i64 s.syn.1/\St w0 w' (star (eH x s.syn.2) B)):=by
  obtain⟨F,hF,k⟩:=h.use;exact(FZ hF ho).mono λ e w' ⟨v,he,hv,hto⟩=>⟨v,he,hv,k w' (eH x _) hto⟩
theorem Et(h:St w0 w (star (eH x s) B))(ho:s.Ok)(n:Int):CP 60 #[.pointer (some ⟨x,0,none⟩),.int .i64 n] w (λ r w'=>r=.int .i64 (s.Hy n).1/\St w0 w' (star (eH x (s.Hy n).2) B)):=by
  obtain⟨F,hF,k⟩:=h.use;exact(zf hF ho n).mono λ e w' ⟨v,he,hv,hto⟩=>⟨v,he,hv,k w' (eH x _) hto⟩
theorem NS(h:St w0 w (star (eH x s) B)):CP 58 #[.pointer (some ⟨x,0,none⟩)] w (λ r w'=>r=.tuple #[.string ⟨s.rd.1.toArray⟩,.int .i64 s.rd.2]/\w' = w):=by
  obtain⟨F,hF,k⟩:=h.use;exact FF hF
theorem N7(h:St w0 w (star (eH x s) B)):CP 62 #[.pointer (some ⟨x,0,none⟩)] w (λ r w'=>r=.int .i64 (s.b.length:Int)/\w' = w):=by
  obtain⟨F,hF,k⟩:=h.use;exact FP hF
theorem EX(h:St w0 w (star (eH x s) B)):CP 61 #[.pointer (some ⟨x,0,none⟩)] w (λ r w'=>r=.int .i64 (s.dur:Int)/\w' = w):=by
  obtain⟨F,hF,k⟩:=h.use;exact zy hF
theorem QA{A:aD}(h:St w0 w A){n:Int}(hn : ¬ (n<1\/262144<n)):CP 20 #[.int .i64 n] w (λ r w'=>∃ y,r=.tuple #[.pointer (some ⟨y,0,none⟩),.int .i64 0]/\St w0 w' (star A (eH y ⟨n,[],0,false,none⟩))):=by
  refine(IA w n).mono λ e w' ⟨v,he,h'⟩=>?_
  dsimp only at h'
  rw[if_neg hn] at h';obtain⟨y,hv,hM,hc,hy⟩:=h';exact⟨v,he,y,hv,h.add hc (B:=eH y _) hM (by simpa using hy)⟩
end st
theorem bytes_beq(a b:ByteArray)(h:a.data.toList=b.data.toList):(a.toList==b.toList)=true:=by
  rw[Go.ByteArray.toList_eq,Go.ByteArray.toList_eq,h]; simp
theorem HS(a b:ByteArray)(h:a.data.toList=b.data.toList):(!(a.toList==b.toList))=false:=by rw[bytes_beq a b h]; rfl
theorem O9{n:Int}(h : ¬ (n<1\/262144<n)):MS.Ok ⟨n,[],0,false,none⟩ :=
  ⟨by simp; omega,by simp; omega,by simp,λ _ h=>by cases h⟩
def Tt(a:ByteArray)(w:World)(K:KP):Prop:=ak w (.cells #[.string a,iv 0] 166) λ a b=>K (.pointer (some ⟨a,0,none⟩)) b
theorem HC{s1 w K}(h:Tt s1 w K):CP 36 #[.string s1] w (K):=ah (ay []) func36 (by kernel_rfl) (by kernel_rfl) h
def F9(a:Nat)(b:Int)(w:World)(K:KP):Prop:=Calls prog 78 #[.pointer (some ⟨a,0,none⟩)] w λ c d=>∃ e,c=.returned (.bool e)/\cond (!e) (K (.int .u64 0) d) (∃ c:Int->Int->World->Nat->Prop,(∃ e,c 0 (0:Int) d e)/\∀ d e f g,c f g d e->∀ h:Nat->Value,∃ h,d.cell? ⟨a,0,none⟩=some (.string h)/\cond (g==((h.size:Nat):Int)) (Calls prog 38 #[.pointer (some ⟨a,0,none⟩),iv 1] d λ h i=>h=.returned (.tuple #[])/\K (.int .u64 0) i) (∃ h,d.cell? ⟨a,0,none⟩=some (.string h)/\0<=g/\an h[(g).toNat]? λ h=>∃ i:Bool->World->Prop,(∀ j k,i k j->∀ l:Nat->Value,cond k (Calls prog 38 #[.pointer (some ⟨a,0,none⟩),iv 2] j λ k l=>k=.returned (.tuple #[])/\K (.int .u64 0) l) (0<=(IntKind.u64.wrap ((7:Int)*(IntKind.u64.wrap g)))/\cond (decide ((h.toNat:Int)>=(128:Int))) (∃ k,k<e/\c (Pb .u64 f (IntKind.u64.wrap ((IntKind.u64.wrap (fU .u8 (h.toNat:Int) (127:Int)))*2 ^ (min ((IntKind.u64.wrap ((7:Int)*(IntKind.u64.wrap g)))).toNat IntKind.u64.bits)))) (IntKind.i64.wrap (g+1)) j k) (∃ c:Bool->World->Prop,(∀ e k,c k e->∀ l:Nat->Value,cond k (Calls prog 38 #[.pointer (some ⟨a,0,none⟩),iv 2] e λ k l=>k=.returned (.tuple #[])/\K (.int .u64 0) l) (cond (decide ((Pb .u64 f (IntKind.u64.wrap ((IntKind.u64.wrap (fU .u8 (h.toNat:Int) (127:Int)))*2 ^ (min ((IntKind.u64.wrap ((7:Int)*(IntKind.u64.wrap g)))).toNat IntKind.u64.bits))))>b)) (Calls prog 38 #[.pointer (some ⟨a,0,none⟩),iv 4] e λ b k=>b=.returned (.tuple #[])/\K (.int .u64 0) k) (∃ b,e.cell? ⟨a,0,none⟩=some (.string b)/\0<=(IntKind.i64.wrap (g+1))/\(IntKind.i64.wrap (g+1))<=((b.size:Nat):Int)/\aN e ⟨a,0,none⟩ (.string (b.extract (((IntKind.i64.wrap (g+1))).toNat) b.size)) λ a=>K (.int .u64 (Pb .u64 f (IntKind.u64.wrap ((IntKind.u64.wrap (fU .u8 (h.toNat:Int) (127:Int)))*2 ^ (min ((IntKind.u64.wrap ((7:Int)*(IntKind.u64.wrap g)))).toNat IntKind.u64.bits))))) a)))/\cond ((h.toNat:Int)==(0:Int)) (c (decide (g>0)) j) (c false j))))/\cond (g==9) (i (decide ((h.toNat:Int)>(1:Int))) d) (i false d)))
theorem A3{b1 n1 w K}(h:F9 b1 n1 w K):CP 37 #[.pointer (some ⟨b1,0,none⟩),.int .u64 n1] w (K):=ah (ay [(62,[(5,.s (.int .u64)),(6,.s (.int .i64))]),(3974,[(33,.s .bool)]),(31806,[(52,.s .bool)])]) func37 (by kernel_rfl) (by kernel_rfl) h
def F8(a:Nat)(b:Int)(w:World)(K:KP):Prop:=Calls prog 78 #[.pointer (some ⟨a,0,none⟩)] w λ c d=>∃ e,c=.returned (.bool e)/\cond (!e) (K (.string (bs [])) d) (∃ c:Int->World->Prop,(∀ e f,c f e->∀ g:Nat->Value,Calls prog 37 #[.pointer (some ⟨a,0,none⟩),.int .u64 f] e λ e f=>∃ g,e=.returned (.int .u64 g)/\∃ e:World->Prop,(∀ h,e h->∀ i:Nat->Value,∃ i:World->Prop,(∀ j,i j->∀ k:Nat->Value,∃ k,j.cell? ⟨a,1,none⟩=some (iv k)/\cond (k !=0) (K (.string (bs [])) j) (∃ k,j.cell? ⟨a,0,none⟩=some (.string k)/\0<=g/\g<=((k.size:Nat):Int)/\∃ l,j.cell? ⟨a,0,none⟩=some (.string l)/\0<=g/\g<=((l.size:Nat):Int)/\aN j ⟨a,0,none⟩ (.string (l.extract ((g).toNat) l.size)) λ j=>K (.string (k.extract 0 ((g).toNat))) j))/\∃ j:Bool->World->Prop,(∀ k l,j l k->∀ m:Nat->Value,cond l (Calls prog 38 #[.pointer (some ⟨a,0,none⟩),iv 1] k λ l m=>l=.returned (.tuple #[])/\i m) (i k))/\∃ i,h.cell? ⟨a,1,none⟩=some (iv i)/\cond (i==0) (∃ i,h.cell? ⟨a,0,none⟩=some (.string i)/\j (decide (g>(IntKind.u64.wrap ((i.size:Nat):Int)))) h) (j false h))/\∃ g:Bool->World->Prop,(∀ h i,g i h->∀ j:Nat->Value,cond i (Calls prog 38 #[.pointer (some ⟨a,0,none⟩),iv 4] h λ i j=>i=.returned (.tuple #[])/\e j) (e h))/\∃ e,f.cell? ⟨a,1,none⟩=some (iv e)/\cond (e==0) (g (decide (b<0)) f) (g false f))/\cond (decide (b>0)) (c (IntKind.u64.wrap b) d) (c 0 d))
theorem A2{b1 n1 w K}(h:F8 b1 n1 w K):CP 40 #[.pointer (some ⟨b1,0,none⟩),iv n1] w (K):=ah (ay [(15,[(5,.s (.int .u64))]),(63,[]),(127,[]),(254,[(43,.s .bool)]),(126,[(26,.s .bool)])]) func40 (by kernel_rfl) (by kernel_rfl) h
def Ts(a:Nat)(w:World)(K:KP):Prop:=∃ b,w.cell? ⟨a,1,none⟩=some (iv b)/\K (iv b) w
theorem Oy{b1 w K}(h:Ts b1 w K):CP 79 #[.pointer (some ⟨b1,0,none⟩)] w (K):=ah (ay []) func79 (by kernel_rfl) (by kernel_rfl) h
def Pp(a:Nat)(w:World)(K:KP):Prop:=Calls prog 78 #[.pointer (some ⟨a,0,none⟩)] w λ b c=>∃ d,b=.returned (.bool d)/\cond (!d) (K (iv 0) c) (∃ b,c.cell? ⟨a,0,none⟩=some (.string b)/\K (iv ((b.size:Nat):Int)) c)
theorem Md{b1 w K}(h:Pp b1 w K):CP 107 #[.pointer (some ⟨b1,0,none⟩)] w (K):=ah (ay []) func107 (by kernel_rfl) (by kernel_rfl) h
def TF(a:Nat)(w:World)(K:KP):Prop:=∃ b,w.cell? ⟨a,1,none⟩=some (iv b)/\K (.bool (b==0)) w
theorem Ru{b1 w K}(h:TF b1 w K):CP 78 #[.pointer (some ⟨b1,0,none⟩)] w (K):=ah (ay []) func78 (by kernel_rfl) (by kernel_rfl) h
def Mc(a:Nat)(b:Int)(w:World)(K:KP):Prop:=∃ c:Bool->World->Prop,(∀ d e,c e d->∀ f:Nat->Value,cond e (aN d ⟨a,1,none⟩ (iv b) λ b=>K (.tuple #[]) b) (K (.tuple #[]) d))/\∃ b,w.cell? ⟨a,1,none⟩=some (iv b)/\c (b==0) w
theorem Ey{b1 n1 w K}(h:Mc b1 n1 w K):CP 38 #[.pointer (some ⟨b1,0,none⟩),iv n1] w (K):=ah (ay [(1,[(12,.s .bool)])]) func38 (by kernel_rfl) (by kernel_rfl) h
def SG(a:Nat)(w:World)(K:KP):Prop:=∃ b:World->Prop,(∀ c,b c->∀ d:Nat->Value,Calls prog 79 #[.pointer (some ⟨a,0,none⟩)] c λ c d=>∃ e,c=.returned (iv e)/\K (iv e) d)/\∃ c:Bool->World->Prop,(∀ d e,c e d->∀ f:Nat->Value,cond e (Calls prog 38 #[.pointer (some ⟨a,0,none⟩),iv 3] d λ e f=>e=.returned (.tuple #[])/\b f) (b d))/\Calls prog 78 #[.pointer (some ⟨a,0,none⟩)] w λ b d=>∃ e,b=.returned (.bool e)/\cond e (∃ b,d.cell? ⟨a,0,none⟩=some (.string b)/\c (!(b.toList==(bs []).toList)) d) (c false d)
theorem Ox{b1 w K}(h:SG b1 w K):CP 41 #[.pointer (some ⟨b1,0,none⟩)] w (K):=ah (ay [(3,[]),(6,[(11,.s .bool)])]) func41 (by kernel_rfl) (by kernel_rfl) h
def Kw(a:ByteArray)(b:Int)(w:World)(K:KP):Prop:=aZ prog (Instr.makeSlice 125 (iv 8) (iv 8)) w λ c d=>∃ e f g,c=(.slice e f g)/\∃ c:Int->World->Nat->Prop,(∃ h,c 0 d h)/\∀ d h i,c i d h->∀ j:Nat->Value,cond (decide (i<(f:Int))) (0<=(IntKind.i64.wrap ((8:Int)*i))/\an e λ j=>0<=i/\i<(f:Int)/\aN d (Addr.add j ((i).toNat*1)) (.int .u8 (IntKind.u8.wrap (Int.fdiv b (2 ^ (min ((IntKind.i64.wrap ((8:Int)*i))).toNat IntKind.u64.bits))))) λ b=>∃ j,j<h/\c (IntKind.i64.wrap (i+1)) b j) ((Calls prog 112 #[.string a] d.drew λ b c=>∃ h,b=.returned (.string h)/\aZ prog (convert 125 9 (.slice e f g)) c λ b c=>∃ i,b=(.string i)/\((h.size+i.size:Nat):Int)<=IntKind.i64.max/\K (.string (h++i)) c)/\aZ prog (convert 125 9 (.slice e f g)) d.drew λ b c=>∃ d,b=(.string d)/\Calls prog 112 #[.string a] c λ a b=>∃ c,a=.returned (.string c)/\((c.size+d.size:Nat):Int)<=IntKind.i64.max/\K (.string (c++d)) b)
theorem Ih{s1 n1 w K}(h:Kw s1 n1 w K):CP 69 #[.string s1,.int .u64 n1] w (K):=ah (ay [(58,[(10,.s (.int .i64))])]) func69 (by kernel_rfl) (by kernel_rfl) h
def zP(f:FuncId)(args:Array Value)(r:Value):Prop:=∀ w,Calls prog f args w (qw λ v w'=>v=r/\az w w' [])
def LS(l:List UInt8):Value:=.string ⟨l.toArray⟩
theorem bY(l:List UInt8):(bs l).size=l.length:=rfl
theorem l7{f:FuncId}{args:Array Value}{r:Value}(h:zP f args r){w:World}{R:Ending->World->Prop}(k:∀ w',az w w' []->R (.returned r) w'):Calls prog f args w R :=
  aj (h w) (by rintro _ w' ⟨rfl,hc⟩; exact k w' hc)
theorem uJ(s:ByteArray):s.size=s.data.toList.length:=by cases s; rfl
theorem Dt(x:Nat)(s:ByteArray)(hs:s.size<=4611686018427387904):zP 13 #[.int .u64 (x:Int),.string s] (.int .u64 (aE x s.data.toList:Nat)):=λ w=>Bs w x s.data.toList (by rw[<- uJ]; exact hs)
theorem HE(s:ByteArray)(hs:s.size<=4611686018427387904):zP 112 #[.string s] (LS (cN s.data.toList)):=λ w=>L1 w s.data.toList (by rw[<- uJ]; exact hs)
def aO(l:List UInt8)(head:Nat):List UInt8:=cN l++sA 8 head
theorem AV(l:List UInt8):(cN l).length<=10+l.length:=by
  have:=iw l.length;unfold cN;rw[List.length_append]; omega
theorem GF(s:ByteArray)(hs:s.size<=4611686018427387904)(h:Nat):zP 69 #[.string s,.int .u64 (h:Int)] (LS (aO s.data.toList h)):=λ w=>by
  refine Ih ?_;unfold Kw;have hm:IntKind.i64.max=9223372036854775807:=rfl;have hz:(⟨(cN s.data.toList).toArray⟩:ByteArray).size+(⟨(sA 8 h).toArray⟩:ByteArray).size<=9223372036854775807:=by
    have h1:(⟨(cN s.data.toList).toArray⟩:ByteArray).size=(cN s.data.toList).length:=rfl;have h2:(⟨(sA 8 h).toArray⟩:ByteArray).size=8:=aJ 8 h;have:=AV s.data.toList;have:=uJ s;omega
  have hv:Value.string ((⟨(cN s.data.toList).toArray⟩:ByteArray)++⟨(sA 8 h).toArray⟩)=LS (aO s.data.toList h):=congrArg Value.string (lA _ _);refine DH SW rfl h 8 (by decide) (A:=λ a1 l1 c1 w2=>_) ?_;intro w2 g hc hg _;have own:=Av hg (by rw[aJ]; omega);rw[aJ] at own;have hcd:az w w2.drew []:=hc.trans (az.drew _ []) (by simp);refine⟨l7 (HE s hs) λ w4 hc4=>⟨_,rfl,?_⟩,?_⟩
  · have own4:=ei own ((az.drew w2 []).trans hc4 (by simp)) (by simp);exact tv (l:=sA 8 h) underlying125 underlying5 underlying9 (by rw[aJ]; exact own4) ⟨_,rfl,by rw[hm]; omega,hv,hcd.trans hc4 (by simp)⟩
  · refine tv (l:=sA 8 h) underlying125 underlying5 underlying9 (by rw[aJ]; exact ei own (az.drew w2 []) (by simp)) ⟨_,rfl,?_⟩;exact l7 (HE s hs) λ w4 hc4=>⟨_,rfl,by rw[hm]; omega,hv,hcd.trans hc4 (by simp)⟩
def v8:List UInt8->Nat->Nat->Nat ⊕ (Nat×List UInt8)
  | [],_,_=>.inl 1
  | b :: l,i,x =>
    if i=9/\1<b.toNat then .inl 2
    else if 128<=b.toNat then v8 l (i+1) (x+b.toNat%128*2 ^ (7*i))
    else if b.toNat=0/\0<i then .inl 2
    else .inr (x+b.toNat*2 ^ (7*i),l)
def cD(l:List UInt8)(most:Nat):Nat ⊕ (Nat×List UInt8):=match v8 l 0 0 with
  | .inl e=>.inl e
  | .inr (x,r)=>if most<x then .inl 4 else .inr (x,r)
theorem PA:∀ a:Fin 256,fU .u8 ((a.val:Nat):Int) 127=((a.val%128:Nat):Int):=by decide +kernel
theorem Jv(b:UInt8):IntKind.u64.wrap (fU .u8 (b.toNat:Int) (127:Int))=((b.toNat%128:Nat):Int):=by
  have h:=PA ⟨b.toNat,b.toNat_lt⟩;simp only at h;rw[h,IntWalk.u64_in _ (by omega)]
theorem QG{x y k:Nat}(hx:x<2 ^ k)(h:x+y*2 ^ k<18446744073709551616):Pb .u64 (x:Int) ((y*2 ^ k:Nat):Int)=((x+y*2 ^ k:Nat):Int):=by
  have hp:0<2 ^ k:=Nat.two_pow_pos k;show IntKind.u64.wrap (((BitVec.ofInt 64 (x:Int) ||| BitVec.ofInt 64 ((y*2 ^ k:Nat):Int)).toNat:Nat):Int)=_;have h3:(BitVec.ofInt 64 (x:Int) ||| BitVec.ofInt 64 ((y*2 ^ k:Nat):Int)).toNat=x ||| (y*2 ^ k):=by
    rw[BitVec.toNat_or,BitVec.toNat_ofInt,BitVec.toNat_ofInt];have e1:((x:Int)%((2 ^ 64:Nat):Int)).toNat=x:=by omega
    have e2:(((y*2 ^ k:Nat):Int)%((2 ^ 64:Nat):Int)).toNat=y*2 ^ k:=by omega
    rw[e1,e2]
  have h4:x ||| (y*2 ^ k)=x+y*2 ^ k:=by
    rw[Nat.or_comm,Nat.mul_comm y,<- Nat.two_pow_add_eq_or_of_lt hx]; omega
  rw[h3,h4];exact IntWalk.u64_in _ (by omega)
abbrev AE (x:Nat) (l:List UInt8) (e:Int):aD:=ai x #[.string (bs l),.int .i64 e] 166
section rd
variable {w0 w:World} {x:Nat} {l:List UInt8} {e:Int} {B:aD}
theorem NQ(h:St w0 w (star (AE x l e) B)):w.cell? ⟨x,0,none⟩=some (.string (bs l)):=h.boxed 0
theorem EH(h:St w0 w (star (AE x l e) B)):w.cell? ⟨x,1,none⟩=some (.int .i64 e):=h.boxed 1
theorem xy{cs:Array Value}{T:TypeId}{v:Value}{i:Nat}{R:World->Prop}(h:St w0 w (star (ai x cs T) B))(hi:i<cs.size)(hv:v.oneCell' = true)(k:∀ w',St w0 w' (star (ai x (cs.setIfInBounds i v) T) B)->R w'):aN w ⟨x,i,none⟩ v R:=by
  obtain⟨F,⟨ho,rfl⟩,use⟩:=h.use;refine oE ho hi hv (k _ (use _ (ai x (cs.setIfInBounds i v) T) ⟨[x],⟨?_,rfl⟩,az.set _ _ _ _ (by simp),λ j hj=>.inl hj⟩));rw[heap_set,if_pos rfl,ho]; rfl
theorem IE(h:St w0 w (star (AE x l e) B)):CP 78 #[.pointer (some ⟨x,0,none⟩)] w (λ r w'=>r=.bool (e==0)/\w' = w) :=
  Ru ⟨_,EH h,rfl,rfl⟩
theorem J2(h:St w0 w (star (AE x l e) B)):CP 79 #[.pointer (some ⟨x,0,none⟩)] w (λ r w'=>r=.int .i64 e/\w' = w) :=
  Oy ⟨_,EH h,rfl,rfl⟩
theorem KE(h:St w0 w (star (AE x l e) B)):CP 107 #[.pointer (some ⟨x,0,none⟩)] w (λ r w'=>r=.int .i64 ((if e=0 then l.length else 0:Nat):Int)/\w' = w):=by
  refine Md ?_;unfold Pp;refine aj (IE h) ?_;rintro _ w1 ⟨rfl,rfl⟩;refine⟨_,rfl,?_⟩
  by_cases he:e=0
  · subst he;exact cF rfl ⟨_,NQ h,rfl,rfl⟩
  · refine cT (by simpa using he) ⟨?_,rfl⟩;rw[if_neg he]; rfl
theorem BO(h:St w0 w (star (AE x l 0) B))(n:Int):CP 38 #[.pointer (some ⟨x,0,none⟩),.int .i64 n] w (λ r w'=>r=.tuple #[]/\St w0 w' (star (AE x l n) B)):=by
  refine Ey ?_;unfold Mc;refine⟨λ b w'=>b=true/\w' = w,?_,0,EH h,rfl,rfl⟩;rintro w1 b ⟨rfl,rfl⟩ -;exact cT rfl (xy h (by simp) rfl λ w2 h2=>⟨rfl,h2⟩)
end rd
theorem Hz{i x b:Nat}(hi:i<=9)(hx:x<2 ^ (7*i))(hb:i=9->b<=1):x+b%128*2 ^ (7*i)<18446744073709551616:=by
  by_cases h9:i=9
  · subst h9;have:=hb rfl;have h1:b%128<=1:=by omega
    have h2:b%128*2 ^ (7*9)<=1*2 ^ (7*9):=Nat.mul_le_mul_right _ h1;omega
  · have h1:b%128<=127:=by omega
    have h2:b%128*2 ^ (7*i)<=127*2 ^ (7*i):=Nat.mul_le_mul_right _ h1;have h3:2 ^ (7*i)<=2 ^ 56:=Nat.pow_le_pow_right (by decide) (by omega);omega
theorem Tr{i x:Nat}{b:UInt8}(hi:i<=9)(hx:x<2 ^ (7*i))(hb:i=9->b.toNat<=1) :
    Pb .u64 (x:Int) (IntKind.u64.wrap ((IntKind.u64.wrap (fU .u8 (b.toNat:Int) (127:Int)))*2 ^ (min ((IntKind.u64.wrap ((7:Int)*(IntKind.u64.wrap (i:Int))))).toNat IntKind.u64.bits)))
      = ((x+b.toNat%128*2 ^ (7*i):Nat):Int):=by
  have hlt:=Hz (b:=b.toNat) hi hx hb;have h1:IntKind.u64.wrap (i:Int)=(i:Int):=IntWalk.u64_in _ (by omega);have h2:IntKind.u64.wrap ((7:Int)*(i:Int))=((7*i:Nat):Int):=by rw[IntWalk.u64_in _ (by omega)]; omega
  have h3:min (7*i) IntKind.u64.bits=7*i:=by
    have:IntKind.u64.bits=64:=rfl;omega
  have h4:((b.toNat%128:Nat):Int)*2 ^ (7*i)=((b.toNat%128*2 ^ (7*i):Nat):Int):=by
    rw[Int.natCast_mul,Int.natCast_pow]; rfl
  rw[Jv,h1,h2,Int.toNat_natCast,h3,h4,IntWalk.u64_in _ (by omega)];exact QG hx hlt
theorem drop_cons{l:List UInt8}{i:Nat}{b:UInt8}{t:List UInt8}(h:l.drop i=b :: t):i<l.length/\l[i]? = some b/\l.drop (i+1)=t:=by
  have h1:i<l.length:=by
    rcases Nat.lt_or_ge i l.length with h' | h'
    · exact h'
    · rw[List.drop_of_length_le h'] at h; cases h
  rw[List.drop_eq_getElem_cons h1] at h
  cases h
  exact⟨h1,by simp[h1],rfl⟩
theorem Bo(l:List UInt8)(i:Nat):(bs l).extract i (bs l).size=bs (l.drop i):=by
  apply ByteArray.ext;rw[ByteArray.data_extract];apply Array.toList_inj.1;rw[Array.toList_extract,List.extract_eq_drop_take'];simp[bs,ByteArray.size]
theorem Hh{w0 w:World}{x:Nat}{l:List UInt8}{B:aD}(h:St w0 w (star (AE x l 0) B))(hl:l.length<=4611686018427387904)(most:Nat) :
    CP 37 #[.pointer (some ⟨x,0,none⟩),.int .u64 (most:Int)] w (λ r w'=>match cD l most with
      | .inl e=>r=.int .u64 0/\St w0 w' (star (AE x l (e:Int)) B)
      | .inr (n,t)=>r=.int .u64 (n:Int)/\St w0 w' (star (AE x t 0) B)):=by
  refine A3 ?_;unfold F9;refine aj (IE h) ?_;rintro _ w1 ⟨rfl,rfl⟩;refine⟨_,rfl,cF rfl ?_⟩;refine⟨λ n2 n3 w' m=>∃ (i y:Nat),n3=(i:Int)/\n2=(y:Int)/\i<=9/\i<=l.length/\m=10-i/\y<2 ^ (7*i)/\v8 l 0 0=v8 (l.drop i) i y/\St w0 w' (star (AE x l 0) B),
    ⟨10,0,0,rfl,rfl,by omega,by omega,rfl,by decide,rfl,h⟩,?_⟩
  rintro w2 m n2 n3 ⟨i,y,rfl,rfl,hi,hil,rfl,hy,hr,hst⟩ -;refine⟨_,NQ hst,?_⟩;have hfail:∀ (c:Nat),v8 l 0 0=.inl c->Calls prog 38 #[.pointer (some ⟨x,0,none⟩),.int .i64 (c:Int)] w2 λ e2 w3=>e2=.returned (.tuple #[])/\(match cD l most with
      | .inl e=>Value.int .u64 0=.int .u64 0/\St w0 w3 (star (AE x l (e:Int)) B)
      | .inr (n,t)=>Value.int .u64 0=.int .u64 (n:Int)/\St w0 w3 (star (AE x t 0) B)):=λ c hc=>aj (BO hst (c:Int)) (by
    rintro _ w3 ⟨rfl,h3⟩;refine⟨rfl,?_⟩;unfold cD;rw[hc];exact⟨rfl,h3⟩)
  cases hd:l.drop i with
  | nil =>
    have hlen:i=l.length:=by
      have:=congrArg List.length hd;simp at this; omega
    refine cT (by rw[bY,hlen]; simp) ?_;exact hfail 1 (by rw[hr,hd]; rfl)
  | cons b t =>
    obtain⟨hlt,hget,hdr⟩:=drop_cons hd;refine cF (by rw[bY]; simp; omega) ⟨_,NQ hst,by omega,?_⟩;rw[Int.toNat_natCast,jY,hget];have hbl:=b.toNat_lt;refine⟨λ b3 w'=>w' = w2/\b3=decide (i=9/\1<b.toNat),?_,?_⟩
    rotate_left
    · by_cases h9:i=9
      · exact cT (by rw[h9]; rfl) ⟨rfl,decide_eq_decide.2 ⟨λ h=>⟨h9,by omega⟩,λ h=>by omega⟩⟩
      · exact cF (by simp; omega) ⟨rfl,by simp[h9]⟩
    rintro w4 b3 ⟨rfl,rfl⟩ -
    by_cases hbad:i=9/\1<b.toNat
    · refine cT (dT hbad) (hfail 2 ?_);rw[hr,hd];unfold v8;rw[if_pos hbad]
    · have hb9:i=9->b.toNat<=1:=λ h=>by omega
      have hv:=Tr (b:=b) hi hy hb9;have hvl:=Hz (b:=b.toNat) hi hy hb9;have hstep:v8 l 0 0=if 128<=b.toNat then v8 t (i+1) (y+b.toNat%128*2 ^ (7*i)) else if b.toNat=0/\0<i then .inl 2 else .inr (y+b.toNat*2 ^ (7*i),t):=by
        rw[hr,hd]
        conv=>lhs; unfold v8
        rw[if_neg hbad]
      rw[hv];refine cF (dF hbad) ⟨?_,?_⟩
      · rw[IntWalk.u64_in (i:Int) (by omega),IntWalk.u64_in _ (by omega)]; omega
      by_cases h128:128<=b.toNat
      · rw[if_pos h128] at hstep;have hi9:i<9:=by omega
        refine cT (dT (by omega)) ⟨10-(i+1),by omega,i+1,_,?_,rfl,by omega,by omega,rfl,?_,by rw[hdr]; exact hstep,hst⟩
        · rw[IntWalk.i64_in _ (by omega)]; omega
        · have h1:b.toNat%128<=127:=by omega
          have h2:b.toNat%128*2 ^ (7*i)<=127*2 ^ (7*i):=Nat.mul_le_mul_right _ h1;have h3:2 ^ (7*(i+1))=128*2 ^ (7*i):=by rw[show 7*(i+1)=7*i+7 by omega,Nat.pow_add]; omega
          rw[h3]; omega
      · rw[if_neg h128] at hstep;have hmod:b.toNat%128=b.toNat:=Nat.mod_eq_of_lt (by omega);rw[hmod] at hvl ⊢;refine cF (dF (by omega)) ⟨λ b4 w'=>w' = w4/\b4=decide (b.toNat=0/\0<i),?_,?_⟩
        rotate_left
        · by_cases h0:b.toNat=0
          · exact cT (by rw[h0]; rfl) ⟨rfl,by simp[h0]⟩
          · exact cF (by simp; omega) ⟨rfl,by simp[h0]⟩
        rintro w6 b4 ⟨rfl,rfl⟩ -
        by_cases hz:b.toNat=0/\0<i
        · rw[if_pos hz] at hstep;exact cT (dT hz) (hfail 2 hstep)
        · rw[if_neg hz] at hstep;refine cF (dF hz) ?_
          by_cases hmost:most<y+b.toNat*2 ^ (7*i)
          · refine cT (dT (by omega)) (aj (BO hst 4) ?_);rintro _ w3 ⟨rfl,h3⟩;refine⟨rfl,?_⟩;unfold cD;rw[hstep]
            dsimp only
            rw[if_pos hmost];exact⟨rfl,h3⟩
          · have hi1:IntKind.i64.wrap ((i:Int)+1)=((i+1:Nat):Int):=by rw[IntWalk.i64_in _ (by omega)]; omega
            refine cF (dF (by omega)) ⟨_,NQ hst,by rw[hi1]; omega,by rw[hi1,bY]; omega,?_⟩;rw[hi1,Int.toNat_natCast,Bo,hdr];refine xy hst (by simp) rfl λ w9 h9=>?_;unfold cD;rw[hstep]
            dsimp only
            rw[if_neg hmost];exact⟨rfl,h9⟩
theorem Cd:∀ (l:List UInt8) (i x e:Nat),v8 l i x=.inl e->e≠0
  | [],_,_,e,h=>by unfold v8 at h; cases h; decide
  | b :: l,i,x,e,h=>by
    unfold v8 at h
    split at h
    · cases h; decide
    · split at h
      · exact Cd l _ _ e h
      · split at h
        · cases h; decide
        · cases h
theorem D6:∀ (l:List UInt8) (i x n:Nat) (t:List UInt8),v8 l i x=.inr (n,t)->t.length<l.length
  | [],_,_,_,_,h=>by unfold v8 at h; cases h
  | b :: l,i,x,n,t,h=>by
    unfold v8 at h
    split at h
    · cases h
    · split at h
      · have:=D6 l _ _ n t h; simp; omega
      · split at h
        · cases h
        · cases h; simp
def oQ(l:List UInt8):Option (List UInt8×List UInt8):=match v8 l 0 0 with
  | .inl _=>none
  | .inr (n,t)=>if 4000<n then none else if t.length<n then none else some (t.take n,t.drop n)
structure RS where
  l:List UInt8
  e:Int
def rU(σ:RS)(most:Nat):Nat×RS:=if σ.e=0 then (match cD σ.l most with
  | .inl c=>(0,⟨σ.l,((c:Nat):Int)⟩)
  | .inr (n,t)=>(n,⟨t,0⟩)) else (0,σ)
def rT(σ:RS):List UInt8×RS:=if σ.e=0 then (match cD σ.l 4000 with
  | .inl c=>([],⟨σ.l,((c:Nat):Int)⟩)
  | .inr (n,t)=>if t.length<n then ([],⟨t,1⟩) else (t.take n,⟨t.drop n,0⟩)) else ([],σ)
def rE(σ:RS):Int:=if σ.e=0/\σ.l≠[] then 3 else σ.e
theorem I9{l:List UInt8}{most e:Nat}(h:cD l most=.inl e):e≠0:=by
  unfold cD at h
  split at h
  · rename_i hr; cases h; exact Cd _ _ _ _ hr
  · split at h
    · cases h; decide
    · cases h
theorem lY{l:List UInt8}{most n:Nat}{t:List UInt8}(h:cD l most=.inr (n,t)):t.length<l.length/\n<=most:=by
  unfold cD at h
  split at h
  · cases h
  · rename_i hr
    split at h
    · cases h
    · cases h; exact⟨D6 _ _ _ _ _ hr,by omega⟩
theorem Cb(σ:RS)(most:Nat):(rU σ most).2.l.length<=σ.l.length:=by
  unfold rU
  split
  · cases hr:cD σ.l most with
    | inl c=>exact Nat.le_refl _
    | inr p=>exact Nat.le_of_lt (lY hr).1
  · exact Nat.le_refl _
theorem D4(σ:RS)(most:Nat):(rU σ most).1<=most:=by
  unfold rU
  split
  · cases hr:cD σ.l most with
    | inl c=>exact Nat.zero_le _
    | inr p=>exact(lY hr).2
  · exact Nat.zero_le _
theorem QL(σ:RS):(rT σ).2.l.length<=σ.l.length/\(rT σ).1.length<=4000:=by
  unfold rT
  split
  · cases hr:cD σ.l 4000 with
    | inl c=>exact⟨Nat.le_refl _,Nat.zero_le _⟩
    | inr p =>
      obtain⟨n,t⟩:=p;have h:=lY hr
      dsimp only
      split
      · exact⟨Nat.le_of_lt h.1,Nat.zero_le _⟩
      · exact⟨by rw[List.length_drop]; omega,by rw[List.length_take]; omega⟩
  · exact⟨Nat.le_refl _,Nat.zero_le _⟩
section
variable {w0 w:World} {x:Nat} {l:List UInt8} {σ:RS} {B:aD}
abbrev wS (x:Nat) (σ:RS):aD:=AE x σ.l σ.e
theorem Lc(h:St w0 w (star (wS x σ) B))(hl:σ.l.length<=4611686018427387904)(most:Nat) :
    CP 37 #[.pointer (some ⟨x,0,none⟩),.int .u64 (most:Int)] w (λ r w'=>r=.int .u64 ((rU σ most).1:Nat)/\St w0 w' (star (wS x (rU σ most).2) B)):=by
  obtain⟨l,e⟩:=σ
  by_cases he:e=0
  · subst he;refine aj (Hh h hl most) ?_;intro r w1 hu;refine⟨_,rfl,?_⟩;unfold rU;rw[if_pos rfl];show r=_/\_
    cases hr:cD l most with
    | inl c=>rw[hr] at hu; exact hu
    | inr p=>rw[hr] at hu; exact hu
  · refine A3 ?_;unfold F9;refine aj (IE h) ?_;rintro _ w1 ⟨rfl,rfl⟩;refine⟨_,rfl,cT (by simpa using he) ?_⟩;unfold rU;rw[if_neg he];exact⟨rfl,h⟩
theorem Eb(h:St w0 w (star (AE x l 0) B))(hl:l.length<=4611686018427387904) :
    CP 40 #[.pointer (some ⟨x,0,none⟩),.int .i64 (4000:Int)] w (λ r w'=>r=sv (rT ⟨l,0⟩).1/\St w0 w' (star (wS x (rT ⟨l,0⟩).2) B)):=by
  refine A2 ?_;unfold F8;refine aj (IE h) ?_;rintro _ w1 ⟨rfl,rfl⟩;refine⟨_,rfl,cF rfl ⟨λ n2 w'=>n2=((4000:Nat):Int)/\w' = w1,?_,cT (by decide) ⟨by rw[IntWalk.u64_in _ (by omega)]; rfl,rfl⟩⟩⟩;rintro w2 n2 ⟨rfl,rfl⟩ -;refine aj (Hh h hl 4000) ?_;intro r w3 hu
  cases hr:cD l 4000 with
  | inl e =>
    have hrT:rT ⟨l,0⟩=([],⟨l,((e:Nat):Int)⟩):=by simp[rT,hr]
    rw[hr] at hu;obtain⟨rfl,h3⟩:=hu;have he:((e:Nat):Int)≠0:=by have:=I9 hr; omega
    rw[hrT];refine⟨_,rfl,λ w'=>w' = w3,?_,λ b w'=>b=false/\w' = w3,?_,_,EH h3,cF (by simpa using he) ⟨rfl,rfl⟩⟩
    · rintro w4 rfl -;refine⟨λ w'=>w' = w4,?_,λ b w'=>b=false/\w' = w4,?_,_,EH h3,cF (by simpa using he) ⟨rfl,rfl⟩⟩
      · rintro w5 rfl -;exact⟨_,EH h3,cT (by simpa using he) ⟨rfl,h3⟩⟩
      · rintro w5 b ⟨rfl,rfl⟩ -;exact cF rfl rfl
    · rintro w4 b ⟨rfl,rfl⟩ -;exact cF rfl rfl
  | inr p =>
    obtain⟨n,t⟩:=p;obtain⟨htl,hn4⟩:=lY hr;have hrT:rT ⟨l,0⟩=if t.length<n then ([],⟨t,1⟩) else (t.take n,⟨t.drop n,0⟩):=by simp[rT,hr]
    rw[hr] at hu;obtain⟨rfl,h3⟩:=hu;rw[hrT];refine⟨_,rfl,λ w'=>w' = w3,?_,λ b w'=>b=false/\w' = w3,?_,_,EH h3,cT (by decide) ⟨by decide,rfl⟩⟩
    · rintro w4 rfl -
      by_cases ht:t.length<n
      · rw[if_pos ht];refine⟨λ w'=>St w0 w' (star (AE x t 1) B),?_,λ b w'=>b=true/\w' = w4,?_,_,EH h3,cT (by decide) ⟨_,NQ h3,?_,rfl⟩⟩
        · rintro w5 h5 -;exact⟨_,EH h5,cT (by decide) ⟨rfl,h5⟩⟩
        · rintro w5 b ⟨rfl,rfl⟩ -;refine cT rfl (aj (BO h3 1) ?_);rintro _ w6 ⟨rfl,h6⟩;exact⟨rfl,h6⟩
        · rw[bY,IntWalk.u64_in _ (by omega)];exact dT (by omega)
      · rw[if_neg ht];refine⟨λ w'=>w' = w4,?_,λ b w'=>b=false/\w' = w4,?_,_,EH h3,cT (by decide) ⟨_,NQ h3,?_,rfl⟩⟩
        · rintro w5 rfl -;refine⟨_,EH h3,cF (by decide) ⟨_,NQ h3,by omega,by rw[bY]; omega,_,NQ h3,by omega,by rw[bY]; omega,?_⟩⟩;rw[Int.toNat_natCast,Bo,JG];exact xy h3 (by simp) rfl λ w6 h6=>⟨rfl,h6⟩
        · rintro w5 b ⟨rfl,rfl⟩ -;exact cF rfl rfl
        · rw[bY,IntWalk.u64_in _ (by omega)];exact dF (by omega)
    · rintro w4 b ⟨rfl,rfl⟩ -;exact cF rfl rfl
theorem NW(h:St w0 w (star (AE x l 0) B))(hl:l.length<=4611686018427387904) :
    CP 40 #[.pointer (some ⟨x,0,none⟩),.int .i64 (4000:Int)] w (λ r w'=>match oQ l with
      | none=>∃ (s:List UInt8) (e:Int) (l' : List UInt8),r=LS s/\e≠0/\St w0 w' (star (AE x l' e) B)
      | some (s,t)=>r=LS s/\St w0 w' (star (AE x t 0) B)):=by
  refine aj (Eb h hl) ?_;rintro _ w1 ⟨rfl,hs⟩;refine⟨_,rfl,?_⟩;unfold oQ
  cases hu:v8 l 0 0 with
  | inl e =>
    have h1:cD l 4000=.inl e:=by unfold cD; rw[hu]
    have hrT:rT ⟨l,0⟩=([],⟨l,((e:Nat):Int)⟩):=by simp[rT,h1]
    rw[hrT] at hs ⊢;exact⟨[],_,l,rfl,by have:=Cd _ _ _ _ hu; show((e:Nat):Int)≠0; omega,hs⟩
  | inr p =>
    obtain⟨n,t⟩:=p
    dsimp only
    by_cases h4:4000<n
    · have h1:cD l 4000=.inl 4:=by unfold cD; rw[hu]; dsimp only; rw[if_pos h4]
      have hrT:rT ⟨l,0⟩=([],⟨l,4⟩):=by simp[rT,h1]
      rw[if_pos h4];rw[hrT] at hs ⊢;exact⟨[],_,l,rfl,by show(4:Int)≠0; decide,hs⟩
    · have h1:cD l 4000=.inr (n,t):=by unfold cD; rw[hu]; dsimp only; rw[if_neg h4]
      have hrT:rT ⟨l,0⟩=if t.length<n then ([],⟨t,1⟩) else (t.take n,⟨t.drop n,0⟩):=by simp[rT,h1]
      rw[if_neg h4];rw[hrT] at hs ⊢
      by_cases ht:t.length<n
      · rw[if_pos ht] at hs ⊢;rw[if_pos ht];exact⟨[],_,t,rfl,by show(1:Int)≠0; decide,hs⟩
      · rw[if_neg ht] at hs ⊢;rw[if_neg ht];exact⟨rfl,hs⟩
theorem Te(h:St w0 w (star (wS x σ) B))(hl:σ.l.length<=4611686018427387904) :
    CP 40 #[.pointer (some ⟨x,0,none⟩),.int .i64 (4000:Int)] w (λ r w'=>r=sv (rT σ).1/\St w0 w' (star (wS x (rT σ).2) B)):=by
  obtain⟨l,e⟩:=σ
  by_cases he:e=0
  · subst he; exact Eb h hl
  · refine A2 ?_;unfold F8;refine aj (IE h) ?_;rintro _ w1 ⟨rfl,rfl⟩;refine⟨_,rfl,cT (by simpa using he) ?_⟩;unfold rT;rw[if_neg he];exact⟨rfl,h⟩
theorem Sb(h:St w0 w (star (wS x σ) B))(n:Int)(he:σ.e=0):CP 38 #[.pointer (some ⟨x,0,none⟩),.int .i64 n] w (λ r w'=>r=.tuple #[]/\St w0 w' (star (wS x ⟨σ.l,n⟩) B)) :=
  BO (by rw[<- he]; exact h) n
theorem Sa(h:St w0 w (star (wS x σ) B))(n:Int)(he:σ.e≠0):CP 38 #[.pointer (some ⟨x,0,none⟩),.int .i64 n] w (λ r w'=>r=.tuple #[]/\w' = w):=by
  refine Ey ?_;unfold Mc;refine⟨λ b w'=>b=false/\w' = w,?_,σ.e,EH h,by simpa using he,rfl⟩;rintro w1 b ⟨rfl,rfl⟩ -;exact cF rfl ⟨rfl,rfl⟩
theorem R9(h:St w0 w (star (wS x σ) B)):CP 41 #[.pointer (some ⟨x,0,none⟩)] w (λ r w'=>r=iv (rE σ)/\St w0 w' (star (wS x ⟨σ.l,rE σ⟩) B)):=by
  refine Ox ?_;unfold SG;refine⟨λ w'=>St w0 w' (star (wS x ⟨σ.l,rE σ⟩) B),?_,?_⟩
  · rintro w1 h1 -;refine aj (J2 h1) ?_;rintro _ w2 ⟨rfl,rfl⟩;exact⟨_,rfl,rfl,h1⟩
  · refine⟨λ b w'=>b=decide (σ.e=0/\σ.l≠[])/\w' = w,?_,aj (IE h) ?_⟩
    · rintro w3 b ⟨rfl,rfl⟩ -
      by_cases g:σ.e=0/\σ.l≠[]
      · refine cT (dT g) (aj (Sb h 3 g.1) ?_);rintro _ w4 ⟨rfl,h4⟩;exact⟨rfl,by unfold rE; rw[if_pos g]; exact h4⟩
      · exact cF (dF g) (by unfold rE; rw[if_neg g]; exact h)
    · rintro _ w5 ⟨rfl,rfl⟩;refine⟨_,rfl,?_⟩
      by_cases he:σ.e=0
      · refine cT (by simpa using he) ⟨_,NQ h,?_,rfl⟩;rw[ia,ia]
        cases hl:σ.l with
        | nil=>rw[dF λ h=>h.2 rfl]; rfl
        | cons c l=>rw[dT ⟨he,by simp⟩]; rfl
      · exact cF (by simpa using he) ⟨by rw[dF λ h=>he h.1],rfl⟩
end
end Go.Proofs.YtpihmghnbplohaaGreatDoor
