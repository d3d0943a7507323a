import Derived.Test.YtjpbdjhaajdepaaGreatDoorM02
import Derived.Test.YtjpbdjhaajdepaaGreatDoorM31
set_option linter.unusedVariables false
set_option maxRecDepth 100000
noncomputable section
namespace Go.Gx
open Go Go.Vc
def GZ(P:Program)(K:Value->List Deferred->World->Prop):Next->World->Prop
  | .value v,w=>K v [] w
  | .skip,w=>K undef [] w
  | .defer d,w=>K undef [d] w
  | .enter f args,w=>Calls P f args w λ e w'=>∃ v,e=.returned v/\K v [] w'
  | .round l f tmps assign body,w=>RoundIn Fence.wide 0 P l f tmps assign body w λ e w'=>∃ v,e=.returned v/\K v [] w'
  | _,_=>False
def Mc(P:Program)(o:Oper)(t:Tm)(w:World)(K:Value->List Deferred->World->Prop):Prop:=∃ n w',(execOp (ev t) o).run P w=.ok n w'/\GZ P K n w'
def Vg(P:Program)(o:Oper)(t:Tm)(w:World)(K:Value->List (World->Prop)->Prop):Prop:=∃ v T,K v T/\holds T w/\∀ w',holds T w'->(execOp (ev t) o).run P w' = .ok (.value v) w'
theorem IZ{ro:Option Nat}{o:Oper}(hd:ro=none\/cP o.op=true)(r:Operand->Value):o.semAt (FW ro).round r=execOp r o:=by
  rcases hd with rfl | hd
  · rfl
  · exact Oper.semAt_eq _ _ _ (gy hd)
theorem KT{P:Program}{ro:Option Nat}{o:Oper}{t:Tm}{d:List Deferred}{w:World}{K:Value->List Deferred->World->Prop}{N:Act->World->Prop}{Q:Exit->Act->World->Prop}(hd:ro=none\/cP o.op=true)(hN:∀ v nd w',K v nd w'->N (fm (pt t o.dst v) (nd++d)) w')(h:Mc P o t w K):o.wpIn (FW ro) 0 P (fm t d) w N Q:=by
  obtain⟨n,w',hr,hk⟩:=h;refine⟨λ _ _=>trivial,?_⟩;rw[IZ hd,fG,hr]
  cases n<;>simp only[GZ] at hk<;>simp only[Oper.uponIn]
  · rw[cj]; exact hN _ _ _ hk
  · rw[cj]; exact hN _ _ _ hk
  · rename_i f args;refine⟨λ h=>(by cases h),?_⟩;have h1:CallsIn Fence.wide 0 P _ _ w' _:=callsIn_wide.2 hk;refine CallsIn.mono (show CallsIn (FW ro) 0 P _ _ w' _ from h1) λ e w'' he=>?_;obtain⟨v,rfl,hv⟩:=he;show N ((fm t d).put o.dst v) w'';rw[cj];exact hN _ _ _ hv
  · refine⟨λ h=>(by cases h),RoundIn.mono (show RoundIn (FW ro) 0 P _ _ _ _ _ w' _ from hk) λ e w'' he=>?_⟩;obtain⟨v,rfl,hv⟩:=he;show N ((fm t d).put o.dst v) w'';rw[cj];exact hN _ _ _ hv
  · rename_i dd;have:({ (fm t d) with defers:=dd :: (fm t d).defers }:Act)=fm t (dd :: d):=rfl;rw[this,cj];exact hN _ _ _ hk
def Cb(P:Program)(ops:Array Oper):List Oper->Tm->List Deferred->World->(Tm->List Deferred->World->Prop)->Prop
  | [],t,d,w,K=>K t d w
  | o :: rest,t,d,w,K=>gd ops t o (λ t=>Mc P o t w λ v nd w'=>Cb P ops rest (pt t o.dst v) (nd++d) w' K) (λ t=>Cb P ops rest (pt t o.dst undef) d w K)
theorem Cc{P:Program}{ro:Option Nat}{ops:Array Oper}{Q:Exit->Act->World->Prop}:∀ (l:List Oper) (t:Tm) (d:List Deferred) (w:World) (K:Tm->List Deferred->World->Prop),
    (ro=none\/cJ l=true)->(∀ t d w,K t d w->Q .normal (fm t d) w)->Cb P ops l t d w K->wpListIn (FW ro) 0 P ops Q l (fm t d) w
  | [],t,d,w,K,_,hK,h=>hK _ _ _ h
  | o :: rest,t,d,w,K,hn,hK,h=>by
    have hn1:ro=none\/cP o.op=true:=hn.imp id λ h=>by simp only[cJ,List.all_cons,Bool.and_eq_true] at h; exact h.1
    have hn2:ro=none\/cJ rest=true:=hn.imp id λ h=>by simp only[cJ,List.all_cons,Bool.and_eq_true] at h; exact h.2
    unfold wpListIn;rcases mu (dd:=d) h with⟨hw,h⟩ | ⟨hw,h⟩
    · rw[if_pos hw];exact KT hn1 (λ v nd w' h'=>Cc rest _ _ _ K hn2 hK h') h
    · rw[if_neg (by simpa using hw),cj];exact⟨λ _ _=>trivial,Cc rest _ _ _ K hn2 hK h⟩
def fA(P:Program)(ops:Array Oper):Nat->Array Bool->kj->Tm->World->(Tm->World->Prop)->Prop
  | 0,listed,_,t,w,K=>cond (Region.ready .any ops listed).isEmpty (K t w) False
  | n+1,listed,pend,t,w,K =>
    match pick ops (Region.ready .any ops listed) with
    | some i=>match ops[i]? with
      | none=>False
      | some o=>cond (Region.free .any ops listed i) (gd ops t o (λ t=>Vg P o t w λ v T=>fA P ops n (listed.setIfInBounds i true) ((i,T) :: pend) (pt t o.dst v) w K)
          (λ t=>fA P ops n (listed.setIfInBounds i true) pend (pt t o.dst undef) w K)) False
    | none=>match Region.ready .any ops listed with
      | []=>K t w
      | i :: is=>Jw ((i :: is).map λ i=>match ops[i]? with
        | none=>False
        | some o=>gd ops t o
          (λ t=>Mc P o t w λ v nd w'=>nd=[]/\zK (drop ops i pend) w' (fA P ops n (listed.setIfInBounds i true) (drop ops i pend) (pt t o.dst v) w' K))
          (λ t=>fA P ops n (listed.setIfInBounds i true) (drop ops i pend) (pt t o.dst undef) w K))
theorem sR{ro:Option Nat}{P:Program}{ops:Array Oper}{dd:List Deferred}{Q:Exit->Act->World->Prop}(hnd:∀ (j:Nat) (o:Oper),ops[j]? = some o->cP o.op=true)(hs:Region.noSelect ops=true)(hQ:∀ c a w,¬ Q (.panic c) a w){K:Tm->World->Prop}(hK:∀ t w,K t w->Q .normal (fm t dd) w) :
    ∀ (n:Nat) (listed:Array Bool) (pend:kj) (t:Tm) (w:World),closed ops listed->(∀ p∈pend,holds p.2 w) ->
    fA P ops n listed pend t w K->kA ro P ops Q n listed pend (fm t dd) w
  | 0,listed,pend,t,w,_,_,h=>by
    obtain⟨h1,h2⟩:=gi h;exact⟨List.isEmpty_iff.1 h1,hK _ _ h2⟩
  | n+1,listed,pend,t,w,hc,hp,h=>by
    unfold fA at h
    split at h
    · rename_i i hi;have hir:=tF hi
      split at h
      · exact h.elim
      · rename_i o ho;obtain⟨hf,h⟩:=gi h;rcases mu h with⟨hw,h⟩ | ⟨hw,h⟩
        · obtain⟨v,T,hk,hT,hr⟩:=h;refine iK hnd ho (Region.noSelect_spec hs) hQ n listed pend (fm t dd) w hc (Region.free_spec ho hf) hir (.inl ⟨hw,λ w' hw'=>by rw[fG]; exact hr w' hw'⟩) hT hp ?_;rw[cj];refine sR hnd hs hQ hK n _ _ _ _ (gw hc hir) ?_ hk;intro p hp';rcases List.mem_cons.1 hp' with rfl | hp'
          · exact hT
          · exact hp p hp'
        · refine iK (T:=[]) hnd ho (Region.noSelect_spec hs) hQ n listed pend (fm t dd) w hc (Region.free_spec ho hf) hir (.inr ⟨hw,rfl⟩) (λ f hf=>by cases hf) hp ?_;rw[cj];refine mN n _ pend _ _ _ (λ p hp'=>?_) (sR hnd hs hQ hK n _ _ _ _ (gw hc hir) hp h);rcases List.mem_cons.1 hp' with rfl | hp'
          · exact .inr rfl
          · exact .inl hp'
    · split at h
      · rename_i hr;exact⟨λ _=>hK _ _ h,λ i hi=>by rw[hr] at hi; cases hi⟩
      · rename_i i0 is hr;refine⟨λ h0=>(by rw[h0] at hr; cases hr),λ i hi=>?_⟩;have hm:(match ops[i]? with
          | none=>False
          | some o=>gd ops t o
            (λ t=>Mc P o t w λ v nd w'=>nd=[]/\zK (drop ops i pend) w' (fA P ops n (listed.setIfInBounds i true) (drop ops i pend) (pt t o.dst v) w' K)) (λ t=>fA P ops n (listed.setIfInBounds i true) (drop ops i pend) (pt t o.dst undef) w K)):=by
          refine pT h _ (List.mem_map.2 ⟨i,by rw[<- hr]; exact hi,rfl⟩)
        have hcs:=gw hc hi;unfold wpOpIn
        cases ho:ops[i]? with
        | none=>rw[ho] at hm; exact hm.elim
        | some o =>
          simp only[ho] at hm ⊢;rcases mu hm with⟨hw,hm⟩ | ⟨hw,hm⟩
          · rw[if_pos hw];refine(KT (.inr (hnd _ _ ho)) (λ v nd w' hv=>?_) hm);obtain⟨rfl,hv⟩:=hv;obtain⟨h1,h2⟩:=pU hv;exact⟨h1,sR hnd hs hQ hK n _ _ _ _ hcs h1 h2⟩
          · rw[if_neg (by simp[hw]),cj];have h1:∀ p∈drop ops i pend,holds p.2 w:=λ p hp'=>hp p ((List.mem_filter.1 hp').1);exact⟨λ _ _=>trivial,h1,sR hnd hs hQ hK n _ _ _ _ hcs h1 hm⟩
def S7:Value->Option AV
  | .int k n=>some (.int k n)
  | .bool b=>some (.bool b)
  | .string s=>some (.str s.data.toList)
  | .pointer none=>some .nilp
  | .slice none 0 0=>some .nils
  | .nilIface=>some .nili
  | .nilFunc=>some .nilf
  | .func (.func f) ⟨[]⟩ ⟨[]⟩=>some (.fn f [] [])
  | .tuple ⟨[]⟩=>some (.tup [])
  | _=>none
def N4:List Value->Option (List AV)
  | []=>some []
  | v :: l=>match S7 v,N4 l with
    | some a,some az=>some (a :: az)
    | _,_=>none
def S8:Value->Option AV
  | .agg ⟨cs⟩=>(N4 cs).map .agg
  | v=>S7 v
theorem KQ{ρ:Names}{v:Value}{a:AV}(h:S7 v=some a):rv ρ a=some v:=by
  unfold S7 at h
  split at h<;>first | (cases h; done) | (cases h; rfl)
theorem KO{ρ:Names}:∀ {l:List Value} {az:List AV},N4 l=some az->dH ρ az=some l
  | [],_,h=>by cases h; rfl
  | v :: l,az,h=>by
    simp only[N4] at h
    cases ha:S7 v with
    | none=>rw[ha] at h; cases h
    | some a =>
      cases hl:N4 l with
      | none=>rw[ha,hl] at h; cases h
      | some bs =>
        rw[ha,hl] at h
        cases h
        exact eL (KQ ha) (KO hl)
theorem KR{ρ:Names}{v:Value}{a:AV}(h:S8 v=some a):rv ρ a=some v:=by
  unfold S8 at h
  split at h
  · rename_i cs
    cases hl:N4 cs with
    | none=>rw[hl] at h; cases h
    | some az =>
      rw[hl] at h
      cases h
      simp only[rv,KO hl,Option.map_some]
  · exact KQ h
def dP(ρ:Names)(e:Tr AV)(t:Tm):Prop:=∀ i a,e.get i=some a->rv ρ a=some (gt t i)
theorem dP.mono{ρ σ:Names}{e:Tr AV}{t:Tm}(h:dP ρ e t)(hx:Ext ρ σ):dP σ e t:=λ i a hi=>Cw hx (h i a hi)
def eW(e:Tr AV):Operand->Option AV
  | .tmp i=>e.get i
  | .const v=>S8 v
  | .func f=>some (.fn f [] [])
  | .global _=>none
theorem aW{ρ:Names}{e:Tr AV}{t:Tm}{x:Operand}{a:AV}(he:dP ρ e t)(h:eW e x=some a):rv ρ a=some (ev t x):=by
  cases x with
  | tmp i=>exact he i a h
  | const v=>exact KR h
  | func f=>cases h; rfl
  | global g=>cases h
def kG(e:Tr AV):List Operand->Option (List AV)
  | []=>some []
  | x :: l=>match eW e x,kG e l with
    | some a,some az=>some (a :: az)
    | _,_=>none
theorem fu{ρ:Names}{e:Tr AV}{t:Tm}(he:dP ρ e t):∀ {l:List Operand} {az:List AV},kG e l=some az->dH ρ az=some (l.map (ev t))
  | [],_,h=>by cases h; rfl
  | x :: l,az,h=>by
    simp only[kG] at h
    cases ha:eW e x with
    | none=>rw[ha] at h; cases h
    | some a =>
      cases hl:kG e l with
      | none=>rw[ha,hl] at h; cases h
      | some bs =>
        rw[ha,hl] at h
        cases h
        exact eL (aW he ha) (fu he hl)
theorem DD:∀ (t:Tm) (i:Nat) (v:Value),i<t.length->gt (st t i v) i=v
  | [],i,_,h=>by simp at h
  | x :: t,0,v,_=>rfl
  | x :: t,i+1,v,h=>DD t i v (by simpa using h)
def wA(N:Nat)(e:Tr AV)(d:Option Nat)(v:AV):Option (Tr AV):=match d with
  | none=>some e
  | some d=>cond (Nat.ble (Nat.succ d) N) (some (e.put d v)) none
theorem pV{ρ:Names}{N:Nat}{e e' : Tr AV}{d:Option Nat}{a:AV}{v:Value}{t:Tm}(h:wA N e d a=some e')(hN:t.length=N)(he:dP ρ e t)(hv:rv ρ a=some v) :
    dP ρ e' (pt t d v)/\(pt t d v).length=N:=by
  cases d with
  | none=>cases h; exact⟨he,hN⟩
  | some d =>
    unfold wA at h
    cases hb:Nat.ble (Nat.succ d) N with
    | false=>simp only[hb,cond_false] at h; cases h
    | true =>
      simp only[hb,cond_true,Option.some.injEq] at h;have hd:d<t.length:=by rw[hN]; exact Nat.le_of_ble_eq_true hb
      subst h;refine⟨λ i b hi=>?_,by rw[show pt t (some d) v=st t d v from rfl,Ax]; exact hN⟩;show rv ρ b=some (gt (st t d v) i);rw[bN] at hi
      split at hi
      · rename_i e1;subst e1
        cases hi
        rw[DD t i v hd]; exact hv
      · rename_i e1;rw[DE t d i v (Ne.symm e1)];exact he i b hi
def SL(n:Nat)(f:Nat->AV):AV:=match n with
  | 0=>f 0
  | m+1=>f (Nat.succ m)
def BS(k:IntKind):Int->AV
  | .ofNat n=>SL n λ n=>.int k (.ofNat n)
  | .negSucc n=>SL n λ n=>.int k (.negSucc n)
theorem eG(k:IntKind)(n:Int):BS k n=.int k n:=by
  cases n with
  | ofNat n=>cases n<;>rfl
  | negSucc n=>cases n<;>rfl
def uw(M:Nat):Int->Int
  | .ofNat a=>.ofNat (Nat.mod a M)
  | .negSucc a=>.ofNat (Nat.sub (Nat.sub M 1) (Nat.mod a M))
def sw(H M:Nat):Int->Int
  | .ofNat a=>cond (Nat.ble (Nat.succ (Nat.mod a M)) H) (.ofNat (Nat.mod a M)) (.negSucc (Nat.sub (Nat.sub M 1) (Nat.mod a M)))
  | .negSucc a=>cond (Nat.ble (Nat.succ (Nat.mod a M)) H) (.negSucc (Nat.mod a M)) (.ofNat (Nat.sub (Nat.sub M 1) (Nat.mod a M)))
def iu:IntKind->Int->Int
  | .u64,n=>uw 18446744073709551616 n
  | .i64,n=>sw 9223372036854775808 18446744073709551616 n
  | .u8,n=>uw 256 n
  | .i8,n=>sw 128 256 n
  | .u16,n=>uw 65536 n
  | .i16,n=>sw 32768 65536 n
  | .u32,n=>uw 4294967296 n
  | .i32,n=>sw 2147483648 4294967296 n
theorem Ez(M:Nat)(hM:0<M)(n:Int):uw M n=n%(M:Int):=by
  cases n with
  | ofNat a=>rfl
  | negSucc a =>
    show((M-1-a%M:Nat):Int)=_;have h1:=Nat.mod_lt a hM;have h2:Int.negSucc a=-((a:Int)+1):=Int.negSucc_eq a;rw[h2];have h3:=Nat.div_add_mod a M;have h4 : -((a:Int)+1)=((M-1-a%M:Nat):Int)+(M:Int)*(-((a / M:Nat):Int)-1):=by
      have:((M-1-a%M:Nat):Int)=(M:Int)-1-((a%M:Nat):Int):=by omega
      rw[this];have h5:(a:Int)=(M:Int)*((a / M:Nat):Int)+((a%M:Nat):Int):=by
        rw[<- Int.natCast_mul,<- Int.natCast_add,h3]
      rw[Int.mul_sub,Int.mul_neg];omega
    rw[h4,Int.add_mul_emod_self_left,Int.emod_eq_of_lt (by omega) (by omega)]
theorem HB(H M:Nat)(hM:M=2*H)(hH:0<H)(n:Int):sw H M n=if n%(M:Int)>=(H:Int) then n%(M:Int)-(M:Int) else n%(M:Int):=by
  have hMp:0<M:=by omega
  rw[<- Ez M hMp]
  cases n with
  | ofNat a =>
    have h1:=Nat.mod_lt a hMp;show cond (Nat.ble (Nat.succ (a%M)) H) (Int.ofNat (a%M)) (Int.negSucc (M-1-a%M))=if (Int.ofNat (a%M))>=(H:Int) then Int.ofNat (a%M)-(M:Int) else Int.ofNat (a%M)
    cases hb:Nat.ble (Nat.succ (a%M)) H with
    | true =>
      have:=Nat.le_of_ble_eq_true hb;rw[if_neg (by simp only[Int.ofNat_eq_natCast]; omega)]; rfl
    | false =>
      have : ¬ (a%M+1<=H):=λ h=>by rw[Nat.ble_eq_true_of_le h] at hb; cases hb
      rw[if_pos (by simp only[Int.ofNat_eq_natCast]; omega)];simp only[cond_false,Int.negSucc_eq,Int.ofNat_eq_natCast];omega
  | negSucc a =>
    have h1:=Nat.mod_lt a hMp;show cond (Nat.ble (Nat.succ (a%M)) H) (Int.negSucc (a%M)) (Int.ofNat (M-1-a%M))=if (Int.ofNat (M-1-a%M))>=(H:Int) then Int.ofNat (M-1-a%M)-(M:Int) else Int.ofNat (M-1-a%M)
    cases hb:Nat.ble (Nat.succ (a%M)) H with
    | true =>
      have:=Nat.le_of_ble_eq_true hb;rw[if_pos (by simp only[Int.ofNat_eq_natCast]; omega)];simp only[cond_true,Int.negSucc_eq,Int.ofNat_eq_natCast];omega
    | false =>
      have : ¬ (a%M+1<=H):=λ h=>by rw[Nat.ble_eq_true_of_le h] at hb; cases hb
      rw[if_neg (by simp only[Int.ofNat_eq_natCast]; omega)]; rfl
theorem dD(k:IntKind)(n:Int):iu k n=k.wrap n:=by
  cases k<;>simp only[iu,IntKind.wrap,IntKind.signed,IntKind.bits,Bool.true_and,Bool.false_and,Bool.false_eq_true,if_false]
  · rw[HB _ _ rfl (by decide)]; simp
  · rw[HB _ _ rfl (by decide)]; simp
  · rw[HB _ _ rfl (by decide)]; simp
  · rw[HB _ _ rfl (by decide)]; simp
  · rw[Ez _ (by decide)]; rfl
  · rw[Ez _ (by decide)]; rfl
  · rw[Ez _ (by decide)]; rfl
  · rw[Ez _ (by decide)]; rfl
def Jj:Int->Int->Bool
  | .ofNat a,.ofNat b=>Nat.beq a b
  | .negSucc a,.negSucc b=>Nat.beq a b
  | _,_=>false
def DI:Int->Int->Bool
  | .ofNat a,.ofNat b=>Nat.ble a b
  | .negSucc a,.negSucc b=>Nat.ble b a
  | .negSucc _,.ofNat _=>true
  | .ofNat _,.negSucc _=>false
theorem KG(a b:Nat):Nat.beq a b=decide (a=b):=by
  by_cases h:a=b
  · subst h; simp[Nat.beq_refl]
  · simp[h,Bu h]
theorem Re(a b:Nat):Nat.ble a b=decide (a<=b):=by
  cases hb:Nat.ble a b with
  | true=>simp[Nat.le_of_ble_eq_true hb]
  | false =>
    have : ¬ a<=b:=λ h=>by rw[Nat.ble_eq_true_of_le h] at hb; cases hb
    simp[this]
theorem uK(a b:Int):Jj a b=(a==b):=by
  cases a<;>cases b<;>simp only[Jj,KG]<;>rw[Bool.eq_iff_iff]<;>simp<;>omega
theorem uL(a b:Int):DI a b=decide (a<=b):=by
  cases a<;>cases b<;>simp only[DI,Re]<;>rw[Bool.eq_iff_iff]<;>simp[Int.negSucc_eq]<;>omega
def BV(op:BinOp)(k:IntKind)(a b:Int):Option AV:=match op with
  | .add=>some (BS k (iu k (Int.add a b)))
  | .sub=>some (BS k (iu k (Int.sub a b)))
  | .mul=>some (BS k (iu k (Int.mul a b)))
  | .quo=>cond (Jj b 0) none (some (BS k (iu k (Int.tdiv a b))))
  | .rem=>cond (Jj b 0) none (some (BS k (Int.tmod a b)))
  | .and=>some (BS k (iu k ((BitVec.ofInt k.bits a &&& BitVec.ofInt k.bits b).toNat:Int)))
  | .or=>some (BS k (iu k ((BitVec.ofInt k.bits a ||| BitVec.ofInt k.bits b).toNat:Int)))
  | .xor=>some (BS k (iu k ((BitVec.ofInt k.bits a ^^^ BitVec.ofInt k.bits b).toNat:Int)))
  | .andNot=>some (BS k (iu k ((BitVec.ofInt k.bits a &&& ~~~BitVec.ofInt k.bits b).toNat:Int)))
  | .eql=>some (.bool (Jj a b))
  | .neq=>some (.bool (not (Jj a b)))
  | .leq=>some (.bool (DI a b))
  | .geq=>some (.bool (DI b a))
  | .lss=>some (.bool (not (DI b a)))
  | .gtr=>some (.bool (not (DI a b)))
  | _=>none
def Ih(op:BinOp)(k:IntKind)(a b:Int):Option AV:=cond (DI 0 b) (match op with
  | .shl=>some (BS k (iu k (a*2 ^ (min b.toNat k.bits))))
  | .shr=>some (BS k (a.fdiv (2 ^ (min b.toNat k.bits))))
  | _=>none) none
def BZ:List UInt8->List UInt8->Bool
  | [],[]=>true
  | a :: l,b :: m=>cond (Nat.beq a.toNat b.toNat) (BZ l m) false
  | _,_=>false
theorem mB:∀ (l m:List UInt8),BZ l m=(l==m)
  | [],[]=>rfl
  | [],_ :: _=>rfl
  | _ :: _,[]=>rfl
  | a :: l,b :: m=>by
    unfold BZ;rw[KG,mB l m]
    by_cases h:a=b
    · subst h; simp
    · have : ¬ a.toNat=b.toNat:=λ e=>h (UInt8.toNat.inj e);simp[this,h]
def QK(op:BinOp)(a b:List UInt8):Option AV:=match op with
  | .add=>cond (Nat.ble (a.length+b.length) 9223372036854775807) (some (.str (a++b))) none
  | .eql=>some (.bool (BZ a b))
  | .neq=>some (.bool (not (BZ a b)))
  | .lss=>some (.bool (Op.bytesLess a b))
  | .leq=>some (.bool (or (Op.bytesLess a b) (BZ a b)))
  | .gtr=>some (.bool (not (or (Op.bytesLess a b) (BZ a b))))
  | .geq=>some (.bool (not (Op.bytesLess a b)))
  | _=>none
def vV(P:Program)(e:TypeId)(cs:List AV)(off:Nat):Option AV :=
  match P.underlying e,cZ P e with
  | some d,some sz=>cond (uM d) (some (.agg ((cs.drop off).take sz))) cs[off]?
  | _,_=>none
def geq(P:Program):Nat->TypeId->AV->AV->Option Bool
  | 0,_,_,_=>none
  | d+1,t,x,y =>
    match P.underlying t with
    | some .bool=>match x,y with
      | .bool a,.bool b=>some (a==b)
      | _,_=>none
    | some (.int _)=>match x,y with
      | .int k a,.int k' b=>cond (Dp k k') (some (Jj a b)) none
      | _,_=>none
    | some .string=>match x,y with
      | .str a,.str b=>some (BZ a b)
      | _,_=>none
    | some (.struct fs)=>match x,y with
      | .agg xs,.agg ys=>cond (P.stoodInHeld t||fs.toList.any λ f=>f.name== "_") none
          (ru (fs.toList.map λ f=>match vV P f.type xs f.offset,vV P f.type ys f.offset with
            | some a,some b=>geq P d f.type a b
            | _,_=>none))
      | _,_=>none
    | some (.array n e)=>match x,y with
      | .agg xs,.agg ys=>match cZ P e with
        | none=>none
        | some sz=>ru ((List.range n).map λ i=>match vV P e xs (i*sz),vV P e ys (i*sz) with
            | some a,some b=>geq P d e a b
            | _,_=>none)
      | _,_=>none
    | _=>none
theorem lu{P:Program}{ρ:Names}{e:TypeId}{cs:List AV}{vs:List Value}{off:Nat}{a:AV}(h:vV P e cs off=some a)(hv:dH ρ cs=some vs) :
    ∃ v,oT P e vs.toArray off=some v/\rv ρ a=some v:=by
  unfold vV at h;unfold oT
  split at h
  · rename_i d sz hu hs;simp only[hu,hs]
    cases hd:uM d with
    | true =>
      rw[hd] at h
      cases h
      refine⟨_,rfl,?_⟩;simp only[rv,o9 sz (zb off hv),Option.map_some]
      congr 2
      simp
    | false =>
      rw[hd] at h;obtain⟨v,h1,h2⟩:=tP hv h;exact⟨v,by simpa using h1,h2⟩
  · cases h
theorem xJ{α:Type}{f g:α->Option Bool}(hfg:∀ a b,f a=some b->g a=some b):∀ (l:List α) (b:Bool),ru (l.map f)=some b->ru (l.map g)=some b
  | [],_,h=>h
  | a :: l,b,h=>by
    simp only[List.map_cons] at h ⊢
    cases hf:f a with
    | none=>rw[hf] at h; simp[ru] at h
    | some c =>
      rw[hf] at h;rw[hfg a c hf];simp only[ru] at h ⊢
      cases hr:ru (l.map f) with
      | none=>rw[hr] at h; cases h
      | some r=>rw[hr] at h; rw[xJ hfg l r hr]; exact h
theorem bX{ρ:Names}{k:IntKind}{n:Int}{v:Value}(h:rv ρ (.int k n)=some v):v=.int k n:=(Option.some.inj h).symm
theorem fK{ρ:Names}{b:Bool}{v:Value}(h:rv ρ (.bool b)=some v):v=.bool b:=(Option.some.inj h).symm
theorem fM{ρ:Names}{l:List UInt8}{v:Value}(h:rv ρ (.str l)=some v):v=.string ⟨l.toArray⟩:=(Option.some.inj h).symm
theorem mF{ρ:Names}{cs:List AV}{v:Value}(h:rv ρ (.agg cs)=some v):∃ vs,dH ρ cs=some vs/\v=.agg vs.toArray:=by
  simp only[rv,Option.map_eq_some_iff] at h;obtain⟨l,hl,rfl⟩:=h;exact⟨l,hl,rfl⟩
theorem FP{ρ:Names}{cs:List AV}{v:Value}(h:rv ρ (.tup cs)=some v):∃ vs,dH ρ cs=some vs/\v=.tuple vs.toArray:=by
  simp only[rv,Option.map_eq_some_iff] at h;obtain⟨l,hl,rfl⟩:=h;exact⟨l,hl,rfl⟩
theorem fL{ρ:Names}{i o:Nat}{v:Value}(h:rv ρ (.ptr i o)=some v):∃ L,ρ i=some L/\v=.pointer (some ⟨L.b,o,none⟩):=by
  simp only[rv,Option.map_eq_some_iff] at h;obtain⟨l,hl,rfl⟩:=h;exact⟨l,hl,rfl⟩
theorem cY{ρ:Names}{i o l z:Nat}{v:Value}(h:rv ρ (.sli i o l z)=some v):∃ L,ρ i=some L/\o+l<=L.tot/\L.esz=z/\v=.slice (some ⟨L.b,o*z,none⟩) l (L.tot-o):=by
  simp only[rv,Option.bind_eq_some_iff] at h;obtain⟨L,hL,h⟩:=h
  split at h
  · rename_i hc;exact⟨L,hL,hc.1,hc.2,(Option.some.inj h).symm⟩
  · cases h
theorem BU{P:Program}{ρ:Names}:∀ (d:Nat) (t:TypeId) (x y:AV) (vx vy:Value) (b:Bool),geq P d t x y=some b->rv ρ x=some vx->rv ρ y=some vy->Me P d t vx vy=some b
  | 0,_,_,_,_,_,_,h,_,_=>by cases h
  | d+1,t,x,y,vx,vy,b,h,hx,hy=>by
    unfold geq at h;unfold Me
    split at h
    · rename_i hu;simp only[hu]
      split at h
      · cases fK hx; cases fK hy; exact h
      · cases h
    · rename_i k hu;simp only[hu]
      split at h
      · cases bX hx; cases bX hy
        rw[uK] at h; exact h
      · cases h
    · rename_i hu;simp only[hu]
      split at h
      · rename_i a b'
        cases fM hx; cases fM hy
        rw[mB] at h;simp only[Option.some.injEq] at h ⊢;rw[<- h];rw[Bool.eq_iff_iff];show(a.toArray==b'.toArray)=true<->(a==b')=true
        simp
      · cases h
    · rename_i fs hu;simp only[hu]
      split at h
      · rename_i xs ys;obtain⟨vxs,hxs,rfl⟩:=mF hx;obtain⟨vys,hys,rfl⟩:=mF hy
        cases hs:(P.stoodInHeld t||fs.toList.any λ f=>f.name== "_") with
        | true=>rw[hs] at h; cases h
        | false =>
          rw[hs] at h;simp only[cond_false] at h ⊢;refine xJ (λ f c hf=>?_) _ _ h
          split at hf
          · rename_i a b' ha hb;obtain⟨va,h1,h2⟩:=lu ha hxs;obtain⟨vb,h3,h4⟩:=lu hb hys;simp only[h1,h3];exact BU d f.type a b' va vb c hf h2 h4
          · cases hf
      · cases h
    · rename_i n e hu;simp only[hu]
      split at h
      · rename_i xs ys;obtain⟨vxs,hxs,rfl⟩:=mF hx;obtain⟨vys,hys,rfl⟩:=mF hy
        split at h
        · cases h
        · rename_i sz hsz;simp only[hsz];refine xJ (λ f c hf=>?_) _ _ h
          split at hf
          · rename_i a b' ha hb;obtain⟨va,h1,h2⟩:=lu ha hxs;obtain⟨vb,h3,h4⟩:=lu hb hys;simp only[h1,h3];exact BU d e a b' va vb c hf h2 h4
          · cases hf
      · cases h
    · cases h
end Go.Gx
