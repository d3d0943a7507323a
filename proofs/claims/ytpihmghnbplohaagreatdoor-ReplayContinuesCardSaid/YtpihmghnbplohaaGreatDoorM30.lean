import Derived.Test.YtpihmghnbplohaaGreatDoorProg
import Derived.KernelRfl
import Derived.Test.YtpihmghnbplohaaGreatDoorM02
import Derived.Test.YtpihmghnbplohaaGreatDoorM27
import Derived.Test.YtpihmghnbplohaaGreatDoorM28
import Derived.Test.YtpihmghnbplohaaGreatDoorM29
set_option linter.unusedVariables false
set_option maxRecDepth 100000
namespace Go.Proofs.YtpihmghnbplohaaGreatDoor
open Go Go.Vc Tryz
theorem AF:∀ (l:List UInt8) (i x n:Nat) (t:List UInt8),i<=9->v8 l i x=.inr (n,t)->∃ y,n=x+y*2 ^ (7*i)/\l=hO (9-i) y++t/\(0<i->0<y)
  | [],_,_,_,_,_,h=>by unfold v8 at h; cases h
  | b :: l,i,x,n,t,hi,h=>by
    have hbl:=b.toNat_lt;have hof:UInt8.ofNat b.toNat=b:=UInt8.ofNat_toNat;unfold v8 at h
    split at h
    · cases h
    · rename_i h9
      split at h
      · rename_i h128;have hi9:i<=8:=by omega
        obtain⟨y,hn,hl,hy⟩:=AF l (i+1) _ n t (by omega) h;have hy:=hy (by omega);refine⟨b.toNat%128+128*y,?_,?_,λ _=>by omega⟩
        · rw[hn,show 7*(i+1)=7*i+7 by omega,Nat.pow_add,Nat.add_mul];have:y*(2 ^ (7*i)*2 ^ 7)=128*y*2 ^ (7*i):=by
            rw[show(2:Nat) ^ 7=128 from rfl,Nat.mul_comm (2 ^ (7*i)) 128,<- Nat.mul_assoc,Nat.mul_comm y 128]
          omega
        · obtain⟨k,hk⟩:∃ k,9-i=k+1:=⟨8-i,by omega⟩;rw[hk];unfold hO;rw[if_neg (by omega),show(b.toNat%128+128*y)%128+128=b.toNat by omega,hof,show(b.toNat%128+128*y) / 128=y by omega,hl,show 9-(i+1)=k by omega];rfl
      · rename_i h128
        split at h
        · cases h
        · rename_i hz
          cases h
          refine⟨b.toNat,rfl,?_,λ _=>by omega⟩;have:hO (9-i) b.toNat=[b]:=by
            cases 9-i with
            | zero=>unfold hO; rw[Nat.mod_eq_of_lt (by omega),hof]
            | succ k=>unfold hO; rw[if_pos (by omega),Nat.mod_eq_of_lt (by omega),hof]
          rw[this];rfl
theorem oR{l s t:List UInt8}(h:oQ l=some (s,t)):l=cN s++t/\s.length<=4000:=by
  unfold oQ at h
  split at h
  · cases h
  · rename_i n t' hr
    split at h
    · cases h
    · split at h
      · cases h
      · rename_i h4 ht
        cases h
        obtain⟨y,hn,hl,_⟩:=AF _ _ _ _ _ (by decide) hr;have hny:n=y:=by simpa using hn
        subst hny;have hlen:(t'.take n).length=n:=by rw[List.length_take]; omega
        refine⟨?_,by omega⟩;unfold cN hU;rw[hlen,List.append_assoc,List.take_append_drop];exact hl
structure eJ where
  s:List UInt8
  head:Nat
  till:Nat
def gq:Nat->List UInt8->Nat->Nat->List eJ
  | 0,_,_,_=>[]
  | k+1,l,at_,h=>match oQ l with
    | none=>[]
    | some (s,t)=>if t.take 8=sA 8 (aE h s) then ⟨s,aE h s,at_+(aO s (aE h s)).length⟩ :: gq k (t.drop 8) (at_+(aO s (aE h s)).length) (aE h s) else []
def cV(l:List UInt8):List eJ:=gq l.length l 0 0
theorem lK{l s t:List UInt8}{h:Nat}(hr:oQ l=some (s,t))(ht:t.take 8=sA 8 h):l=aO s h++t.drop 8/\8<=t.length/\(aO s h).length=l.length-t.length+8:=by
  have h8:8<=t.length:=by
    have:=congrArg List.length ht;rw[aJ,List.length_take] at this;omega
  obtain⟨hl,_⟩:=oR hr;refine⟨?_,h8,?_⟩
  · rw[hl];unfold aO;rw[<- ht,List.append_assoc,List.take_append_drop]
  · unfold aO;rw[List.length_append,aJ,hl,List.length_append];omega
theorem yf{k at_ h:Nat}{l:List UInt8}(hr:oQ l=none):gq k l at_ h=[]:=by
  cases k with
  | zero=>rfl
  | succ k=>unfold gq; rw[hr]
theorem uf{k at_ h:Nat}{l s t:List UInt8}(hr:oQ l=some (s,t))(ht:t.take 8≠sA 8 (aE h s)):gq k l at_ h=[]:=by
  cases k with
  | zero=>rfl
  | succ k=>unfold gq; rw[hr]; dsimp only; rw[if_neg ht]
theorem qN{k at_ h:Nat}{l s t:List UInt8}(hr:oQ l=some (s,t))(ht:t.take 8=sA 8 (aE h s)) :
    gq (k+1) l at_ h=⟨s,aE h s,at_+(aO s (aE h s)).length⟩ :: gq k (t.drop 8) (at_+(aO s (aE h s)).length) (aE h s):=by
  conv=>lhs; unfold gq
  rw[hr]; dsimp only; rw[if_pos ht]
def bt(pre:List eJ):Nat:=(pre.getLast?.map (·.till)).getD 0
theorem F5(pre:List eJ)(e:eJ):bt (pre++[e])=e.till:=by simp[bt]
theorem An:∀ (k:Nat) (l:List UInt8) (a h:Nat),(gq k l a h).length<=l.length
  | 0,_,_,_=>Nat.zero_le _
  | k+1,l,a,h=>by
    unfold gq
    split
    · exact Nat.zero_le _
    · rename_i s t hr
      split
      · rename_i ht;obtain⟨hl,h8,_⟩:=lK hr ht;have:=An k (t.drop 8) (a+(aO s (aE h s)).length) (aE h s);have h1:=congrArg List.length hl;simp only[List.length_append,List.length_drop,List.length_cons] at h1 this ⊢;unfold aO at h1;rw[List.length_append,aJ] at h1;omega
      · exact Nat.zero_le _
theorem MB{w0 w:World}{x:Nat}{cs:Array Value}{T:TypeId}{B:aD}{R:World->Prop}(h:St w0 w (star (ai x cs T) B))(vs:List Value)(hn:vs.length=cs.size)(h1:∀ v∈vs,v.oneCell' = true)(k:∀ w',St w0 w' (star (ai x vs.toArray T) B)->R w'):aQ ⟨x,0,none⟩ 0 vs w R:=by
  obtain⟨F,⟨ho,rfl⟩,use⟩:=h.use;refine yY vs 0 w cs ho (by omega) h1 λ w' hb hc _=>k w' (use w' (ai x vs.toArray T) ⟨[x],⟨?_,rfl⟩,hc,λ j hj=>.inl hj⟩);rw[hb];have:cs.toList.drop (0+0+vs.length)=[]:=List.drop_of_length_le (by simp; omega);rw[this]
  simp
def gR(h:Nat)(l:List (List UInt8)):Nat:=l.foldl aE h
def aR:Nat->List (List UInt8)->List UInt8
  | _,[]=>[]
  | h,s :: l=>aO s (aE h s)++aR (aE h s) l
def mA:Nat->Nat->List (List UInt8)->List eJ
  | _,_,[]=>[]
  | a,h,s :: l=>⟨s,aE h s,a+(aO s (aE h s)).length⟩ :: mA (a+(aO s (aE h s)).length) (aE h s) l
def xZ:Nat->List (List UInt8)->List Nat
  | _,[]=>[]
  | h,s :: l=>aE h s :: xZ (aE h s) l
theorem Ib(h:Nat):gR h []=h:=rfl
theorem lM(h:Nat)(s:List UInt8)(l:List (List UInt8)):gR h (s :: l)=gR (aE h s) l:=List.foldl_cons ..
theorem Dl(h:Nat):aR h []=[]:=rfl
theorem eV(h:Nat)(s:List UInt8)(l:List (List UInt8)):aR h (s :: l)=aO s (aE h s)++aR (aE h s) l:=by rw[aR]
theorem ue(h:Nat)(s:List UInt8)(l:List (List UInt8)):xZ h (s :: l)=aE h s :: xZ (aE h s) l:=by rw[xZ]
theorem iN:∀ (l m:List (List UInt8)) (h:Nat),aR h (l++m)=aR h l++aR (gR h l) m
  | [],_,_=>rfl
  | s :: l,m,h=>by rw[List.cons_append,eV,eV,iN l m,lM,List.append_assoc]
theorem vg:∀ (l m:List (List UInt8)) (h:Nat),xZ h (l++m)=xZ h l++xZ (gR h l) m
  | [],_,_=>rfl
  | s :: l,m,h=>by rw[List.cons_append,ue,ue,vg l m,lM,List.cons_append]
theorem BV(l m:List (List UInt8))(h:Nat):gR h (l++m)=gR (gR h l) m:=List.foldl_append ..
theorem Al:∀ (l:List (List UInt8)) (h:Nat),(xZ h l).getLast?.getD h=gR h l
  | [],_=>rfl
  | s :: l,h=>by
    have h1:=Al l (aE h s);rw[ue,lM,<- h1,List.getLast?_cons];rfl
theorem xM:∀ (l:List (List UInt8)) (a h:Nat),((mA a h l).getLast?.map (·.till)).getD a=a+(aR h l).length
  | [],_,_=>by simp[mA,aR]
  | [s],a,h=>by simp[mA,aR]
  | s :: t :: l,a,h=>by
    have:=xM (t :: l) (a+(aO s (aE h s)).length) (aE h s);simp only[mA,List.getLast?_cons_cons,aR,List.length_append] at this ⊢;simp only[List.getLast?_cons,Option.map_some,Option.getD_some] at this ⊢;omega
theorem F0(l:List (List UInt8))(h:Nat):bt (mA 0 h l)=(aR h l).length:=by
  have:=xM l 0 h;rw[Nat.zero_add] at this;exact this
theorem vi:∀ (k:Nat) (l:List UInt8) (a h:Nat),gq k l a h=mA a h ((gq k l a h).map (·.s))/\aR h ((gq k l a h).map (·.s)) <+: l/\∀ s∈(gq k l a h).map (·.s),s.length<=4000
  | 0,l,a,h=>by simp[gq,mA,aR]
  | k+1,l,a,h=>by
    cases hr:oQ l with
    | none=>rw[yf hr]; simp[mA,aR]
    | some p =>
      obtain⟨s,t⟩:=p
      by_cases ht:t.take 8=sA 8 (aE h s)
      · rw[qN hr ht];obtain⟨h1,h2,h3⟩:=vi k (t.drop 8) (a+(aO s (aE h s)).length) (aE h s);obtain⟨hl,_⟩:=lK hr ht;refine⟨?_,?_,?_⟩
        · rw[List.map_cons,mA,<- h1]
        · rw[List.map_cons,eV]
          conv=>rhs; rw[hl]
          exact(List.prefix_append_right_inj _).2 h2
        · intro u hu;rw[List.map_cons,List.mem_cons] at hu;rcases hu with rfl | hu
          · exact(oR hr).2
          · exact h3 u hu
      · rw[uf hr ht]; simp[mA,aR]
theorem Dw(l:List UInt8):cV l=mA 0 0 ((cV l).map (·.s))/\l.take (bt (cV l))=aR 0 ((cV l).map (·.s))/\(∀ s∈(cV l).map (·.s),s.length<=4000)/\bt (cV l)<=l.length:=by
  obtain⟨h1,h2,h3⟩:=vi l.length l 0 0;have ht:bt (cV l)=(aR 0 ((cV l).map (·.s))).length:=by
    conv=>lhs; unfold cV; rw[h1]
    exact F0 _ _
  have h2' : aR 0 ((cV l).map (·.s)) <+: l:=h2;refine⟨h1,?_,h3,?_⟩
  · rw[ht];exact(List.prefix_iff_eq_take.1 h2').symm
  · rw[ht]; exact h2'.length_le
theorem yE:∀ (k y i x:Nat) (t:List UInt8),k+i=9->y<2*128 ^ k->(0<i->0<y)->v8 (hO k y++t) i x=.inr (x+y*2 ^ (7*i),t)
  | 0,y,i,x,t,hi,hy,hp=>by
    obtain rfl:i=9:=by omega
    have:=hp (by decide);obtain rfl:y=1:=by simp at hy; omega
    rfl
  | k+1,y,i,x,t,hi,hy,hp=>by
    have h9 : ¬ i=9:=by omega
    unfold hO
    by_cases h:y<128
    · rw[if_pos h];have hb:(UInt8.ofNat (y%256)).toNat=y:=by rw[UInt8.toNat_ofNat']; omega
      show v8 (UInt8.ofNat (y%256) :: t) i x=_;unfold v8;rw[hb,if_neg (λ hh=>h9 hh.1),if_neg (by omega),if_neg (λ hh=>by have:=hp hh.2; omega)]
    · rw[if_neg h];have hb:(UInt8.ofNat (y%128+128)).toNat=y%128+128:=by rw[UInt8.toNat_ofNat']; omega
      show v8 (UInt8.ofNat (y%128+128) :: (hO k (y / 128)++t)) i x=_;unfold v8;rw[hb,if_neg (λ hh=>h9 hh.1),if_pos (by omega),yE k (y / 128) (i+1) _ t (by omega) ?_ (λ _=>by omega)]
      · congr 2
        rw[show(y%128+128)%128=y%128 by omega,show 7*(i+1)=7*i+7 by omega,Nat.pow_add];generalize 2 ^ (7*i)=p;have h1:y=128*(y / 128)+y%128:=(Nat.div_add_mod y 128).symm;have h2:y / 128*(p*2 ^ 7)=128*(y / 128)*p:=by
          rw[show(2:Nat) ^ 7=128 from rfl,Nat.mul_comm p 128,<- Nat.mul_assoc,Nat.mul_comm (y / 128) 128]
        rw[h2,Nat.add_assoc,<- Nat.add_mul,Nat.add_comm (y%128),<- h1]
      · rw[Nat.pow_succ] at hy;omega
theorem yC{n most:Nat}(t:List UInt8)(h:n<=most)(h6:n<18446744073709551616):rU ⟨hU n++t,0⟩ most=(n,⟨t,0⟩):=by
  have:cD (hU n++t) most=.inr (n,t):=by
    unfold cD hU;rw[yE 9 n 0 0 t rfl (by omega) (by omega)];simp only[Nat.mul_zero,Nat.pow_zero,Nat.mul_one,Nat.zero_add];rw[if_neg (by omega)]
  unfold rU;rw[if_pos rfl,this]
theorem QK{s:List UInt8}(t:List UInt8)(h:s.length<=4000):rT ⟨cN s++t,0⟩=(s,⟨t,0⟩):=by
  have:cD (cN s++t) 4000=.inr (s.length,s++t):=by
    unfold cN cD hU;rw[List.append_assoc,yE 9 s.length 0 0 (s++t) rfl (by omega) (by omega)];simp only[Nat.mul_zero,Nat.pow_zero,Nat.mul_one,Nat.zero_add];rw[if_neg (by omega)]
  unfold rT;rw[if_pos rfl,this]
  dsimp only
  rw[if_neg (by simp),List.take_left,List.drop_left]
def kC(s:List UInt8):Nat×RS:=let p:=rU ⟨s,0⟩ 10; (p.1,if p.1=0/\p.2.e=0 then ⟨p.2.l,2⟩ else p.2)
def Bw(k:Int)(σ:RS):Nat×RS:=if fB k then rU σ 7 else (0,σ)
def By(k:Int)(σ:RS):Nat×RS:=if fR k then rU σ 29 else (0,σ)
def Mm:Nat->RS->I6×RS
  | 0,σ=>(z6,σ)
  | k+1,σ=>let p:=Mm k σ; let q:=rU p.2 4; (p.1.put k (q.1:Nat),q.2)
def BB(k:Int)(σ:RS):I6×RS:=if fW k then Mm 6 σ else (z6,σ)
def Bz(k:Int)(σ:RS):List UInt8×RS:=if fT k then rT σ else ([],σ)
def Bx(k:Int)(σ:RS):Nat×RS:=if fD k then rU σ 18446744073709551615 else (0,σ)
def EU(s:List UInt8):Ev×Int :=
  let a:=kC s; let k:Int:=(a.1:Nat); let b:=Bw k a.2; let r:=By k b.2; let u:=BB k r.2; let t:=Bz k u.2; let d:=Bx k t.2
  (⟨k,(b.1:Nat),(r.1:Nat),u.1,t.1,(d.1:Nat)⟩,rE d.2)
def p8:Ev:=⟨0,0,0,z6,[],0⟩
def aW(s:List UInt8):Ev×Int:=if 4000<s.length then (p8,3) else if (EU s).2=0 then ((EU s).1,0) else (p8,(EU s).2)
theorem wG(s:List UInt8):(aW s).1.In:=by
  have h0:p8.In:=⟨by decide⟩;unfold aW
  split
  · exact h0
  · split
    · refine⟨?_⟩;show 0<=(((Bx _ _).1:Nat):Int)/\(((Bx _ _).1:Nat):Int)<18446744073709551616;unfold Bx
      split
      · have:=D4 (Bz ((kC s).1:Nat) (BB ((kC s).1:Nat) (By ((kC s).1:Nat) (Bw ((kC s).1:Nat) (kC s).2).2).2).2).2 18446744073709551615;omega
      · show(0:Int)<=0/\(0:Int)<18446744073709551616
        decide
    · exact h0
theorem Gu(u:I6)(t:List UInt8)(h:I6.Le u 4):∀ k,k<=6->Mm k ⟨(u.l.take k).flatMap nB++t,0⟩=(I6.mix k u z6,⟨t,0⟩)
  | 0,_=>rfl
  | k+1,hk=>by
    have hk' : k<6:=by omega
    have hw:=h k hk';have e1:(u.l.take (k+1)).flatMap nB++t=(u.l.take k).flatMap nB++(hU (u.at' k).toNat++t):=by
      rw[aL (u.vY k hk'),List.flatMap_append,List.append_assoc]; simp[nB]
    rw[Mm,e1,show Mm k ⟨(u.l.take k).flatMap nB++(hU (u.at' k).toNat++t),0⟩=(I6.mix k u z6,⟨hU (u.at' k).toNat++t,0⟩) from Gu u _ h k (by omega)]
    dsimp only
    rw[yC t (by omega) (by omega)];refine Prod.ext ?_ rfl;refine I6.ext' λ j hj=>?_;show((I6.mix k u z6).put k _).at' j=_;rw[I6.uw _ _ _ _ hk' hj,I6.bS _ _ _ _ hj,I6.bS _ _ _ _ hj]
    by_cases e:j=k
    · subst e; rw[if_pos rfl,if_pos (by omega)]; omega
    · rw[if_neg e]
      by_cases h2:j<k
      · rw[if_pos h2,if_pos (by omega)]
      · rw[if_neg h2,if_neg (by omega)]
theorem MQ{e:Ev}(h:bP e=0)(hi:e.In):aW (aX e)=(e,0):=by
  have hR:=o6 h hi.d;have hb:e=cA e/\1<=e.kind:=by
    unfold bP at h
    split at h
    · cases h
    · rename_i g;exact⟨Decidable.byContradiction λ x=>g (.inr x),by omega⟩
  have hl:=Af h;have hk:=hR.k; have hB:=hR.b; have hr:=hR.r; have hw:=hR.w; have ht:=hR.t; have hd:=hR.d;obtain⟨hbe,hk1⟩:=hb;have b1:fB e.kind=false->e.bidder=0:=λ hf=>by rw[hbe]; simp[cA,hf]
  have b2:fR e.kind=false->e.round=0:=λ hf=>by rw[hbe]; simp[cA,hf]
  have b3:fW e.kind=false->e.want=z6:=λ hf=>by rw[hbe]; simp[cA,hf]
  have b4:fT e.kind=false->e.text=[]:=λ hf=>by rw[hbe]; simp[cA,hf]
  have b5:fD e.kind=false->e.digest=0:=λ hf=>by rw[hbe]; simp[cA,hf]
  have cast:∀ {n:Int},0<=n->((n.toNat:Nat):Int)=n:=λ h=>Int.toNat_of_nonneg h;let t5:=if fD e.kind then nB e.digest else []
  let t4:=(if fT e.kind then cN e.text else [])++t5;let t3:=(if fW e.kind then e.want.l.flatMap nB else [])++t4;let t2:=(if fR e.kind then nB e.round else [])++t3;let t1:=(if fB e.kind then nB e.bidder else [])++t2;have e0:aX e=nB e.kind++t1:=by simp only[aX,t1,t2,t3,t4,t5,List.append_assoc]
  have s0:kC (aX e)=(e.kind.toNat,⟨t1,0⟩):=by
    unfold kC;rw[e0,nB,yC t1 (by omega) (by omega)]
    dsimp only
    rw[if_neg (by omega)]
  have s1:Bw e.kind ⟨t1,0⟩=(e.bidder.toNat,⟨t2,0⟩):=by
    unfold Bw
    cases hf:fB e.kind with
    | true=>simp only[t1,hf,if_true]; exact yC t2 (by omega) (by omega)
    | false=>simp only[t1,hf,b1 hf]; rfl
  have s2:By e.kind ⟨t2,0⟩=(e.round.toNat,⟨t3,0⟩):=by
    unfold By
    cases hf:fR e.kind with
    | true=>simp only[t2,hf,if_true]; exact yC t3 (by omega) (by omega)
    | false=>simp only[t2,hf,b2 hf]; rfl
  have s3:BB e.kind ⟨t3,0⟩=(e.want,⟨t4,0⟩):=by
    unfold BB
    cases hf:fW e.kind with
    | true =>
      simp only[t3,hf,if_true];have:=Gu e.want t4 hw 6 (by decide);rw[I6.wM] at this;exact this
    | false=>simp only[t3,hf,b3 hf]; rfl
  have s4:Bz e.kind ⟨t4,0⟩=(e.text,⟨t5,0⟩):=by
    unfold Bz
    cases hf:fT e.kind with
    | true=>simp only[t4,hf,if_true]; exact QK t5 ht
    | false=>simp only[t4,hf,b4 hf]; rfl
  have s5:Bx e.kind ⟨t5,0⟩=(e.digest.toNat,⟨[],0⟩):=by
    unfold Bx
    cases hf:fD e.kind with
    | true =>
      simp only[t5,hf,if_true];have:=yC (n:=e.digest.toNat) (most:=18446744073709551615) [] (by omega) (by omega);rw[List.append_nil] at this;exact this
    | false=>simp only[t5,hf,b5 hf]; rfl
  have hA:EU (aX e)=(e,0):=by
    unfold EU;rw[s0]
    dsimp only
    rw[cast hk.1,s1]
    dsimp only
    rw[s2]
    dsimp only
    rw[s3]
    dsimp only
    rw[s4]
    dsimp only
    rw[s5]
    dsimp only
    rw[cast hB.1,cast hr.1,cast hd.1];rfl
  unfold aW;rw[if_neg (by omega),hA,if_pos rfl]
structure Fo where
  S:Sx
  C:Ck
  n:Nat
  e:Int
  ds:List Int
def RE(o:Po):Fo:=⟨ij o,Jo,0,0,[0]⟩
def aU(σ:Fo)(r:List UInt8):Fo :=
  if σ.e≠0 then σ
  else if (aW r).2≠0 then { σ with e:=(aW r).2 }
  else if uP σ.S σ.C (aW r).1≠0 then { σ with e:=uP σ.S σ.C (aW r).1 }
  else { S:=(EF σ.S σ.C (aW r).1).er,C:=(OF σ.S σ.C (aW r).1).er,n:=σ.n+1,e:=0,ds:=σ.ds++[(EF σ.S σ.C (aW r).1).dig] }
def aB(o:Po)(l:List (List UInt8)):Fo:=l.foldl aU (RE o)
theorem sg(o:Po)(l m:List (List UInt8)):aB o (l++m)=m.foldl aU (aB o l):=by unfold aB; rw[List.foldl_append]
theorem fF(o:Po)(l:List (List UInt8))(r:List UInt8):aB o (l++[r])=aU (aB o l) r:=sg o l [r]
theorem LU{σ:Fo}(h:σ.e≠0):∀ l:List (List UInt8),l.foldl aU σ=σ
  | []=>rfl
  | r :: l=>by rw[List.foldl_cons,show aU σ r=σ from if_pos h]; exact LU h l
theorem o7{o:Po}{l:List (List UInt8)}{i:Nat}(h:(aB o (l.take i)).e≠0):aB o l=aB o (l.take i):=by
  conv=>lhs; rw[<- List.take_append_drop i l,sg]
  exact LU h _
structure Fo.Ok (σ:Fo):Prop where
  ok:zm σ.S σ.C
  dg:σ.ds.getLast? = some σ.S.dig
  ln:σ.ds.length=σ.n+1
  hd:σ.ds[0]? = some 0
theorem Rw(o:Po):(RE o).Ok:=⟨Qz o,rfl,rfl,rfl⟩
theorem En{σ:Fo}(h:σ.Ok)(r:List UInt8):(aU σ r).Ok:=by
  unfold aU
  split
  · exact h
  · split
    · exact⟨h.ok,h.dg,h.ln,h.hd⟩
    · split
      · exact⟨h.ok,h.dg,h.ln,h.hd⟩
      · rename_i _ _ g;have g0:uP σ.S σ.C (aW r).1=0:=Decidable.byContradiction g;refine⟨(OG h.ok g0 (wG r)).1.er (fO _) (J0 _),?_,?_,?_⟩
        · show(σ.ds++[_]).getLast? = _;rw[List.getLast?_append]; rfl
        · show(σ.ds++[_]).length=_;rw[List.length_append,h.ln]; rfl
        · show(σ.ds++[_])[0]? = _;rw[List.getElem?_append_left (by have:=h.ln; omega)]; exact h.hd
theorem jC(o:Po)(l:List (List UInt8)):(aB o l).Ok:=by
  unfold aB
  suffices H:∀ (l:List (List UInt8)) (σ:Fo),σ.Ok->(l.foldl aU σ).Ok from H l _ (Rw o)
  intro l
  induction l with
  | nil=>exact λ _ h=>h
  | cons r l ih=>exact λ σ h=>ih _ (En h r)
theorem xd{σ:Fo}{r:List UInt8}(h:(aU σ r).e=0):σ.e=0/\(aW r).2=0/\uP σ.S σ.C (aW r).1=0:=by
  unfold aU at h
  split at h
  · rename_i g; exact absurd h g
  · rename_i g0
    split at h
    · rename_i g; exact absurd h g
    · rename_i g1
      split at h
      · rename_i g; exact absurd h g
      · rename_i g2;exact⟨Decidable.byContradiction g0,Decidable.byContradiction g1,Decidable.byContradiction g2⟩
theorem gI{σ:Fo}{r:List UInt8}(h0:σ.e=0)(h1:(aW r).2=0)(h2:uP σ.S σ.C (aW r).1=0):aU σ r={ S:=(EF σ.S σ.C (aW r).1).er,C:=(OF σ.S σ.C (aW r).1).er,n:=σ.n+1,e:=0,ds:=σ.ds++[(EF σ.S σ.C (aW r).1).dig] }:=by
  unfold aU;rw[if_neg (λ h=>h h0),if_neg (λ h=>h h1),if_neg (λ h=>h h2)]
theorem pE{σ:Fo}{r:List UInt8}(h0:σ.e=0)(h1:(aW r).2≠0):aU σ r={ σ with e:=(aW r).2 }:=by
  unfold aU;rw[if_neg (λ h=>h h0),if_pos h1]
theorem y4{σ:Fo}{r:List UInt8}(h0:σ.e=0)(h1:(aW r).2=0)(h2:uP σ.S σ.C (aW r).1≠0):aU σ r={ σ with e:=uP σ.S σ.C (aW r).1 }:=by
  unfold aU;rw[if_neg (λ h=>h h0),if_neg (λ h=>h h1),if_pos h2]
theorem Kj:∀ {l:List (List UInt8)} {σ:Fo},(l.foldl aU σ).e=0->(l.foldl aU σ).n=σ.n+l.length/\σ.e=0
  | [],_,h=>⟨rfl,h⟩
  | r :: l,σ,h=>by
    rw[List.foldl_cons] at h ⊢;obtain⟨h1,h2⟩:=Kj h;obtain⟨g0,g1,g2⟩:=xd h2;refine⟨?_,g0⟩;rw[h1,gI g0 g1 g2,List.length_cons];show σ.n+1+l.length=_;omega
theorem nW{o:Po}{l:List (List UInt8)}(h:(aB o l).e=0):(aB o l).n=l.length:=by
  have:=(Kj (σ:=RE o) h).1;rw[show aB o l=l.foldl aU (RE o) from rfl,this];exact Nat.zero_add _
theorem si{o:Po}{l:List (List UInt8)}{i:Nat}(h:(aB o l).e=0):(aB o (l.take i)).e=0:=Decidable.byContradiction λ g=>g (by rw[<- o7 g]; exact h)
theorem BS:∀ (l:List (List UInt8)) (σ:Fo),(l.foldl aU σ).n<=σ.n+l.length
  | [],_=>Nat.le_refl _
  | r :: l,σ=>by
    rw[List.foldl_cons,List.length_cons];have h:=BS l (aU σ r);have h2:(aU σ r).n<=σ.n+1:=by
      unfold aU
      split
      · omega
      · split
        · exact Nat.le_succ _
        · split
          · exact Nat.le_succ _
          · exact Nat.le_refl _
    omega
theorem BR(o:Po)(l:List (List UInt8)):(aB o l).n<=l.length:=by
  have:=BS l (RE o);have e:(RE o).n=0:=rfl;rw[e,Nat.zero_add] at this;exact this
def rQ(a:ByteArray)(w:World)(K:KP):Prop:=ak w (.cells #[iv 0,iv 0,iv 0,iv 0,iv 0,iv 0,iv 0,iv 0,iv 0,.string (bs []),.int .u64 0] 43) λ b c=>cond (decide (((a.size:Nat):Int)>(4000:Int))) (aQ ⟨b,0,none⟩ 0 [iv 0,iv 0,iv 0,iv 0,iv 0,iv 0,iv 0,iv 0,iv 0,.string (bs []),.int .u64 0] c λ d=>∃ (e f g:Int) (h:I6) (i:ByteArray) (j:Int),af d ⟨b,0,none⟩ 0 (iv e :: iv f :: iv g :: h.on [.string i,.int .u64 j])/\K (.tuple #[.agg (iv e :: iv f :: iv g :: h.on [.string i,.int .u64 j]:List Value).toArray,iv 3]) d) (Calls prog 36 #[.string a] c λ a c=>∃ d,a=.returned (.pointer d)/\Calls prog 37 #[.pointer d,.int .u64 10] c λ a c=>∃ e,a=.returned (.int .u64 e)/\ak c (.cells #[iv 0,iv 0,iv 0,iv 0,iv 0,iv 0,iv 0,iv 0,iv 0,.string (bs []),.int .u64 0] 43) λ a c=>aQ ⟨a,0,none⟩ 0 [iv (IntKind.i64.wrap e),iv 0,iv 0,iv 0,iv 0,iv 0,iv 0,iv 0,iv 0,.string (bs []),.int .u64 0] c λ c=>∃ e:World->Prop,(∀ f,e f->∀ g:Nat->Value,∃ g,f.cell? ⟨a,0,none⟩=some (iv g)/\Calls prog 39 #[iv g] f λ f g=>∃ h,f=.returned (iv h)/\∃ f:World->Prop,(∀ i,f i->∀ j:Nat->Value,∃ j:World->Prop,(∀ k,j k->∀ l:Nat->Value,∃ l:World->Prop,(∀ m,l m->∀ n:Nat->Value,∃ n:World->Prop,(∀ o,n o->∀ p:Nat->Value,∃ p:World->Prop,(∀ q,p q->∀ r:Nat->Value,Calls prog 41 #[.pointer d] q λ q r=>∃ s,q=.returned (iv s)/\cond (s !=0) (aQ ⟨b,0,none⟩ 0 [iv 0,iv 0,iv 0,iv 0,iv 0,iv 0,iv 0,iv 0,iv 0,.string (bs []),.int .u64 0] r λ q=>∃ (t u v:Int) (x:I6) (y:ByteArray) (z:Int),af q ⟨b,0,none⟩ 0 (iv t :: iv u :: iv v :: x.on [.string y,.int .u64 z])/\K (.tuple #[.agg (iv t :: iv u :: iv v :: x.on [.string y,.int .u64 z]:List Value).toArray,iv s]) q) (∃ (q s t:Int) (u:I6) (v:ByteArray) (x:Int),af r ⟨a,0,none⟩ 0 (iv q :: iv s :: iv t :: u.on [.string v,.int .u64 x])/\aQ ⟨b,0,none⟩ 0 (iv q :: iv s :: iv t :: u.on [.string v,.int .u64 x]) r λ q=>∃ (r s t:Int) (u:I6) (v:ByteArray) (x:Int),af q ⟨b,0,none⟩ 0 (iv r :: iv s :: iv t :: u.on [.string v,.int .u64 x])/\K (.tuple #[.agg (iv r :: iv s :: iv t :: u.on [.string v,.int .u64 x]:List Value).toArray,iv 0]) q))/\cond ((fU .i64 h 16) !=(0:Int)) (Calls prog 37 #[.pointer d,.int .u64 18446744073709551615] o λ b q=>∃ r,b=.returned (.int .u64 r)/\aN q ⟨a,10,none⟩ (.int .u64 r) λ b=>p b) (p o))/\cond ((fU .i64 h 4) !=(0:Int)) (Calls prog 40 #[.pointer d,iv 4000] m λ b o=>∃ p,b=.returned (.string p)/\aN o ⟨a,9,none⟩ (.string p) λ b=>n b) (n m))/\cond ((fU .i64 h 2) !=(0:Int)) (∃ b:Int->World->Nat->Prop,(∃ m,b 0 k m)/\∀ n m o,b o n m->∀ p:Nat->Value,cond (decide (o<6)) (Calls prog 37 #[.pointer d,.int .u64 4] n λ p q=>∃ r,p=.returned (.int .u64 r)/\0<=o/\o<6/\aN q (Addr.add ⟨a,3,none⟩ ((o).toNat*1)) (iv (IntKind.i64.wrap r)) λ p=>∃ q,q<m/\b (IntKind.i64.wrap (o+1)) p q) (l n)) (l k))/\cond ((fU .i64 h 8) !=(0:Int)) (Calls prog 37 #[.pointer d,.int .u64 29] i λ b k=>∃ l,b=.returned (.int .u64 l)/\aN k ⟨a,2,none⟩ (iv (IntKind.i64.wrap l)) λ b=>j b) (j i))/\cond ((fU .i64 h 1) !=(0:Int)) (Calls prog 37 #[.pointer d,.int .u64 7] g λ b h=>∃ i,b=.returned (.int .u64 i)/\aN h ⟨a,1,none⟩ (iv (IntKind.i64.wrap i)) λ b=>f b) (f g))/\∃ b,c.cell? ⟨a,0,none⟩=some (iv b)/\cond (b==0) (Calls prog 38 #[.pointer d,iv 2] c λ a b=>a=.returned (.tuple #[])/\e b) (e c))
theorem vL{s1 w K}(h:rQ s1 w K):CP 14 #[.string s1] w (K):=ah (ay [(31,[]),(127,[]),(255,[]),(511,[]),(1023,[]),(2047,[]),(16362,[(44,.s (.int .i64))])]) func14 (by kernel_rfl) (by kernel_rfl) h
theorem P5(e:Ev)(k:Nat)(x:Int)(hk:k<6):e.cells.toArray.setIfInBounds (3+k) (iv x)=({ e with want:=e.want.put k x }:Ev).cells.toArray:=by
  match k,hk with
  | 0,_ | 1,_ | 2,_ | 3,_ | 4,_ | 5,_=>rfl
theorem HZ(s:List UInt8):(kC s).2.l.length<=s.length:=by
  have:=Cb ⟨s,0⟩ 10;unfold kC
  dsimp only
  split
  · exact this
  · exact this
theorem JQ(k:Int)(σ:RS):(Bw k σ).2.l.length<=σ.l.length:=by unfold Bw; split; exact Cb _ _; exact Nat.le_refl _
theorem JR(k:Int)(σ:RS):(By k σ).2.l.length<=σ.l.length:=by unfold By; split; exact Cb _ _; exact Nat.le_refl _
theorem BA(σ:RS):∀ k,(Mm k σ).2.l.length<=σ.l.length
  | 0=>Nat.le_refl _
  | k+1=>Nat.le_trans (Cb _ _) (BA σ k)
theorem JT(k:Int)(σ:RS):(BB k σ).2.l.length<=σ.l.length:=by unfold BB; split; exact BA _ _; exact Nat.le_refl _
theorem JS(k:Int)(σ:RS):(Bz k σ).2.l.length<=σ.l.length:=by unfold Bz; split; exact(QL _).1; exact Nat.le_refl _
theorem OC{w0 w:World}{L:List aD}(h:St w0 w (Sep L))(l:List UInt8):CP 36 #[sv l] w (λ r w'=>∃ x,r=.pointer (some ⟨x,0,none⟩)/\St w0 w' (Sep (wS x ⟨l,0⟩ :: L))) :=
  HC ⟨_,rfl,h.bI _ _⟩
theorem rO(w:World)(s:List UInt8):CP 14 #[sv s] w (λ r w'=>r=.tuple #[(aW s).1.v,iv (aW s).2]/\az w w' []):=by
  refine vL ?_;unfold rQ;refine(St.start w).one.ax p8.cells.toArray λ r1 w1 s1=>?_
  by_cases h4:4000<s.length
  · refine cT (dT (by rw[fm]; omega)) (s1.aA 0 rfl p8.cells rfl (Ev.one _) λ w2 s2=>⟨_,_,_,p8.want,_,_,s2.cellsIn 0 rfl,?_,s2.av⟩);unfold aW;rw[if_pos h4]; rfl
  refine cF (dF (by rw[fm]; omega)) (aj (OC s1 s) ?_);rintro v w3 ⟨x,rfl,s3⟩;refine⟨_,rfl,aj (Lc s3 (show s.length<=_ by omega) 10) ?_⟩;rintro v w4 ⟨rfl,s4⟩;have s4:St w w4 (Sep [wS x (rU ⟨s,0⟩ 10).2,ai r1 p8.cells.toArray 43,emp]):=s4;refine⟨_,rfl,s4.ax p8.cells.toArray λ r2 w5 s5=>?_⟩;have hk:=D4 ⟨s,0⟩ 10;have W:∀ {n:Nat},n<=29->IntKind.i64.wrap (n:Int)=n:=λ h=>aC ⟨by omega,by omega⟩;rw[W (by omega)];obtain⟨a,ha⟩:∃ a,kC s=a:=⟨_,rfl⟩;have ha1:(rU ⟨s,0⟩ 10).1=a.1:=by rw[<- ha]; rfl
  have hal:a.2.l.length<=s.length:=by rw[<- ha]; exact HZ s
  let L:Ev->RS->List aD:=λ e σ=>[ai r2 e.cells.toArray 43,wS x σ,ai r1 p8.cells.toArray 43,emp];rw[ha1];refine s5.aA 0 rfl (⟨(a.1:Nat),0,0,z6,[],0⟩:Ev).cells rfl (Ev.one _) λ w6 s6=>?_;refine⟨λ w'=>St w w' (Sep (L ⟨(a.1:Nat),0,0,z6,[],0⟩ a.2)),?_,?_⟩
  rotate_left
  · refine⟨_,s6.ag 0 rfl 0,?_⟩
    by_cases h0:a.1=0
    · refine cT (by simp[h0]) ?_;have hA:a.2=if (rU ⟨s,0⟩ 10).2.e=0 then ⟨(rU ⟨s,0⟩ 10).2.l,2⟩ else (rU ⟨s,0⟩ 10).2:=by
        rw[<- ha];unfold kC
        dsimp only
        by_cases g:(rU ⟨s,0⟩ 10).2.e=0
        · rw[if_pos g,if_pos ⟨by rw[ha1,h0],g⟩]
        · rw[if_neg g,if_neg λ h=>g h.2]
      by_cases g:(rU ⟨s,0⟩ 10).2.e=0
      · rw[if_pos g] at hA;refine aj (Sb (s6.out 1 rfl) 2 g) ?_;rintro v w28 ⟨rfl,s7⟩;rw[hA];exact⟨rfl,s7.back (i:=1) (by show 1<4; decide)⟩
      · rw[if_neg g] at hA;refine aj (Sa (s6.out 1 rfl) 2 g) ?_;rintro v w28 ⟨rfl,rfl⟩;rw[hA];exact⟨rfl,s6⟩
    · refine cF (by simp; omega) ?_;have hA:a.2=(rU ⟨s,0⟩ 10).2:=by
        rw[<- ha];unfold kC
        dsimp only
        rw[if_neg λ h=>h0 (by rw[<- ha1,h.1])]
      rw[hA]; exact s6
  clear s1 s3 s4 s5 s6;rintro w7 s7 -;refine⟨_,s7.ag 0 rfl 0,aj (xV w7 (a.1:Nat)) ?_⟩;rintro v w8 ⟨rfl,rfl⟩;refine⟨_,rfl,?_⟩;obtain⟨g1,g2,g3,g4,g5⟩:=xW (a.1:Nat);rw[g1,g2,g3,g4,g5];obtain⟨b,hb⟩:∃ b,Bw (a.1:Nat) a.2=b:=⟨_,rfl⟩;have hbl:b.2.l.length<=s.length:=by rw[<- hb]; exact Nat.le_trans (JQ _ _) hal
  refine⟨λ w'=>St w w' (Sep (L ⟨(a.1:Nat),(b.1:Nat),0,z6,[],0⟩ b.2)),?_,?_⟩
  rotate_left
  · cases hf:fB (a.1:Nat) with
    | true =>
      have e1:b=rU a.2 7:=by rw[<- hb]; unfold Bw; rw[if_pos hf]
      have hle:=D4 a.2 7;refine cT rfl (aj (Lc (s7.out 1 rfl) (by omega) 7) ?_);rintro v w26 ⟨rfl,s8⟩;have s8:=s8.back (i:=1) (by show 1<4; decide);rw[<- e1] at hle s8 ⊢;refine⟨_,rfl,?_⟩;rw[W (by omega)];exact s8.aH 0 rfl (j:=1) (by show 1<11; decide) rfl λ w27 s9=>s9
    | false =>
      have e1:b=(0,a.2):=by rw[<- hb]; unfold Bw; rw[if_neg (by rw[hf]; decide)]
      rw[e1];exact cF rfl s7
  clear s7;rintro w9 s9 -;obtain⟨c,hc⟩:∃ c,By (a.1:Nat) b.2=c:=⟨_,rfl⟩;have hcl:c.2.l.length<=s.length:=by rw[<- hc]; exact Nat.le_trans (JR _ _) hbl
  refine⟨λ w'=>St w w' (Sep (L ⟨(a.1:Nat),(b.1:Nat),(c.1:Nat),z6,[],0⟩ c.2)),?_,?_⟩
  rotate_left
  · cases hf:fR (a.1:Nat) with
    | true =>
      have e1:c=rU b.2 29:=by rw[<- hc]; unfold By; rw[if_pos hf]
      have hle:=D4 b.2 29;refine cT rfl (aj (Lc (s9.out 1 rfl) (by omega) 29) ?_);rintro v w26 ⟨rfl,s8⟩;have s8:=s8.back (i:=1) (by show 1<4; decide);rw[<- e1] at hle s8 ⊢;refine⟨_,rfl,?_⟩;rw[W (by omega)];exact s8.aH 0 rfl (j:=2) (by show 2<11; decide) rfl λ w27 s9=>s9
    | false =>
      have e1:c=(0,b.2):=by rw[<- hc]; unfold By; rw[if_neg (by rw[hf]; decide)]
      rw[e1];exact cF rfl s9
  clear s9;rintro w10 s10 -;obtain⟨u,hu⟩:∃ u,BB (a.1:Nat) c.2=u:=⟨_,rfl⟩;have hul:u.2.l.length<=s.length:=by rw[<- hu]; exact Nat.le_trans (JT _ _) hcl
  refine⟨λ w'=>St w w' (Sep (L ⟨(a.1:Nat),(b.1:Nat),(c.1:Nat),u.1,[],0⟩ u.2)),?_,?_⟩
  rotate_left
  · cases hf:fW (a.1:Nat) with
    | true =>
      have e1:u=Mm 6 c.2:=by rw[<- hu]; unfold BB; rw[if_pos hf]
      refine cT rfl ⟨λ n w' m=>∃ k:Nat,n=k/\k<=6/\m=6-k/\St w w' (Sep (L ⟨(a.1:Nat),(b.1:Nat),(c.1:Nat),(Mm k c.2).1,[],0⟩ (Mm k c.2).2)),⟨6,0,rfl,by omega,by omega,s10⟩,?_⟩;rintro w21 m n ⟨k,rfl,hk6,hm,s11⟩ -
      by_cases hlt:(k:Int)<6
      · have hk' : k<6:=by omega
        have hl:=BA c.2 k;have hle:=D4 (Mm k c.2).2 4;refine cT (dT hlt) (aj (Lc (s11.out 1 rfl) (by omega) 4) ?_);rintro v w22 ⟨rfl,s12⟩;have s12:=s12.back (i:=1) (by show 1<4; decide);refine⟨_,rfl,by omega,by omega,?_⟩;rw[W (by omega),bG,Int.toNat_natCast,Nat.mul_one];refine s12.aH 0 rfl (j:=3+k) (by show 3+k<11; omega) rfl λ w23 s13=>⟨6-(k+1),by omega,k+1,inc (by decide) hk',by omega,rfl,?_⟩;rw[P5 _ _ _ hk'] at s13;exact s13
      · obtain rfl:k=6:=by omega
        rw[e1];exact cF (by simp) s11
    | false =>
      have e1:u=(z6,c.2):=by rw[<- hu]; unfold BB; rw[if_neg (by rw[hf]; decide)]
      rw[e1];exact cF rfl s10
  clear s10;rintro w11 s11 -;obtain⟨t,ht⟩:∃ t,Bz (a.1:Nat) u.2=t:=⟨_,rfl⟩;have htl:t.2.l.length<=s.length:=by rw[<- ht]; exact Nat.le_trans (JS _ _) hul
  refine⟨λ w'=>St w w' (Sep (L ⟨(a.1:Nat),(b.1:Nat),(c.1:Nat),u.1,t.1,0⟩ t.2)),?_,?_⟩
  rotate_left
  · cases hf:fT (a.1:Nat) with
    | true =>
      have e1:t=rT u.2:=by rw[<- ht]; unfold Bz; rw[if_pos hf]
      refine cT rfl (aj (Te (s11.out 1 rfl) (by omega)) ?_);rintro v w26 ⟨rfl,s8⟩;have s8:=s8.back (i:=1) (by show 1<4; decide);rw[<- e1] at s8 ⊢;exact⟨_,rfl,s8.aH 0 rfl (j:=9) (by show 9<11; decide) rfl λ w27 s9=>s9⟩
    | false =>
      have e1:t=([],u.2):=by rw[<- ht]; unfold Bz; rw[if_neg (by rw[hf]; decide)]
      rw[e1];exact cF rfl s11
  clear s11;rintro w12 s12 -;obtain⟨d,hd⟩:∃ d,Bx (a.1:Nat) t.2=d:=⟨_,rfl⟩;refine⟨λ w'=>St w w' (Sep (L ⟨(a.1:Nat),(b.1:Nat),(c.1:Nat),u.1,t.1,(d.1:Nat)⟩ d.2)),?_,?_⟩
  rotate_left
  · cases hf:fD (a.1:Nat) with
    | true =>
      have e1:d=rU t.2 18446744073709551615:=by rw[<- hd]; unfold Bx; rw[if_pos hf]
      refine cT rfl (aj (Lc (s12.out 1 rfl) (by omega) 18446744073709551615) ?_);rintro v w26 ⟨rfl,s8⟩;have s8:=s8.back (i:=1) (by show 1<4; decide);rw[<- e1] at s8 ⊢;exact⟨_,rfl,s8.aH 0 rfl (j:=10) (by show 10<11; decide) rfl λ w27 s9=>s9⟩
    | false =>
      have e1:d=(0,t.2):=by rw[<- hd]; unfold Bx; rw[if_neg (by rw[hf]; decide)]
      rw[e1];exact cF rfl s12
  clear s12;rintro w13 s13 -;have hA:EU s=(⟨(a.1:Nat),(b.1:Nat),(c.1:Nat),u.1,t.1,(d.1:Nat)⟩,rE d.2):=by
    unfold EU;simp only[ha,hb,hc,hu,ht,hd]
  have hD:aW s=if rE d.2=0 then (⟨(a.1:Nat),(b.1:Nat),(c.1:Nat),u.1,t.1,(d.1:Nat)⟩,0) else (p8,rE d.2):=by
    unfold aW;rw[if_neg h4,hA]
  refine aj (R9 (s13.out 1 rfl)) ?_;rintro v w14 ⟨rfl,s14⟩;have s14:=s14.back (i:=1) (by show 1<4; decide);refine⟨_,rfl,?_⟩
  by_cases hz:rE d.2=0
  · rw[if_pos hz] at hD;rw[hD];refine cF (by simpa using hz) ⟨_,_,_,u.1,_,_,s14.cellsIn 0 rfl,s14.aA 2 rfl (⟨(a.1:Nat),(b.1:Nat),(c.1:Nat),u.1,t.1,(d.1:Nat)⟩:Ev).cells rfl (Ev.one _) λ w16 s16=>⟨_,_,_,u.1,_,_,s16.cellsIn 2 rfl,rfl,s16.av⟩⟩
  · rw[if_neg hz] at hD;rw[hD];refine cT (by simpa using hz) (s14.aA 2 rfl p8.cells rfl (Ev.one _) λ w15 s15=>⟨_,_,_,p8.want,_,_,s15.cellsIn 2 rfl,rfl,s15.av⟩)
end Go.Proofs.YtpihmghnbplohaaGreatDoor
