import Derived.Shelf.SlSortCmp.NoneTotal
import Derived.Shelf.SlSortCmp.WholeK
import Derived.Test.YtbnolaiklhbkkaaGreatDoorG12
set_option linter.unusedVariables false
set_option maxRecDepth 100000
namespace Go.Proofs.YtbnolaiklhbkkaaGreatDoor
open Go Go.Vc _root_.Go.Proofs.Tryz
theorem zM(c:UInt8)(s:List UInt8):aR c s=Lib.splitK [c] 0 (s.count c) s:=by
 have h1:=Lib.splitB_data (bs [c]) 0 (Lib.countB (bs s) (bs [c])) (bs s);have e1:(bs [c]).data.toList=[c]:=by simp[bs]
 have e2:(bs s).data.toList=s:=by simp[bs]
 have e3:Lib.countB (bs s) (bs [c])=s.count c:=by
  show Lib.count (bs s).data.toList (bs [c]).data.toList=_;rw[e1,e2,Lib.count_one]
 rw[e1,e2,e3] at h1;unfold aR;rw[e3,h1]
theorem BB{c:UInt8}{x:List UInt8}(h:c∉x):aR c x=[x]:=by rw[zM,List.count_eq_zero.2 h]; rfl
theorem K6(c:UInt8):∀ (x s:List UInt8),c∉x->Lib.index (x++c :: s) [c]=x.length
 | [],s,_=>by simp[Lib.index,List.isPrefixOf]
 | b :: x,s,h=>by
  have ih:=K6 c x s λ h'=>h (by simp[h']);have hb : ¬ c=b:=λ e=>h (by simp[e]);show Lib.index (b :: (x++c :: s)) [c]=_;rw[Lib.index,ih];have h1:[c].isPrefixOf (b :: (x++c :: s))=false:=by simp[List.isPrefixOf,hb]
  rw[h1,if_neg (by decide),if_neg (by simp)]
  simp
theorem Bz{c:UInt8}{x:List UInt8}(s:List UInt8)(h:c∉x):aR c (x++c :: s)=x :: aR c s:=by
 rw[zM,zM];have e:(x++c :: s).count c=s.count c+1:=by rw[List.count_append,List.count_eq_zero.2 h,List.count_cons]; simp
 rw[e,Lib.splitK,K6 c x s h,if_neg (by simp)]
 simp
theorem Sj{n:Nat}(h:n<256):(UInt8.ofNat n).toNat=n:=UInt8.toNat_ofNat_of_lt' h
theorem AW(u:Nat):∀ b∈Lib.decDigits u,48<=b.toNat/\b.toNat<=57:=by
 induction u using Nat.strongRecOn with
 | ind u ih =>
 have one:∀ d,d<10->48<=(UInt8.ofNat (48+d)).toNat/\(UInt8.ofNat (48+d)).toNat<=57:=λ d hd=>by
  rw[Sj (n:=48+d) (by omega)]; omega
 intro b hb
 by_cases h:u<10
 ·rw[Lib.decDigits_one h] at hb
  cases List.mem_singleton.1 hb
  exact one u h
 ·rw[Lib.decDigits,dif_neg h] at hb;rcases List.mem_append.1 hb with hb|hb
  ·exact ih (u / 10) (by omega) b hb
  ·cases List.mem_singleton.1 hb
   exact one _ (by omega)
theorem NF{u:Nat}(h0:0<u):(Lib.decDigits u).head?≠some 48/\Lib.decDigits u≠[]:=by
 induction u using Nat.strongRecOn with
 | ind u ih =>
 by_cases h:u<10
 ·rw[Lib.decDigits_one h];refine⟨λ e=>?_,by simp⟩;have e:UInt8.ofNat (48+u)=48:=by simpa using e
  have:=congrArg UInt8.toNat e;rw[Sj (n:=48+u) (by omega)] at this;have h48:(48:UInt8).toNat=48:=rfl;omega
 ·obtain⟨h1,h2⟩:=ih (u / 10) (by omega) (by omega);rw[Lib.decDigits,dif_neg h];refine⟨?_,by simp⟩
  cases hl:Lib.decDigits (u / 10) with
  | nil=>exact absurd hl h2
  | cons x r=>rw[hl] at h1; exact h1
theorem DK(b:UInt8):∀ (l:List UInt8) (acc:Nat),Lib.decFrom acc (l++[b])=(Lib.decFrom acc l).bind λ n=>(Lib.digitVal b).map λ d=>n*10+d
 | [],acc=>by
  show Lib.decFrom acc [b]=_;simp only[Lib.decFrom]
  cases Lib.digitVal b<;>rfl
 | x :: l,acc=>by
  show Lib.decFrom acc (x :: (l++[b]))=_;simp only[Lib.decFrom]
  cases Lib.digitVal x with
  | none=>rfl
  | some d=>exact DK b l _
theorem G5{d:Nat}(hd:d<10):Lib.digitVal (UInt8.ofNat (48+d))=some d:=by
 unfold Lib.digitVal;rw[Sj (n:=48+d) (by omega),if_pos (by omega)]
 congr 1; omega
theorem Ko(u:Nat):Lib.decFrom 0 (Lib.decDigits u)=some u:=by
 induction u using Nat.strongRecOn with
 | ind u ih =>
 by_cases h:u<10
 ·rw[Lib.decDigits_one h];simp only[Lib.decFrom];rw[G5 h]; simp
 ·rw[Lib.decDigits,dif_neg h,DK,ih (u / 10) (by omega),G5 (by omega)];show some (u / 10*10+u%10)=some u
  congr 1; omega
theorem cA{n:Int}(h0:0<=n)(h9:n<=999999999):bV (Lib.itoa n)=(n,0):=by
 have e:Lib.itoa n=Lib.decDigits n.toNat:=by unfold Lib.itoa; rw[if_neg (by omega)]
 rw[e];have hd:=AW n.toNat;have hne:Lib.decDigits n.toNat≠[]:=by
  intro hh;have:=Ko n.toNat;rw[hh] at this;have h0' : n.toNat=0:=by simpa[Lib.decFrom] using this.symm
  rw[h0'] at hh;exact absurd hh (by rw[Lib.decDigits_one (by decide)]; simp)
 have hall:Ak (Lib.decDigits n.toNat)=true:=by
  unfold Ak;rw[List.all_eq_true];intro b hb;have:=hd b hb;unfold vJ un;rw[Bool.and_eq_true,decide_eq_true_eq,decide_eq_true_eq];omega
 have hlen:(Lib.decDigits n.toNat).length<=9:=by
  rw[Lib.decDigits_length];exact Ro 8 _ (by omega)
 have hz : ¬ ((Lib.decDigits n.toNat).head? = some 48/\1<(Lib.decDigits n.toNat).length):=by
  rintro⟨h1,h2⟩;rcases Nat.eq_zero_or_pos n.toNat with h3|h3
  ·rw[h3,Lib.decDigits_one (by decide)] at h2;simp at h2
  ·exact(NF h3).1 h1
 rw[bV,if_neg,if_neg (by omega)]
 rotate_left
 ·rintro(h|h|h)
  ·rw[hall] at h; cases h
  ·exact hne h
  ·exact hz h
 obtain⟨m,hm⟩:=Dy hall hne;have e2:Lib.atoi (Lib.decDigits n.toNat)=some n:=by
  have hv:=Ko n.toNat
  cases hl:Lib.decDigits n.toNat with
  | nil=>exact absurd hl hne
  | cons b l =>
   rw[hl] at hd hv;have hb0:=hd b (by simp);have hb:(b==45)=false:=by
    rw[beq_eq_false_iff_ne]; rintro rfl; revert hb0; decide
   have hb2:(b==43)=false:=by
    rw[beq_eq_false_iff_ne]; rintro rfl; revert hb0; decide
   have hd2:Lib.decNat (b :: l)=some n.toNat:=by rw[Lib.decNat]; exact hv
   rw[Lib.atoi,hb,hb2,hd2];show some ((n.toNat:Nat):Int)=some n;rw[Int.toNat_of_nonneg h0]
 rw[Jz,e2]; rfl
def MZ(x:List UInt8):Prop:=32∉x/\10∉x
theorem Dc{x:List UInt8}(h:cw x=true):MZ x:=by
 simp only[cw,Bool.and_eq_true] at h;have ha:=h.2.2.2;rw[List.all_eq_true] at ha;constructor<;>intro hc<;>exact absurd (ha _ hc) (by decide)
theorem jo{n:Int}(h0:0<=n):MZ (Lib.itoa n):=by
 have e:Lib.itoa n=Lib.decDigits n.toNat:=by unfold Lib.itoa; rw[if_neg (by omega)]
 rw[e];constructor<;>intro hc<;>exact absurd (AW _ _ hc) (by decide)
theorem p5(x y:List UInt8)(r:List (List UInt8)):Lib.join (x :: y :: r) [32]=x++32 :: Lib.join (y :: r) [32]:=by
 rw[Lib.join_cons,Lib.join_cons];simp[Lib.joinTail]
theorem je:∀ (r:List (List UInt8)) (x:List UInt8),(∀ y∈x :: r,MZ y)->aR 32 (Lib.join (x :: r) [32])=x :: r
 | [],x,h=>by rw[Lib.join_one]; exact BB (h x (by simp)).1
 | y :: r,x,h=>by rw[p5,Bz _ (h x (by simp)).1,je r y λ z hz=>h z (by simp[hz])]
theorem Hv:∀ (r:List (List UInt8)) (x:List UInt8),(∀ y∈x :: r,MZ y)->(10:UInt8)∉Lib.join (x :: r) [32]
 | [],x,h=>by rw[Lib.join_one]; exact(h x (by simp)).2
 | y :: r,x,h=>by
  rw[p5];intro hh;rcases List.mem_append.1 hh with hh|hh
  ·exact(h x (by simp)).2 hh
  ·rcases List.mem_cons.1 hh with hh|hh
   ·exact absurd hh (by decide)
   ·exact Hv r y (λ z hz=>h z (by simp[hz])) hh
theorem wh:∀ (ws:List (List (List UInt8))),(∀ w∈ws,w≠[]/\∀ y∈w,MZ y)->aR 10 ((ws.map tv).flatten)=ws.map (λ w=>Lib.join w [32])++[[]]
 | [],_=>BB (by simp)
 | w :: ws,h=>by
  obtain⟨h1,h2⟩:=h w (by simp);have e:((w :: ws).map tv).flatten=Lib.join w [32]++10 :: (ws.map tv).flatten:=by
   show tv w++(ws.map tv).flatten=_;unfold tv
   simp
  have hn:(10:UInt8)∉Lib.join w [32]:=by
   cases w with
   | nil=>exact absurd rfl h1
   | cons x r=>exact Hv r x h2
  rw[e,Bz _ hn,wh ws λ w hw=>h w (by simp[hw])];rfl
def M0(x:Pr):List (List UInt8):=[zY,x.nm,Lib.itoa x.sup,Lib.itoa x.res,Lib.itoa x.pts,Lib.itoa x.grp]
def MP(x:Br):List (List UInt8):=[zX,x.nm,Lib.itoa x.cls,Lib.itoa x.bud,Lib.itoa x.pts]
def JV(S:Se)(x:T3):List (List UInt8):=[xT,iJ S x,Lib.itoa x.b,Lib.itoa x.c]
def JO(S:Se)(x:T3):List (List UInt8):=[xS,(S.ps.getD x.a.toNat Ad).nm,Lib.itoa x.b,Lib.itoa x.c]
def Sv(S:Se):List (List (List UInt8)):=S.ps.map M0++(S.bd.map MP++(S.cp.map (JV S)++S.sa.map (JO S)))
theorem th{α:Type}(l:List α)(f:α->List UInt8)(F:Nat->List UInt8)(hs:∀ k,F (k+1)=F k++((l[k]?.map f).getD [])):∀ k,k<=l.length->F k=F 0++((l.take k).map f).flatten
 | 0,_=>by simp
 | k+1,hk=>by
  have hx:l[k]?=some (l[k]'(by omega)):=gE (by omega);generalize l[k]'(by omega)=x at hx;rw[hs,th l f F hs k (by omega),aG hx,hx,List.map_append,List.flatten_append,<- List.append_assoc]
  congr 1
  simp
theorem A3(S:Se):dh S=((Sv S).map tv).flatten:=by
 have h1:=th S.ps On (IM S) (λ k=>rfl) S.ps.length (Nat.le_refl _);have h2:=th S.bd Ol (IN S) (λ k=>rfl) S.bd.length (Nat.le_refl _);have h3:=th S.cp (Om S) (IP S) (λ k=>rfl) S.cp.length (Nat.le_refl _);have h4:=th S.sa (Oj S) (KU S) (λ k=>rfl) S.sa.length (Nat.le_refl _);rw[List.take_length] at h1 h2 h3 h4;show KU S S.sa.length=_;rw[h4,show KU S 0=IP S S.cp.length from rfl,h3,show IP S 0=IN S S.bd.length from rfl,h2,show IN S 0=IM S S.ps.length from rfl,h1,show IM S 0=[] from rfl];unfold Sv;simp only[List.map_append,List.flatten_append,List.map_map,List.nil_append,List.append_assoc];rfl
theorem lq{α:Type}(l:List α)(wd:α->List (List UInt8))(j8:List α->Se)(rest:List (List UInt8))(h:∀ k x,l[k]?=some x->Lib.join (wd x) [32]≠[]/\aR 32 (Lib.join (wd x) [32])=wd x/\Bt (j8 (l.take k)) (wd x)=0/\Ay (j8 (l.take k)) (wd x)=j8 (l.take (k+1))) :
  ∀ m k,k+m=l.length->bX (j8 (l.take k)) ((l.drop k).map (λ x=>Lib.join (wd x) [32])++rest)=bX (j8 l) rest
 | 0,k,hk=>by rw[List.take_of_length_le (by omega),List.drop_of_length_le (by omega)]; rfl
 | m+1,k,hk=>by
  have hx:l[k]?=some (l[k]'(by omega)):=gE (by omega);obtain⟨h1,h2,h3,h4⟩:=h k _ hx;have e:l.drop k=l[k]'(by omega) :: l.drop (k+1):=List.drop_eq_getElem_cons (by omega);rw[e];show bX _ (Lib.join (wd _) [32] :: ((l.drop (k+1)).map _++rest))=_;rw[bX,if_neg h1,h2,if_neg (by rw[h3]; simp),h4];exact lq l wd j8 rest h m (k+1) (by omega)
theorem NY{l:List Br}{i:Nat}{x:Br}(hx:l[i]?=some x)(hd:((l.take i).any λ q=>q.nm==x.nm)=false):kQ l x.nm=((i:Int),true):=by
 have h1:l.findIdx? (λ p=>p.nm==x.nm)=some i:=gy hx (by simp) hd;have h2:(l.any λ p=>p.nm==x.nm)=true:=List.any_eq_true.2 ⟨x,List.mem_of_getElem? hx,by simp⟩;rw[kQ,h1,h2]; rfl
theorem KN{l:List Pr}{i:Nat}{x:Pr}(hx:l[i]?=some x)(hd:((l.take i).any λ q=>q.nm==x.nm)=false):cr l x.nm=(i,true):=by
 have h1:l.findIdx? (λ p=>p.nm==x.nm)=some i:=gy hx (by simp) hd;have h2:(l.any λ p=>p.nm==x.nm)=true:=List.any_eq_true.2 ⟨x,List.mem_of_getElem? hx,by simp⟩;rw[cr,h1,h2]; rfl
section
variable {S:Se} (h:S.Ok)
include h
theorem TZ(k:Nat)(x:Pr)(hx:S.ps[k]?=some x):cw x.nm=true/\(0<=x.sup/\x.sup<=4)/\(0<=x.res/\x.res<=1000000)/\(0<=x.pts/\x.pts<=1000)/\(0<=x.grp/\x.grp<=999999999):=by
 have:=(h.ps.good k x hx).1;simp only[tJ,Gq,Bool.and_eq_true,decide_eq_true_eq] at this;obtain⟨h0,⟨h1,h2⟩,h3,h4,h5⟩:=this;exact⟨h0,⟨by omega,by omega⟩,h3,h4,⟨by omega,by omega⟩⟩
theorem Tf(k:Nat)(x:Br)(hx:S.bd[k]?=some x):cw x.nm=true/\(0<=x.cls/\x.cls<=4)/\(0<=x.bud/\x.bud<=1000000)/\(0<=x.pts/\x.pts<=24000):=by
 have:=(h.bd.good k x hx).1;simp only[uz,Bool.and_eq_true,decide_eq_true_eq] at this;obtain⟨h0,h1,h2,h3⟩:=this;exact⟨h0,h1,h2,h3⟩
theorem TY(k:Nat)(x:T3)(hx:S.cp[k]?=some x) : -1<=x.a/\x.a<S.bd.length/\(0<=x.b/\x.b<=4)/\(0<=x.c/\x.c<=24):=by
 have:=(h.cp.good k x hx).1;simp only[sJ,Bool.and_eq_true,decide_eq_true_eq] at this;obtain⟨h1,h2,h3⟩:=this;exact⟨h1.1,h1.2,h2,h3⟩
theorem Uj(k:Nat)(x:T3)(hx:S.sa[k]?=some x):0<=x.a/\x.a<S.ps.length/\(0<=x.b/\x.b<=4)/\(0<=x.c/\x.c<=4):=by
 have:=(h.sa.good k x hx).1;simp only[Am,Bool.and_eq_true,decide_eq_true_eq] at this;obtain⟨h1,h2,h3⟩:=this;have:=TE h x.a.toNat;exact⟨h1.1,h1.2,⟨by omega,by omega⟩,⟨by omega,by omega⟩⟩
theorem SO(k:Nat)(x:T3)(hx:S.cp[k]?=some x):(x.a=-1/\iJ S x=[42])\/∃ y,S.bd[x.a.toNat]?=some y/\iJ S x=y.nm/\x.a=(x.a.toNat:Int):=by
 obtain⟨h1,h2,_⟩:=TY h k x hx;unfold iJ
 by_cases g:x.a>=0
 ·rw[if_pos g];have e:S.bd[x.a.toNat]?=some (S.bd[x.a.toNat]'(by omega)):=gE (by omega);refine .inr ⟨_,e,?_,by omega⟩;rw[List.getD_eq_getElem?_getD,e]; rfl
 ·rw[if_neg g]; exact .inl ⟨by omega,rfl⟩
theorem UJ(k:Nat)(x:Pr)(hx:S.ps[k]?=some x):∀ y∈M0 x,MZ y:=by
 obtain⟨h0,h1,h2,h3,h4⟩:=TZ h k x hx;intro y hy;simp only[M0,List.mem_cons,List.not_mem_nil,or_false] at hy;rcases hy with rfl|rfl|rfl|rfl|rfl|rfl
 ·exact⟨by decide,by decide⟩
 ·exact Dc h0
 ·exact jo h1.1
 ·exact jo h2.1
 ·exact jo h3.1
 ·exact jo h4.1
theorem okB(k:Nat)(x:Br)(hx:S.bd[k]?=some x):∀ y∈MP x,MZ y:=by
 obtain⟨h0,h1,h2,h3⟩:=Tf h k x hx;intro y hy;simp only[MP,List.mem_cons,List.not_mem_nil,or_false] at hy;rcases hy with rfl|rfl|rfl|rfl|rfl
 ·exact⟨by decide,by decide⟩
 ·exact Dc h0
 ·exact jo h1.1
 ·exact jo h2.1
 ·exact jo h3.1
theorem UI(k:Nat)(x:T3)(hx:S.cp[k]?=some x):∀ y∈JV S x,MZ y:=by
 obtain⟨_,_,h1,h2⟩:=TY h k x hx;intro y hy;simp only[JV,List.mem_cons,List.not_mem_nil,or_false] at hy;rcases hy with rfl|rfl|rfl|rfl
 ·exact⟨by decide,by decide⟩
 ·rcases SO h k x hx with⟨_,e⟩|⟨y,hy,e,_⟩
  ·rw[e]; exact⟨by decide,by decide⟩
  ·rw[e]; exact Dc (Tf h _ y hy).1
 ·exact jo h1.1
 ·exact jo h2.1
theorem UH(k:Nat)(x:T3)(hx:S.sa[k]?=some x):∀ y∈JO S x,MZ y:=by
 obtain⟨_,_,h1,h2⟩:=Uj h k x hx;intro y hy;simp only[JO,List.mem_cons,List.not_mem_nil,or_false] at hy;rcases hy with rfl|rfl|rfl|rfl
 ·exact⟨by decide,by decide⟩
 ·exact Dc (TZ h _ _ (Dw h hx)).1
 ·exact jo h1.1
 ·exact jo h2.1
theorem okW:∀ w∈Sv S,w≠[]/\∀ y∈w,MZ y:=by
 intro w hw;unfold Sv at hw;rcases List.mem_append.1 hw with hw|hw
 ·obtain⟨x,hx,rfl⟩:=List.mem_map.1 hw;obtain⟨k,hk⟩:=List.getElem?_of_mem hx;exact⟨by simp[M0],UJ h k x hk⟩
 rcases List.mem_append.1 hw with hw|hw
 ·obtain⟨x,hx,rfl⟩:=List.mem_map.1 hw;obtain⟨k,hk⟩:=List.getElem?_of_mem hx;exact⟨by simp[MP],okB h k x hk⟩
 rcases List.mem_append.1 hw with hw|hw
 ·obtain⟨x,hx,rfl⟩:=List.mem_map.1 hw;obtain⟨k,hk⟩:=List.getElem?_of_mem hx;exact⟨by simp[JV],UI h k x hk⟩
 ·obtain⟨x,hx,rfl⟩:=List.mem_map.1 hw;obtain⟨k,hk⟩:=List.getElem?_of_mem hx;exact⟨by simp[JO],UH h k x hk⟩
omit h in
theorem tD{l:List (List UInt8)}(hl:∀ x∈l,(bV x).2=0):gD l=0:=by
 induction l with
 | nil=>rfl
 | cons x l ih =>
  rw[gD,if_neg (by rw[hl x (by simp)]; simp)];exact ih λ y hy=>hl y (by simp[hy])
theorem Uu(rest:List (List UInt8)):bX cL (S.ps.map (λ x=>Lib.join (M0 x) [32])++rest)=bX { cL with ps:=S.ps } rest:=by
 refine lq S.ps M0 (λ L=>{ cL with ps:=L }) rest (λ k x hx=>?_) S.ps.length 0 (by omega);obtain⟨h0,h1,h2,h3,h4⟩:=TZ h k x hx;have s1:=cA h1.1 (show x.sup<=999999999 by omega);have s2:=cA h2.1 (show x.res<=999999999 by omega);have s3:=cA h3.1 (show x.pts<=999999999 by omega);have s4:=cA h4.1 h4.2;refine⟨by rw[M0,p5]; simp[zY],je _ _ (UJ h k x hx),?_,?_⟩
 ·have hn:cE { cL with ps:=S.ps.take k } zY x.nm=(0,0):=by rw[cE,if_pos (.inl rfl),h0]; rfl
  show(if jy zY=0 then _ else if jy zY≠((6:Nat):Int) then _ else if (cE { cL with ps:=S.ps.take k } zY x.nm).2≠0 then _ else gD [Lib.itoa x.sup,Lib.itoa x.res,Lib.itoa x.pts,Lib.itoa x.grp])=0;rw[if_neg (by decide),if_neg (by decide),hn,if_neg (by simp)];refine tD λ y hy=>?_;simp only[List.mem_cons,List.not_mem_nil,or_false] at hy;rcases hy with rfl|rfl|rfl|rfl
  ·rw[s1]
  ·rw[s2]
  ·rw[s3]
  ·rw[s4]
 ·show(if zY=zY then ({ cL with ps:=S.ps.take k++[⟨x.nm,(bV (Lib.itoa x.sup)).1,(bV (Lib.itoa x.res)).1,(bV (Lib.itoa x.pts)).1,(bV (Lib.itoa x.grp)).1⟩] }:Se) else _)=_;rw[if_pos rfl,s1,s2,s3,s4,aG hx]
theorem Uv(rest:List (List UInt8)):bX { cL with ps:=S.ps } (S.bd.map (λ x=>Lib.join (MP x) [32])++rest)=bX { cL with ps:=S.ps,bd:=S.bd } rest:=by
 refine lq S.bd MP (λ L=>{ cL with ps:=S.ps,bd:=L }) rest (λ k x hx=>?_) S.bd.length 0 (by omega);obtain⟨h0,h1,h2,h3⟩:=Tf h k x hx;have s1:=cA h1.1 (show x.cls<=999999999 by omega);have s2:=cA h2.1 (show x.bud<=999999999 by omega);have s3:=cA h3.1 (show x.pts<=999999999 by omega);refine⟨by rw[MP,p5]; simp[zX],je _ _ (okB h k x hx),?_,?_⟩
 ·have hn:cE { cL with ps:=S.ps,bd:=S.bd.take k } zX x.nm=(0,0):=by rw[cE,if_pos (.inr rfl),h0]; rfl
  show(if jy zX=0 then _ else if jy zX≠((5:Nat):Int) then _ else if (cE { cL with ps:=S.ps,bd:=S.bd.take k } zX x.nm).2≠0 then _ else gD [Lib.itoa x.cls,Lib.itoa x.bud,Lib.itoa x.pts])=0;rw[if_neg (by decide),if_neg (by decide),hn,if_neg (by simp)];refine tD λ y hy=>?_;simp only[List.mem_cons,List.not_mem_nil,or_false] at hy;rcases hy with rfl|rfl|rfl
  ·rw[s1]
  ·rw[s2]
  ·rw[s3]
 ·show(if zX=zY then _ else if zX=zX then ({ cL with ps:=S.ps,bd:=S.bd.take k++[⟨x.nm,(bV (Lib.itoa x.cls)).1,(bV (Lib.itoa x.bud)).1,(bV (Lib.itoa x.pts)).1⟩] }:Se) else _)=_;rw[if_neg (by decide),if_pos rfl,s1,s2,s3,aG hx]
theorem Uw(rest:List (List UInt8)):bX { cL with ps:=S.ps,bd:=S.bd } (S.cp.map (λ x=>Lib.join (JV S x) [32])++rest)=bX { cL with ps:=S.ps,bd:=S.bd,cp:=S.cp } rest:=by
 refine lq S.cp (JV S) (λ L=>{ cL with ps:=S.ps,bd:=S.bd,cp:=L }) rest (λ k x hx=>?_) S.cp.length 0 (by omega);obtain⟨ha1,ha2,h1,h2⟩:=TY h k x hx;have s1:=cA h1.1 (show x.b<=999999999 by omega);have s2:=cA h2.1 (show x.c<=999999999 by omega);have hn:∀ L,cE { cL with ps:=S.ps,bd:=S.bd,cp:=L } xT (iJ S x)=(x.a,0):=λ L=>by
  rw[cE,if_neg (by decide),if_pos rfl];rcases SO h k x hx with⟨e1,e2⟩|⟨y,hy,e2,e3⟩
  ·rw[e2,if_pos rfl,e1]
  ·have hyn:=(Tf h _ y hy).1;have hne : ¬ y.nm=[42]:=λ e=>by rw[e] at hyn; revert hyn; decide
   have hf:=NY hy (h.bd.good _ y hy).2;rw[e2,if_neg hne];show(if (kQ S.bd y.nm).2=true then ((kQ S.bd y.nm).1,0) else (0,6))=_;rw[hf,if_pos rfl,<- e3]
 refine⟨by rw[JV,p5]; simp[xT],je _ _ (UI h k x hx),?_,?_⟩
 ·show(if jy xT=0 then _ else if jy xT≠((4:Nat):Int) then _ else if (cE { cL with ps:=S.ps,bd:=S.bd,cp:=S.cp.take k } xT (iJ S x)).2≠0 then _ else gD [Lib.itoa x.b,Lib.itoa x.c])=0;rw[if_neg (by decide),if_neg (by decide),hn,if_neg (by simp)];refine tD λ y hy=>?_;simp only[List.mem_cons,List.not_mem_nil,or_false] at hy;rcases hy with rfl|rfl
  ·rw[s1]
  ·rw[s2]
 ·show(if xT=zY then _ else if xT=zX then _ else if xT=xT then ({ cL with ps:=S.ps,bd:=S.bd,cp:=S.cp.take k++[⟨(cE { cL with ps:=S.ps,bd:=S.bd,cp:=S.cp.take k } xT (iJ S x)).1,(bV (Lib.itoa x.b)).1,(bV (Lib.itoa x.c)).1⟩] }:Se) else _)=_;rw[if_neg (by decide),if_neg (by decide),if_pos rfl,hn,s1,s2,aG hx]
theorem Ux(rest:List (List UInt8)):bX { cL with ps:=S.ps,bd:=S.bd,cp:=S.cp } (S.sa.map (λ x=>Lib.join (JO S x) [32])++rest)=bX { cL with ps:=S.ps,bd:=S.bd,cp:=S.cp,sa:=S.sa } rest:=by
 refine lq S.sa (JO S) (λ L=>{ cL with ps:=S.ps,bd:=S.bd,cp:=S.cp,sa:=L }) rest (λ k x hx=>?_) S.sa.length 0 (by omega);obtain⟨ha1,ha2,h1,h2⟩:=Uj h k x hx;have s1:=cA h1.1 (show x.b<=999999999 by omega);have s2:=cA h2.1 (show x.c<=999999999 by omega);have hn:∀ L,cE { cL with ps:=S.ps,bd:=S.bd,cp:=S.cp,sa:=L } xS ((S.ps.getD x.a.toNat Ad).nm)=(x.a,0):=λ L=>by
  have hy:=Dw h hx;have hf:=KN hy (h.ps.good _ _ hy).2;rw[cE,if_neg (by decide),if_neg (by decide),if_pos rfl];show(if (cr S.ps _).2=true then (((cr S.ps _).1:Int),0) else (0,6))=_;rw[hf,if_pos rfl];show(((x.a.toNat:Nat):Int),(0:Int))=_;rw[Int.toNat_of_nonneg ha1]
 refine⟨by rw[JO,p5]; simp[xS],je _ _ (UH h k x hx),?_,?_⟩
 ·show(if jy xS=0 then _ else if jy xS≠((4:Nat):Int) then _ else if (cE { cL with ps:=S.ps,bd:=S.bd,cp:=S.cp,sa:=S.sa.take k } xS ((S.ps.getD x.a.toNat Ad).nm)).2≠0 then _ else gD [Lib.itoa x.b,Lib.itoa x.c])=0;rw[if_neg (by decide),if_neg (by decide),hn,if_neg (by simp)];refine tD λ y hy=>?_;simp only[List.mem_cons,List.not_mem_nil,or_false] at hy;rcases hy with rfl|rfl
  ·rw[s1]
  ·rw[s2]
 ·show(if xS=zY then _ else if xS=zX then _ else if xS=xT then _ else if xS=xS then ({ cL with ps:=S.ps,bd:=S.bd,cp:=S.cp,sa:=S.sa.take k++[⟨(cE { cL with ps:=S.ps,bd:=S.bd,cp:=S.cp,sa:=S.sa.take k } xS ((S.ps.getD x.a.toNat Ad).nm)).1,(bV (Lib.itoa x.b)).1,(bV (Lib.itoa x.c)).1⟩] }:Se) else _)=_;rw[if_neg (by decide),if_neg (by decide),if_neg (by decide),if_pos rfl,hn,s1,s2,aG hx]
theorem OW:bX cL (aR 10 (dh S))=(S.er,0):=by
 rw[A3,wh _ (okW h)];unfold Sv;simp only[List.map_append,List.map_map,List.append_assoc];have e1:=Uu h (S.bd.map (λ x=>Lib.join (MP x) [32])++(S.cp.map (λ x=>Lib.join (JV S x) [32])++(S.sa.map (λ x=>Lib.join (JO S x) [32])++[[]])));have e2:=Uv h (S.cp.map (λ x=>Lib.join (JV S x) [32])++(S.sa.map (λ x=>Lib.join (JO S x) [32])++[[]]));have e3:=Uw h (S.sa.map (λ x=>Lib.join (JO S x) [32])++[[]]);have e4:=Ux h [[]];refine e1.trans (e2.trans (e3.trans (e4.trans ?_)));rfl
end
theorem oL{n:Int}(h0:0<=n)(h9:n<=999999999):(Lib.itoa n).length<=9:=by
 have e:Lib.itoa n=Lib.decDigits n.toNat:=by unfold Lib.itoa; rw[if_neg (by omega)]
 rw[e,Lib.decDigits_length];exact Ro 8 _ (by omega)
theorem xG(x:List UInt8)(r:List (List UInt8)):(tv (x :: r)).length=r.length+Lib.lens (x :: r)+1:=by
 rw[tv,List.length_append,Lib.join_length]; simp
theorem tf{α:Type}{f:α->List UInt8}{B:Nat}:∀ {l:List α},(∀ x∈l,(f x).length<=B)->((l.map f).flatten).length<=B*l.length
 | [],_=>by simp
 | x :: l,h=>by
  have h1:=h x (by simp);have h2:=tf (f:=f) (B:=B) (l:=l) λ y hy=>h y (by simp[hy]);rw[List.map_cons,List.flatten_cons,List.length_append,List.length_cons,Nat.mul_add];omega
theorem NZ{S:Se}(h:S.Ok)(l1:S.ps.length<=3)(l2:S.bd.length<=4)(l3:S.cp.length<=10)(l4:S.sa.length<=6):(dh S).length<=2000:=by
 rw[A3];unfold Sv;simp only[List.map_append,List.map_map,List.flatten_append,List.length_append];have b1:((S.ps.map (tv ∘ M0)).flatten).length<=70*S.ps.length:=tf λ x hx=>by
  obtain⟨k,hk⟩:=List.getElem?_of_mem hx;obtain⟨h0,h1,h2,h3,h4⟩:=TZ h k x hk;have g0:=CA h hk;have g1:=oL h1.1 (by omega); have g2:=oL h2.1 (by omega); have g3:=oL h3.1 (by omega); have g4:=oL h4.1 h4.2;show(tv (M0 x)).length<=70;rw[M0,xG];simp[Lib.lens,zY]; omega
 have b2:((S.bd.map (tv ∘ MP)).flatten).length<=70*S.bd.length:=tf λ x hx=>by
  obtain⟨k,hk⟩:=List.getElem?_of_mem hx;obtain⟨h0,h1,h2,h3⟩:=Tf h k x hk;have g0:=FQ h hk;have g1:=oL h1.1 (by omega); have g2:=oL h2.1 (by omega); have g3:=oL h3.1 (by omega);show(tv (MP x)).length<=70;rw[MP,xG];simp[Lib.lens,zX]; omega
 have b3:((S.cp.map (tv ∘ JV S)).flatten).length<=70*S.cp.length:=tf λ x hx=>by
  obtain⟨k,hk⟩:=List.getElem?_of_mem hx;obtain⟨_,_,h1,h2⟩:=TY h k x hk;have g0:=DE h hk;have g1:=oL h1.1 (by omega); have g2:=oL h2.1 (by omega);show(tv (JV S x)).length<=70;rw[JV,xG];simp[Lib.lens,xT]; omega
 have b4:((S.sa.map (tv ∘ JO S)).flatten).length<=70*S.sa.length:=tf λ x hx=>by
  obtain⟨k,hk⟩:=List.getElem?_of_mem hx;obtain⟨_,_,h1,h2⟩:=Uj h k x hk;have g0:=CA h (Dw h hk);have g1:=oL h1.1 (by omega); have g2:=oL h2.1 (by omega);show(tv (JO S x)).length<=70;rw[JO,xG];generalize(S.ps.getD x.a.toNat Ad).nm=nm at g0 ⊢;simp[Lib.lens,xS]; omega
 omega
theorem TI{S:Sx}(h:S.bd.length=8)(k:OA):S.cells.toArray.setIfInBounds 9 (.pointer k)=({ S with k:=k }:Sx).cells.toArray:=by
 obtain⟨o,ph,s,k0,bd,dec,cnt,dig⟩:=S;obtain⟨b0,b1,b2,b3,b4,b5,b6,b7,rfl⟩:=bH h;rfl
theorem Sb(S:Sx)(S' : Se):(S.cells.toArray.toList.take 5++S'.arr.toList++S.cells.toArray.toList.drop (5+S'.arr.toList.length)).toArray=({ S with s:=S' }:Sx).cells.toArray:=rfl
def jR(o:Po)(t:List UInt8):Int:=if gH o≠0 then gH o else tM t
section
variable {w0 w:World} {b:Nat} {S:Sx} {B:aC}
theorem Pk(s:St w0 w (Sep [ai b S.cells.toArray 86,B]))(h:S.bd.length=8){e:Ev}(ht:e.text.length<=80000) :
  CP 69 #[.pointer (some ⟨b,0,none⟩),e.v] w (λ r w'=>r=iv (jR S.o e.text)/\(jR S.o e.text≠0->St w0 w' (Sep [ai b S.cells.toArray 86,B]))/\(jR S.o e.text=0->∃ (S' : Se) (g:Nat) (C:Ck),S'.er=(o5 e.text).er/\S'.Ok/\S.o.ok/\C.er=(eW S' S.o).er/\St w0 w' (Sep (dr b { S with ph:=1,s:=S',k:=some ⟨g,0,none⟩ } g C++[held S'.In,B])))):=by
 refine qG (u1:=e.want) ?_;unfold lJ;refine s.ax e.cells.toArray λ r1 w1 s1=>?_;refine⟨_,_,_,_,s1.aF (vs:=S.o.cells) 1 0 rfl rfl,ak (p9 w1 S.o) ?_⟩;rintro v w2 ⟨rfl,c2⟩;have s2:=s1.quiet c2;refine⟨_,rfl,?_⟩
 by_cases h1:gH S.o=0
 ·have e1:jR S.o e.text=tM e.text:=by rw[jR,if_neg (λ h=>h h1)]
  refine cF (by simpa using h1) ⟨_,s2.ag 0 rfl 9,ak (Mm w2 e.text ht) ?_⟩;rintro v w3 ⟨S',i,rfl,k3,hok⟩;have s3:St w0 w3 (Sep [held S'.In,ai r1 e.cells.toArray 47,ai b S.cells.toArray 86,B]):=s2.and k3;refine⟨_,_,_,_,_,_,_,_,_,_,_,_,_,_,rfl,s3.ax cL.arr λ r2 w4 s4=>s4.az 0 rfl S'.arr.toList rfl (by simp[Se.arr,Value.oneCell']) λ w5 s5=>?_⟩;have s5:St w0 w5 (Sep [ai r2 S'.arr 27,held S'.In,ai r1 e.cells.toArray 47,ai b S.cells.toArray 86,B]):=s5
  by_cases h2:tM e.text=0
  ·obtain⟨eS,hS⟩:=hok h2;have ho:S.o.ok:=by
    unfold gH at h1
    by_cases g:S.o.ok
    ·exact g
    ·rw[if_neg g] at h1; cases h1
   have s6:=s5.quiet (ay.drew w5 []);refine cF (by simpa using h2) ⟨_,_,_,_,_,_,_,_,_,_,_,_,s6.cellsIn (cs:=S'.arr) 0 rfl,_,_,_,_,s6.aF (vs:=S.o.cells) 3 0 rfl rfl,ak (P9 (s6.cv 1 rfl) hS ho) ?_⟩;rintro v w7 ⟨g,C,eC,rfl,k7⟩;have s7:St w0 w7 (Sep (bM g C++[ai r2 S'.arr 27,held S'.In,ai r1 e.cells.toArray 47,ai b S.cells.toArray 86,B])):=St.cat (s6.and k7);refine⟨_,_,rfl,cF rfl ⟨_,_,_,_,_,_,_,_,_,_,_,_,s7.cellsIn (cs:=S'.arr) 6 rfl,?_⟩⟩;have hsz:S.cells.toArray.size=101:=dA h;refine s7.pE 9 5 rfl (vs:=S'.arr.toList) ({ S with s:=S' }:Sx).cells.toArray (by rw[hsz]; show 9<=101; decide) (by simp[Se.arr,Value.oneCell']) (Sb S S') λ w8 s8=>?_;have h1' : ({ S with s:=S' }:Sx).bd.length=8:=h;refine s8.aK 9 rfl (j:=9) (by show 9<({ S with s:=S' }:Sx).cells.toArray.size; rw[dA h1']; decide) rfl λ w9 s9=>?_;rw[TI h1'] at s9;have h2' : ({ S with s:=S',k:=some ⟨g,0,none⟩ }:Sx).bd.length=8:=h;refine s9.aK 9 rfl (j:=4) (by show 4<({ S with s:=S',k:=some ⟨g,0,none⟩ }:Sx).cells.toArray.size; rw[dA h2']; decide) rfl λ w10 s10=>?_;rw[EX h2'] at s10;refine⟨by rw[e1,h2],λ h=>absurd (e1.trans h2) h,λ _=>⟨S',g,C,eS,hS,ho,eC,?_⟩⟩;exact s10.av [9,0,1,2,3,4,5,7,10]
  ·exact cT (by simpa using h2) ⟨by rw[e1],λ _=>s5.av [3,4],λ h=>absurd (e1.symm.trans h) h2⟩
 ·exact cT (by simpa using h1) ⟨by rw[jR,if_pos h1],λ _=>s2.second,λ h=>absurd h (by rw[jR,if_pos h1]; exact h1)⟩
end
def eL(k:Int):FuncId:=if k=1 then 69 else if k=2 then 70 else if k=3\/k=4 then 71 else if k=5 then 72
 else if k=6 then 73 else if k=7 then 74 else if k=8 then 75 else 76
theorem Kw(w:World)(b:Nat)(k:Int):CP 34 #[.pointer (some ⟨b,0,none⟩),iv k] w (λ r w'=>r=.func (.func (eL k)) #[] #[]/\w' = w):=by
 refine nW ?_;unfold ji
 by_cases h1:k=1
 ·exact cT (by simpa using h1) ⟨by rw[eL,if_pos h1],rfl⟩
 refine cF (by simpa using h1) ?_
 by_cases h2:k=2
 ·exact cT (by simpa using h2) ⟨by rw[eL,if_neg h1,if_pos h2],rfl⟩
 refine cF (by simpa using h2) ⟨λ b w1=>b=decide (k=3\/k=4)/\w1=w,?_,?_⟩
 ·rintro w1 _ ⟨rfl,rfl⟩ -
  by_cases h3:k=3\/k=4
  ·exact cT (dT h3) ⟨by rw[eL,if_neg h1,if_neg h2,if_pos h3],rfl⟩
  refine cF (dF h3) ?_
  by_cases h5:k=5
  ·exact cT (by simpa using h5) ⟨by rw[eL,if_neg h1,if_neg h2,if_neg h3,if_pos h5],rfl⟩
  refine cF (by simpa using h5) ?_
  by_cases h6:k=6
  ·exact cT (by simpa using h6) ⟨by rw[eL,if_neg h1,if_neg h2,if_neg h3,if_neg h5,if_pos h6],rfl⟩
  refine cF (by simpa using h6) ?_
  by_cases h7:k=7
  ·exact cT (by simpa using h7) ⟨by rw[eL,if_neg h1,if_neg h2,if_neg h3,if_neg h5,if_neg h6,if_pos h7],rfl⟩
  refine cF (by simpa using h7) ?_
  by_cases h8:k=8
  ·exact cT (by simpa using h8) ⟨by rw[eL,if_neg h1,if_neg h2,if_neg h3,if_neg h5,if_neg h6,if_neg h7,if_pos h8],rfl⟩
  ·exact cF (by simpa using h8) ⟨by rw[eL,if_neg h1,if_neg h2,if_neg h3,if_neg h5,if_neg h6,if_neg h7,if_neg h8],rfl⟩
 ·by_cases g3:k=3
  ·exact cT (by simpa using g3) ⟨by rw[dT (Or.inl g3)]; simpa using g3,rfl⟩
  ·refine cF (by simpa using g3) ⟨?_,rfl⟩
   by_cases g4:k=4
   ·rw[dT (Or.inr g4)]; simpa using g4
   ·rw[dF (by omega)]; simpa using g4
def MT:Br:=⟨[],0,0,0⟩
def bS(S:Sx)(C:Ck)(e:Ev):Int :=
 if e.kind=1 then jR S.o e.text
 else if e.kind=2 then dI C e.bidder.toNat (C.s.bd.getD e.bidder.toNat MT) e.want
 else if e.kind=3\/e.kind=4 then (if C.ov then 10 else 0)
 else if e.kind=5 then eB S.s C e.bidder.toNat (S.s.bd.getD e.bidder.toNat MT) e.text
 else if e.kind=6 then (if (S.bd.getD e.bidder.toNat cO).has then 0 else 6)
 else if e.kind=7 then (if C.dp.getD e.bidder.toNat false then 10 else 0)
 else if e.kind=8 then (if bU C e.round then 4 else 0) else 0
def bg(S:Sx)(C:Ck)(e:Ev):Sx :=
 if e.kind=1 then { S with ph:=1,s:=o5 e.text }
 else if e.kind=2 then S
 else if e.kind=3 then (if bE C then { S with ph:=2 } else S)
 else if e.kind=4 then { S with ph:=2 }
 else if e.kind=5 then ru S e.bidder.toNat (bA S.s.ps e.text).1
 else if e.kind=6 then bn S e.bidder.toNat
 else if e.kind=7 then bn (gG S e.bidder.toNat) e.bidder.toNat
 else if e.kind=8 then { bJ S 8 with ph:=1 } else oH S e
def bG(S:Sx)(C:Ck)(e:Ev):Ck :=
 if e.kind=1 then eW (o5 e.text) S.o
 else if e.kind=2 then gh C e.bidder.toNat e.want
 else if e.kind=3 then bz C
 else if e.kind=4 then ud C
 else if e.kind=7 then jK C e.bidder.toNat
 else if e.kind=8 then dV C e.round.toNat else C
theorem MR:∀ x:Xv,x.er.er=x.er:=Xv.ind λ x ih=>by
 rw[Xv.oC x,Xv.er,Xv.Fv]
 congr 1
 rw[List.map_map];exact List.map_congr_left λ y hy=>ih y hy
def Bd.er(y:Bd):Bd:={ y with x:=y.x.er }
def Sx.er(S:Sx):Sx:={ S with s:=S.s.er,k:=none,bd:=S.bd.map Bd.er }
theorem BU(y:Bd):y.er.er=y.er:=by show({ y with x:=y.x.er.er }:Bd)=_; rw[MR]; rfl
theorem fM(S:Sx):S.er.er=S.er:=by
 show({ S.er with bd:=(S.bd.map Bd.er).map Bd.er }:Sx)=_;rw[List.map_map,show(Bd.er ∘ Bd.er)=Bd.er from funext BU]; rfl
theorem MS:cO.er=cO:=by show({ cO with x:=dK.er }:Bd)=_; rw[GJ]; rfl
theorem sC(S:Sx)(n:Nat):S.er.bd.getD n cO=(S.bd.getD n cO).er:=by
 show(S.bd.map Bd.er).getD n cO=_;rw[List.getD_eq_getElem?_getD,List.getD_eq_getElem?_getD,List.getElem?_map]
 cases S.bd[n]? with
 | none=>exact MS.symm
 | some y=>rfl
theorem rL{l:List Bd}{n:Nat}{y y' : Bd}(h:y.er=y'.er):((l.map Bd.er).set n y).map Bd.er=(l.set n y').map Bd.er:=by
 rw[List.map_set,List.map_set,List.map_map,h,show(Bd.er ∘ Bd.er)=Bd.er from funext BU]
theorem vo(S:Sx)(n:Nat):(bn S.er n).er=(bn S n).er:=by
 have:((S.bd.map Bd.er).set n (G7 (S.er.bd.getD n cO))).map Bd.er=(S.bd.set n (G7 (S.bd.getD n cO))).map Bd.er:=rL (by rw[sC]; rfl);show({ S.er with bd:=((S.bd.map Bd.er).set n (G7 (S.er.bd.getD n cO))).map Bd.er }:Sx)=_;rw[this]; rfl
theorem LK(S:Sx)(n:Nat):(gG S.er n).er=(gG S n).er:=by
 have:((S.bd.map Bd.er).set n { S.er.bd.getD n cO with out:=true }).map Bd.er=(S.bd.set n { S.bd.getD n cO with out:=true }).map Bd.er:=rL (by rw[sC]; exact BU { S.bd.getD n cO with out:=true });show({ S.er with bd:=((S.bd.map Bd.er).set n { S.er.bd.getD n cO with out:=true }).map Bd.er }:Sx)=_;rw[this]; rfl
theorem ES{S S' : Sx}(h:S'.er=S.er)(n:Nat):(bn S' n).er=(bn S n).er:=by rw[<- vo S',h,vo]
theorem Bx{S S' : Sx}(h:S'.er=S.er):∀ k,(bJ S' k).er=(bJ S k).er
 | 0=>h
 | k+1=>ES (Bx h k) k
theorem HO{S S' : Sx}(h:S'.er=S.er)(x:Int):({ S' with ph:=x }:Sx).er=({ S with ph:=x }:Sx).er:=by
 show({ S'.er with ph:=x }:Sx)={ S.er with ph:=x };rw[h]
theorem Ni(S:Sx)(n:Nat)(x:Xv):(ru S.er n x).er=(ru S n x).er:=by
 have:((S.bd.map Bd.er).set n { S.er.bd.getD n cO with x:=x,has:=true }).map Bd.er=(S.bd.set n { S.bd.getD n cO with x:=x,has:=true }).map Bd.er:=rL (by rw[sC]; rfl);show({ S.er with bd:=((S.bd.map Bd.er).set n { S.er.bd.getD n cO with x:=x,has:=true }).map Bd.er }:Sx)=_;rw[this]; rfl
theorem Qz{S:Sx}{n:Nat}{x x' : Xv}(h:x.er=x'.er):(ru S n x).er=(ru S n x').er:=by
 have:(S.bd.set n { S.bd.getD n cO with x:=x,has:=true }).map Bd.er=(S.bd.set n { S.bd.getD n cO with x:=x',has:=true }).map Bd.er:=by
  rw[List.map_set,List.map_set]
  congr 1
  show({ S.bd.getD n cO with x:=x.er,has:=true }:Bd)={ S.bd.getD n cO with x:=x'.er,has:=true };rw[h]
 show({ S.er with bd:=(S.bd.set n { S.bd.getD n cO with x:=x,has:=true }).map Bd.er }:Sx)=_;rw[this]; rfl
theorem B6(S:Sx)(C:Ck)(e:Ev):bS S.er C.er e=bS S C e:=by
 have h1:(S.er.bd.getD e.bidder.toNat cO).has=(S.bd.getD e.bidder.toNat cO).has:=by rw[sC]; rfl
 unfold bS;rw[h1,BV,Jt];show(if _ then _ else if _ then _ else if _ then _ else if _ then eB S.s.er C.er _ _ _ else _)=_;rw[LB]; rfl
theorem B7(S:Sx)(C:Ck)(e:Ev):(bg S.er C.er e).er=(bg S C e).er:=by
 unfold bg;rw[Hw]
 split
 ·show({ S.er.er with ph:=1,s:=(o5 e.text).er }:Sx)={ S.er with ph:=1,s:=(o5 e.text).er };rw[fM]
 ·split
  ·exact fM S
  ·split
   ·split
    ·exact HO (fM S) 2
    ·exact fM S
   ·split
    ·exact HO (fM S) 2
    ·split
     ·exact Ni S _ _
     ·split
      ·exact vo S _
      ·split
       ·exact ES (LK S _) _
       ·split
        ·exact HO (Bx (fM S) 8) 1
        ·unfold oH
         split
         ·show({ S.er.er with ph:=4,dec:=e.digest }:Sx)={ S.er with ph:=4,dec:=e.digest };rw[fM]
         ·exact HO (fM S) 3
theorem B5(S:Sx)(C:Ck)(e:Ev):(bG S.er C.er e).er=(bG S C e).er:=by
 unfold bG
 split
 ·rfl
 ·split
  ·exact xz C _ _
  ·split
   ·exact oz C
   ·split
    ·exact Pp C
    ·split
     ·exact Kr C _
     ·split
      ·exact L0 C _
      ·exact He C
def Io(S:Sx)(w:World):Prop:=S.s.In w/\∀ y∈S.bd,y.x.In w
structure vB (S:Sx) (C:Ck) (w:World):Prop where
 h:Io S w
 k:∀ q,S.k=some q->∃ g,q=⟨g,0,none⟩/\C.Rd g w
structure xW (S:Sx) (C:Ck):Prop where
 b8:S.bd.length=8
 ph:0<=S.ph/\S.ph<=4
 z:S.ph=0->S.s.er=cL
 c:S.ph≠0->C.Inv
 cs:S.ph≠0->C.s.er=S.s.er
 so:S.ph≠0->S.s.Ok
 cnt:0<=S.cnt/\S.cnt<=600
 dig:0<=S.dig/\S.dig<18446744073709551616
 x:∀ y∈S.bd,y.has=true->dR y.x=0
def MV(S:Sx):Prop:=(S.ph=0->S.k=none)/\(S.ph≠0->∃ g,S.k=some ⟨g,0,none⟩)
theorem Dz{S S' : Se}(e:S'.er=S.er):S'.bd=S.bd:=show S'.er.bd=S.er.bd from congrArg Se.bd e
theorem Pd{S S' : Se}(e:S'.er=S.er)(h:S.Ok):S'.Ok:=by
 have h2:S.er.Ok:=⟨h.ps,h.bd,h.cp,h.sa⟩;rw[<- e] at h2;exact⟨h2.ps,h2.bd,h2.cp,h2.sa⟩
theorem getD_at{α:Type}{l:List α}{n:Nat}{d:α}(h:n<l.length):l[n]?=some (l.getD n d):=by rw[List.getD_eq_getElem?_getD,gE h]; rfl
theorem p6{S:Sx}{n:Nat}{y:Bd}(h:y∈(bn S n).bd):y∈S.bd\/(y.x=dK/\y.has=false):=by
 rcases List.mem_or_eq_of_mem_set h with h|rfl
 ·exact .inl h
 ·exact .inr ⟨rfl,rfl⟩
theorem rM{S:Sx}{y:Bd}:∀ k,y∈(bJ S k).bd->y∈S.bd\/(y.x=dK/\y.has=false)
 | 0,h=>.inl h
 | k+1,h=>(p6 h).elim (rM k) .inr
theorem HA{S:Sx}{n:Nat}{y:Bd}(h8:n<S.bd.length)(h:y∈(gG S n).bd):∃ z∈S.bd,y.x=z.x/\y.has=z.has:=by
 rcases List.mem_or_eq_of_mem_set h with h|rfl
 ·exact⟨y,h,rfl,rfl⟩
 ·exact⟨S.bd.getD n cO,List.mem_of_getElem? (getD_at h8),rfl,rfl⟩
section
variable {w0 w:World} {b g:Nat} {S:Sx} {C:Ck} {B:aC}
theorem gM{Q:World->Prop}(s:St w0 w (Sep (dr b S g C++[held Q,B])))(hk:S.k=some ⟨g,0,none⟩)(hQ:∀ w,Q w->Io S w):St w0 w (Sep [ai b S.cells.toArray 86,held (vB S C),B]):=by
 have s1:St w0 w (Sep (bM g C++[held Q,ai b S.cells.toArray 86,B])):=s.av [1,2,3,4,5,6,7,0,8];have s2:St w0 w (Sep (Sep (bM g C) :: held Q :: [ai b S.cells.toArray 86,B])):=s1.split _;have s3:=s2.qQ (S:=vB S C) mV (aZ Q) (λ w h1 h2=>⟨hQ w h2,λ q hq=>by rw[hk] at hq; cases hq; exact⟨g,rfl,h1⟩⟩);exact s3.av [1,0,2]
def Qm(w0:World)(b:Nat)(S:Sx)(C:Ck)(e:Ev)(Q:World->Prop)(B:aC):KP:=λ r w'=>r=iv (bS S C e) /\
 (bS S C e≠0->∃ X:Sx,X.bd.length=8/\St w0 w' (Sep [ai b X.cells.toArray 86,held Q,B])) /\
 (bS S C e=0->∃ (S' : Sx) (C' : Ck),S'.er=(bg S C e).er/\C'.er=(bG S C e).er/\(∃ g,S'.k=some ⟨g,0,none⟩)/\St w0 w' (Sep [ai b S'.cells.toArray 86,held (vB S' C'),B]))
theorem QS{Q:World->Prop}(hQ:∀ w,Q w->Io S w)(s:St w0 w (Sep [ai b S.cells.toArray 86,held Q,B]))(h8:S.bd.length=8){e:Ev}(he:e.Sp)(h1:e.kind=1) :
  Calls prog (eL e.kind) #[pt b,e.v] w (xV (Qm w0 b S C e Q B)):=by
 have eF:eL e.kind=69:=by rw[eL,if_pos h1]
 have eE:bS S C e=jR S.o e.text:=by rw[bS,if_pos h1]
 rw[eF];have s1:St w0 w (Sep [ai b S.cells.toArray 86,Sep [held Q,B]]):=s.eqv (bf.right (bf.unit _));refine ak (Pk s1 h8 (by have:=he.t; omega)) ?_;rintro v w1 ⟨rfl,k1,k2⟩;refine⟨_,rfl,by rw[eE],λ h=>⟨S,h8,?_⟩,λ h=>?_⟩
 ·have:=(k1 (by rw[<- eE]; exact h)).dw [_];exact this
 ·obtain⟨S',g,C',e1,hS,ho,e2,s2⟩:=k2 (by rw[<- eE]; exact h);let S2:Sx:={ S with ph:=1,s:=S',k:=some ⟨g,0,none⟩ };have s3:St w0 w1 (Sep (dr b S2 g C'++[held S'.In,held Q,B])):=s2.dw [_,_,_,_,_,_,_,_];have s4:=(s3.av [7,8,0,1,2,3,4,5,6,9]).qQ (S:=Io S2) (aZ _) (aZ _) (λ w h1 h2=>⟨h1,(hQ w h2).2⟩);have s5:St w0 w1 (Sep (dr b S2 g C'++[held (Io S2),B])):=s4.av [1,2,3,4,5,6,7,0,8];refine⟨S2,C',?_,?_,⟨g,rfl⟩,gM s5 rfl λ w h=>h⟩
  ·rw[bg,if_pos h1];show({ S.er with ph:=1,s:=S'.er }:Sx)={ S.er with ph:=1,s:=(o5 e.text).er };rw[e1]
  ·rw[bG,if_pos h1,e2];have hb:=Dz e1;show({ s:=S'.er,o:=S.o,cl:=[],p:=jg S'.er.ps,ask:=List.replicate S'.bd.length z6,bd:=List.replicate S'.bd.length false,dp:=List.replicate S'.bd.length false,ov:=false,ka:=none,kc:=0,xa:=none,xc:=0,ya:=none,yc:=0,za:=none,zc:=0 }:Ck)=_;rw[hb,e1]; rfl
theorem QT{Q:World->Prop}(hQ:∀ w,Q w->Io S w)(s:St w0 w (Sep (dr b S g C++[held Q,B])))(hok:xW S C)(h0:S.ph≠0)(hk:S.k=some ⟨g,0,none⟩){e:Ev}(he:e.Sp)(hp:cW e.kind S.ph=true)(hn:bh e.kind=true->e.bidder<S.s.bd.length) :
  Calls prog (eL e.kind) #[pt b,e.v] w (xV (Qm w0 b S C e Q B)):=by
 have h8:=hok.b8;have hC:=(hok.c h0).ok;have hS:=hok.so h0;have hcs:=Dz (hok.cs h0);have hb8:=hS.bd.l2;have n1:e.kind≠1:=λ h=>by
  rw[h] at hp;have:cW 1 S.ph=(S.ph==0):=by rw[cW,if_pos rfl]
  rw[this] at hp; exact h0 (by simpa using hp)
 have mA:St w0 w (Sep (dr b S g C++[Sep [held Q,B]])):=St.cat ((s.split (dr b S g C)).eqv (bf.right (bf.unit _)));have unf:∀ {w' : World} {S' : Sx} {C' : Ck},St w0 w' (Sep (dr b S' g C'++[Sep [held Q,B]]))->St w0 w' (Sep (dr b S' g C'++[held Q,B])):=λ s=>s.dw [_,_,_,_,_,_,_];have boxed:∀ {w' : World} {S' : Sx} {C' : Ck},St w0 w' (Sep (dr b S' g C'++[held Q,B]))->St w0 w' (Sep [ai b S'.cells.toArray 86,held Q,B]):=λ s=>s.av [0,7,8];have hb:0<=e.bidder:=he.b.1;have eb:e.bidder=(e.bidder.toNat:Int):=(Int.toNat_of_nonneg hb).symm
 by_cases h2:e.kind=2
 ·have hnb:=hn (by rw[bh,dT (Or.inl h2)]);have eF:eL e.kind=70:=by rw[eL,if_neg n1,if_pos h2]
  have eE:bS S C e=dI C e.bidder.toNat (C.s.bd.getD e.bidder.toNat MT) e.want:=by rw[bS,if_neg n1,if_pos h2]
  have eS:bg S C e=S:=by rw[bg,if_neg n1,if_pos h2]
  have eC:bG S C e=gh C e.bidder.toNat e.want:=by rw[bG,if_neg n1,if_pos h2]
  rw[eF];refine ak (JB mA h8 hk hC eb (getD_at (d:=MT) (by rw[hcs]; omega))) ?_;rintro v w1 ⟨rfl,s1⟩;refine⟨_,rfl,by rw[eE],λ h=>⟨S,h8,boxed (unf s1)⟩,λ h=>?_⟩;rw[eE] at h;rw[if_pos h] at s1;exact⟨S,gh C e.bidder.toNat e.want,by rw[eS],by rw[eC],⟨g,hk⟩,gM (unf s1) hk hQ⟩
 by_cases h34:e.kind=3\/e.kind=4
 ·have eF:eL e.kind=71:=by rw[eL,if_neg n1,if_neg h2,if_pos h34]
  have eE:bS S C e=if C.ov then 10 else 0:=by rw[bS,if_neg n1,if_neg h2,if_pos h34]
  rw[eF];refine ak (Mo mA h8 hk hC e) ?_;rintro v w1 ⟨x,S',C',rfl,h8',hk',hx,hov,s1⟩;refine⟨_,rfl,by rw[eE,hx],λ h=>⟨S',h8',boxed (unf s1)⟩,λ h=>?_⟩;have ho:C.ov=false:=by
   cases hv:C.ov with
   | false=>rfl
   | true=>rw[eE,hv] at h; cases h
  obtain⟨c1,c2⟩:=hov ho;refine⟨S',C',?_,?_,⟨g,hk'.trans hk⟩,gM (unf s1) (hk'.trans hk) λ w h=>?_⟩
  ·rw[bg,if_neg n1,if_neg h2,c2]
   by_cases h3:e.kind=3
   ·rw[if_pos h3,if_pos h3]
   ·rw[if_neg h3,if_neg h3,if_pos (h34.resolve_left h3)]; rfl
  ·rw[bG,if_neg n1,if_neg h2,c1]
   by_cases h3:e.kind=3
   ·rw[if_pos h3,if_pos h3]
   ·rw[if_neg h3,if_neg h3,if_pos (h34.resolve_left h3)]
  ·have:S'.s=S.s/\S'.bd=S.bd:=by
    rw[c2];constructor<;>(repeat' split)<;>rfl
   unfold Io;rw[this.1,this.2]; exact hQ w h
 have n3:e.kind≠3:=λ h=>h34 (.inl h);have n4:e.kind≠4:=λ h=>h34 (.inr h)
 by_cases h5:e.kind=5
 ·have hnb:=hn (by rw[bh,dT (Or.inr (Or.inl h5))]);have eF:eL e.kind=72:=by rw[eL,if_neg n1,if_neg h2,if_neg h34,if_pos h5]
  have eE:bS S C e=eB S.s C e.bidder.toNat (S.s.bd.getD e.bidder.toNat MT) e.text:=by rw[bS,if_neg n1,if_neg h2,if_neg h34,if_pos h5]
  have eS:bg S C e=ru S e.bidder.toNat (bA S.s.ps e.text).1:=by rw[bg,if_neg n1,if_neg h2,if_neg n3,if_neg n4,if_pos h5]
  have eC:bG S C e=C:=by rw[bG,if_neg n1,if_neg h2,if_neg n3,if_neg n4,if_neg (by omega),if_neg (by omega)]
  rw[eF];refine ak (RP (Q:=Q) (λ w h=>(hQ w h).1) s h8 hk hC hS eb (by rw[hcs]; omega) (getD_at (d:=MT) (by omega))) ?_;rintro v w1 ⟨rfl,k1,k2⟩;refine⟨_,rfl,by rw[eE],λ h=>⟨S,h8,boxed (k1 (by rw[<- eE]; exact h))⟩,λ h=>?_⟩;obtain⟨x,ex,s1⟩:=k2 (by rw[<- eE]; exact h);have s2:=(s1.av [7,8,0,1,2,3,4,5,6,9]).qQ (S:=Io (ru S e.bidder.toNat x)) (aZ _) (aZ _) (λ w h1 h2=>⟨(hQ w h1).1,λ y hy=>by
   rcases List.mem_or_eq_of_mem_set hy with hy|rfl
   ·exact(hQ w h1).2 y hy
   ·exact h2⟩)
  have s3:St w0 w1 (Sep (dr b (ru S e.bidder.toNat x) g C++[held (Io (ru S e.bidder.toNat x)),B])):=s2.av [1,2,3,4,5,6,7,0,8];refine⟨ru S e.bidder.toNat x,C,by rw[eS]; exact Qz (by rw[<- ex,MR]),by rw[eC],⟨g,hk⟩,gM s3 hk λ w h=>h⟩
 have dropQ:∀ {S' : Sx} {w:World},S'.s=S.s->(∀ y∈S'.bd,y∈S.bd\/(y.x=dK/\y.has=false))->Q w->Io S' w:=λ e1 e2 h=>⟨by rw[e1]; exact(hQ _ h).1,λ y hy=>by
  rcases e2 y hy with h1|⟨h1,_⟩
  ·exact(hQ _ h).2 y h1
  ·rw[h1]; exact E9 _⟩
 have s' : St w0 w (Sep (ai b S.cells.toArray 86 :: (bM g C++[held Q,B]))):=s
 by_cases h6:e.kind=6
 ·have hnb:=hn (by rw[bh,dT (Or.inr (Or.inr (Or.inl h6)))]);have eF:eL e.kind=73:=by rw[eL,if_neg n1,if_neg h2,if_neg h34,if_neg h5,if_pos h6]
  have eE:bS S C e=if (S.bd.getD e.bidder.toNat cO).has then 0 else 6:=by rw[bS,if_neg n1,if_neg h2,if_neg h34,if_neg h5,if_pos h6]
  have eS:bg S C e=bn S e.bidder.toNat:=by rw[bg,if_neg n1,if_neg h2,if_neg n3,if_neg n4,if_neg h5,if_pos h6]
  have eC:bG S C e=C:=by rw[bG,if_neg n1,if_neg h2,if_neg n3,if_neg n4,if_neg (by omega),if_neg (by omega)]
  rw[eF];refine ak (GG s' h8 (by omega) eb) ?_;rintro v w1 (⟨hh,rfl,s1⟩|⟨hh,rfl,s1⟩)
  ·exact⟨_,rfl,by rw[eE,hh]; rfl,λ _=>⟨S,h8,boxed s1⟩,λ h=>by rw[eE,hh] at h; cases h⟩
  ·refine⟨_,rfl,by rw[eE,hh]; rfl,λ h=>absurd (by rw[eE,hh]; rfl) h,λ _=>⟨bn S e.bidder.toNat,C,by rw[eS],by rw[eC],⟨g,hk⟩,gM (show St w0 w1 (Sep (dr b (bn S e.bidder.toNat) g C++[held Q,B])) from s1) hk λ w h=>dropQ rfl (λ y hy=>p6 hy) h⟩⟩
 by_cases h7:e.kind=7
 ·have hnb:=hn (by rw[bh,dT (Or.inr (Or.inr (Or.inr h7)))]);have eF:eL e.kind=74:=by rw[eL,if_neg n1,if_neg h2,if_neg h34,if_neg h5,if_neg h6,if_pos h7]
  have eE:bS S C e=if C.dp.getD e.bidder.toNat false then 10 else 0:=by rw[bS,if_neg n1,if_neg h2,if_neg h34,if_neg h5,if_neg h6,if_pos h7]
  have eS:bg S C e=bn (gG S e.bidder.toNat) e.bidder.toNat:=by rw[bg,if_neg n1,if_neg h2,if_neg n3,if_neg n4,if_neg h5,if_neg h6,if_pos h7]
  have eC:bG S C e=jK C e.bidder.toNat:=by rw[bG,if_neg n1,if_neg h2,if_neg n3,if_neg n4,if_pos h7]
  have hgd:∀ {v:Bool},C.dp[e.bidder.toNat]?=some v->C.dp.getD e.bidder.toNat false=v:=λ h=>by rw[List.getD_eq_getElem?_getD,h]; rfl
  rw[eF];refine ak (Pc mA h8 hk hC eb (by rw[hcs]; omega)) ?_;have hq:∀ w,Q w->Io (bn (gG S e.bidder.toNat) e.bidder.toNat) w:=λ w h=>⟨(hQ w h).1,λ y hy=>by
   rcases p6 hy with h1|⟨h1,_⟩
   ·obtain⟨z,hz,e1,_⟩:=HA (by omega) h1;rw[e1]; exact(hQ w h).2 z hz
   ·rw[h1]; exact E9 _⟩
  rintro v w1 (⟨hd,rfl,s1⟩|⟨hd,rfl,s1⟩)
  ·exact⟨_,rfl,by rw[eE,hgd hd]; rfl,λ _=>⟨_,by simp[bn,gG,h8],boxed (unf s1)⟩,λ h=>by rw[eE,hgd hd] at h; cases h⟩
  ·exact⟨_,rfl,by rw[eE,hgd hd]; rfl,λ h=>absurd (by rw[eE,hgd hd]; rfl) h,λ _=>⟨bn (gG S e.bidder.toNat) e.bidder.toNat,_,by rw[eS],by rw[eC],⟨g,hk⟩,gM (unf s1) hk hq⟩⟩
 by_cases h8' : e.kind=8
 ·have eF:eL e.kind=75:=by rw[eL,if_neg n1,if_neg h2,if_neg h34,if_neg h5,if_neg h6,if_neg h7,if_pos h8']
  have eE:bS S C e=if bU C e.round then 4 else 0:=by rw[bS,if_neg n1,if_neg h2,if_neg h34,if_neg h5,if_neg h6,if_neg h7,if_pos h8']
  have eS:bg S C e={ bJ S 8 with ph:=1 }:=by rw[bg,if_neg n1,if_neg h2,if_neg n3,if_neg n4,if_neg h5,if_neg h6,if_neg h7,if_pos h8']
  have eC:bG S C e=dV C e.round.toNat:=by rw[bG,if_neg n1,if_neg h2,if_neg n3,if_neg n4,if_neg h7,if_pos h8']
  have hsk:∀ k,(bJ S k).k=S.k/\(bJ S k).s=S.s:=λ k=>by
   induction k with
   | zero=>exact⟨rfl,rfl⟩
   | succ k ih=>exact ih
  rw[eF];refine ak (Mn mA h8 hk hC e) ?_;rintro v w1 (⟨hd,rfl,s1⟩|⟨hd,rfl,C',eC',s1⟩)
  ·exact⟨_,rfl,by rw[eE,hd]; rfl,λ _=>⟨S,h8,boxed (unf s1)⟩,λ h=>by rw[eE,hd] at h; cases h⟩
  ·exact⟨_,rfl,by rw[eE,hd]; rfl,λ h=>absurd (by rw[eE,hd]; rfl) h,λ _=>⟨{ bJ S 8 with ph:=1 },C',by rw[eS],by rw[eC,eC'],⟨g,(hsk 8).1.trans hk⟩,gM (unf s1) ((hsk 8).1.trans hk) λ w h=>dropQ (hsk 8).2 (λ y hy=>rM 8 hy) h⟩⟩
 ·have eF:eL e.kind=76:=by rw[eL,if_neg n1,if_neg h2,if_neg h34,if_neg h5,if_neg h6,if_neg h7,if_neg h8']
  have eE:bS S C e=0:=by rw[bS,if_neg n1,if_neg h2,if_neg h34,if_neg h5,if_neg h6,if_neg h7,if_neg h8']
  have eS:bg S C e=oH S e:=by rw[bg,if_neg n1,if_neg h2,if_neg n3,if_neg n4,if_neg h5,if_neg h6,if_neg h7,if_neg h8']
  have eC:bG S C e=C:=by rw[bG,if_neg n1,if_neg h2,if_neg n3,if_neg n4,if_neg h7,if_neg h8']
  have hf:(oH S e).k=S.k/\(oH S e).s=S.s/\(oH S e).bd=S.bd:=by unfold oH; split<;>exact⟨rfl,rfl,rfl⟩
  rw[eF];refine ak (KO s' h8 e) ?_;rintro v w1 ⟨rfl,s1⟩;exact⟨_,rfl,by rw[eE],λ h=>absurd eE h,λ _=>⟨oH S e,C,by rw[eS],by rw[eC],⟨g,hf.1.trans hk⟩,gM (show St w0 w1 (Sep (dr b (oH S e) g C++[held Q,B])) from s1) (hf.1.trans hk) λ w h=>dropQ hf.2.1 (λ y hy=>.inl (by rw[hf.2.2] at hy; exact hy)) h⟩⟩
def Sy:Option Addr->Ck->aC
 | none,_=>emp
 | some q,C=>Sep (bM q.block C)
theorem Qe{k:Int}(h1:1<=k)(h:cW k 0=true):k=1:=by
 by_cases g:k=1
 ·exact g
 ·unfold cW at h;rw[if_neg g] at h
  repeat' split at h
  all_goals first|(revert h; decide)|cases h
theorem QU{Q:World->Prop}(hQ:∀ w,Q w->Io S w)(s:St w0 w (Sep [ai b S.cells.toArray 86,Sy S.k C,held Q,B]))(hok:xW S C)(hk:MV S){e:Ev}(he:e.Sp)(h1:1<=e.kind)(hp:cW e.kind S.ph=true)(hn:bh e.kind=true->e.bidder<S.s.bd.length) :
  Calls prog (eL e.kind) #[pt b,e.v] w (xV (Qm w0 b S C e Q B)):=by
 by_cases h0:S.ph=0
 ·have e1:=hk.1 h0;rw[e1] at s;rw[h0] at hp;exact QS hQ (s.av [0,2,3]) hok.b8 he (Qe h1 hp)
 ·obtain⟨g,hg⟩:=hk.2 h0;rw[hg] at s;have s1:St w0 w (Sep (Sep (bM g C) :: [ai b S.cells.toArray 86,held Q,B])):=s.av [1,0,2,3];have s2:St w0 w (Sep (bM g C++[ai b S.cells.toArray 86,held Q,B])):=St.cat s1;exact QT hQ (s2.av [6,0,1,2,3,4,5,7,8]) hok h0 hg he hp hn
theorem G0(hS:vB S C w)(hok:xW S C)(hk:MV S):CP 33 #[.pointer S.k] w (λ r w'=>∃ (p:OA) (C' : Ck),r=.pointer p/\C'.er=C.er/\MV { S with k:=p }/\St w w' (Sy p C')):=by
 by_cases h0:S.ph=0
 ·rw[hk.1 h0];refine ak (K:=λ r w'=>r=.pointer none/\w' = w) (oo ⟨rfl,rfl⟩) ?_;rintro v w1 ⟨rfl,rfl⟩;exact⟨_,rfl,none,C,rfl,rfl,⟨λ _=>rfl,λ h=>absurd h0 h⟩,St.start w1⟩
 ·obtain⟨g,hg⟩:=hk.2 h0;obtain⟨g',e,hrd⟩:=hS.k _ hg
  cases e
  rw[hg];refine ak (Km hrd (hok.c h0).ok) ?_;rintro v w1 ⟨g2,C',eC,rfl,k1⟩;exact⟨_,rfl,some ⟨g2,0,none⟩,C',rfl,eC,⟨λ h=>absurd h h0,λ _=>⟨g2,rfl⟩⟩,k1⟩
end
theorem My{S:Sx}{b0 b1 b2 b3 b4 b5 b6 b7:Bd}(h:S.bd=[b0,b1,b2,b3,b4,b5,b6,b7]):S.cells=(iv S.o.step :: (iv S.o.pct :: (iv S.o.und :: (iv S.o.rule :: (iv S.ph :: (.slice S.s.a1 S.s.ps.length S.s.c1 :: (.slice S.s.a2 S.s.bd.length S.s.c2 :: (.slice S.s.a3 S.s.cp.length S.s.c3 :: (.slice S.s.a4 S.s.sa.length S.s.c4 :: (.pointer S.k :: (iv b0.x.op :: (b0.x.u.on (iv b0.x.v :: (.slice b0.x.a b0.x.args.length b0.x.c :: (.bool b0.has :: (.bool b0.out :: (iv b1.x.op :: (b1.x.u.on (iv b1.x.v :: (.slice b1.x.a b1.x.args.length b1.x.c :: (.bool b1.has :: (.bool b1.out :: (iv b2.x.op :: (b2.x.u.on (iv b2.x.v :: (.slice b2.x.a b2.x.args.length b2.x.c :: (.bool b2.has :: (.bool b2.out :: (iv b3.x.op :: (b3.x.u.on (iv b3.x.v :: (.slice b3.x.a b3.x.args.length b3.x.c :: (.bool b3.has :: (.bool b3.out :: (iv b4.x.op :: (b4.x.u.on (iv b4.x.v :: (.slice b4.x.a b4.x.args.length b4.x.c :: (.bool b4.has :: (.bool b4.out :: (iv b5.x.op :: (b5.x.u.on (iv b5.x.v :: (.slice b5.x.a b5.x.args.length b5.x.c :: (.bool b5.has :: (.bool b5.out :: (iv b6.x.op :: (b6.x.u.on (iv b6.x.v :: (.slice b6.x.a b6.x.args.length b6.x.c :: (.bool b6.has :: (.bool b6.out :: (iv b7.x.op :: (b7.x.u.on (iv b7.x.v :: (.slice b7.x.a b7.x.args.length b7.x.c :: (.bool b7.has :: (.bool b7.out :: [.int .u64 S.dec,iv S.cnt,.int .u64 S.dig])))))))))))))))))))))))))))))))))))))))))))))))))))))))))):=by
 rw[Sx.cells,h]; rfl
theorem Fu(k:Int):dQ prog (eL k)=true:=by
 unfold eL
 repeat' split
 all_goals kernel_rfl
theorem Hf{e:Ev}(h:cI e=0):1<=e.kind:=by
 unfold cI at h
 split at h
 ·cases h
 ·rename_i g
  by_cases h1:1<=e.kind
  ·exact h1
  ·exact absurd (Or.inl λ h=>h1 h.1) g
def jl(S:Sx)(e:Ev):Int :=
 if cI e≠0 then cI e else if 600<=S.cnt then 18 else if cW e.kind S.ph=false then 10
 else if bh e.kind=true/\(S.s.bd.length:Int)<=e.bidder then 6 else if bh e.kind=true/\(S.bd.getD e.bidder.toNat cO).out=true then 10 else 0
def ux(S:Sx)(C:Ck)(e:Ev):Int:=if jl S e≠0 then jl S e else bS S C e
def Di(S:Sx)(C:Ck)(e:Ev):Sx:={ bg S C e with cnt:=S.cnt+1,dig:=((ki S.dig.toNat (cK e):Nat):Int) }
abbrev TT (S:Sx) (C:Ck) (e:Ev):Ck:=bG S C e
theorem zB(S:Sx):∀ k,(bJ S k).cnt=S.cnt/\(bJ S k).dig=S.dig
 | 0=>⟨rfl,rfl⟩
 | k+1=>zB S k
theorem DN(S:Sx)(C:Ck)(e:Ev):(bg S C e).cnt=S.cnt/\(bg S C e).dig=S.dig:=by
 unfold bg
 split
 ·exact⟨rfl,rfl⟩
 split
 ·exact⟨rfl,rfl⟩
 split
 ·split<;>exact⟨rfl,rfl⟩
 split
 ·exact⟨rfl,rfl⟩
 split
 ·exact⟨rfl,rfl⟩
 split
 ·exact⟨rfl,rfl⟩
 split
 ·exact⟨rfl,rfl⟩
 split
 ·have h:=zB S 8;generalize bJ S 8=X at h;exact h
 ·unfold oH
  split<;>exact⟨rfl,rfl⟩
theorem v7{S:Sx}(h:S.bd.length=8):∀ k,(bJ S k).bd.length=8
 | 0=>h
 | k+1=>by rw[bJ,bn,List.length_set]; exact v7 h k
theorem DO{S:Sx}(h:S.bd.length=8)(C:Ck)(e:Ev):(bg S C e).bd.length=8:=by
 unfold bg
 split
 ·exact h
 split
 ·exact h
 split
 ·split<;>exact h
 split
 ·exact h
 split
 ·rw[ru,List.length_set]; exact h
 split
 ·rw[bn,List.length_set]; exact h
 split
 ·rw[bn,List.length_set,gG,List.length_set]; exact h
 split
 ·exact v7 h 8
 ·unfold oH
  split<;>exact h
theorem II{e:Ev}(h:cI e=0):(cK e).length<=4000:=by
 unfold cI at h
 split at h
 ·cases h
 ·split at h
  ·cases h
  ·split at h
   ·cases h
   ·rename_i g; omega
theorem TG{S:Sx}(h:S.bd.length=8)(x:Int):S.cells.toArray.setIfInBounds 99 (iv x)=({ S with cnt:=x }:Sx).cells.toArray:=by
 obtain⟨o,ph,s,k,bd,dec,cnt,dig⟩:=S;obtain⟨b0,b1,b2,b3,b4,b5,b6,b7,rfl⟩:=bH h;rfl
theorem TH{S:Sx}(h:S.bd.length=8)(x:Int):S.cells.toArray.setIfInBounds 100 (.int .u64 x)=({ S with dig:=x }:Sx).cells.toArray:=by
 obtain⟨o,ph,s,k,bd,dec,cnt,dig⟩:=S;obtain⟨b0,b1,b2,b3,b4,b5,b6,b7,rfl⟩:=bH h;rfl
theorem Mz{S:Sx}(h:S.bd.length=8):S.cells.toArray[99]?=some (iv S.cnt):=by
 obtain⟨o,ph,s,k,bd,dec,cnt,dig⟩:=S;obtain⟨b0,b1,b2,b3,b4,b5,b6,b7,rfl⟩:=bH h;rfl
theorem Pu{S:Sx}(h:S.bd.length=8):S.cells.toArray[100]?=some (.int .u64 S.dig):=by
 obtain⟨o,ph,s,k,bd,dec,cnt,dig⟩:=S;obtain⟨b0,b1,b2,b3,b4,b5,b6,b7,rfl⟩:=bH h;rfl
theorem Sa{S:Sx}(h:S.bd.length=8){i:Nat}(hi:i<8){y:Bd}(hy:S.bd[i]?=some y):S.cells.toArray[10+i*11+10]?=some (.bool y.out):=by
 obtain⟨o,ph,s,k,bd,dec,cnt,dig⟩:=S;obtain⟨b0,b1,b2,b3,b4,b5,b6,b7,rfl⟩:=bH h
 match i,hi with
 | 0,_|1,_|2,_|3,_|4,_|5,_|6,_|7,_=>cases hy; rfl
theorem MA(S:Sx):∀ v∈S.cells,v.oneCell' = true:=by
 intro v hv;simp only[Sx.cells,Po.cells,Se.arr,List.mem_append,List.mem_cons,List.mem_nil_iff,or_false,List.mem_flatMap,Bd.cells] at hv;rcases hv with(rfl|rfl|rfl|rfl)|rfl|(rfl|rfl|rfl|rfl)|rfl|(⟨y,_,h|rfl|rfl⟩)|rfl|rfl|rfl
 all_goals first|rfl|exact Xv.one _ _ h
section
variable {w0 w:World} {b:Nat} {S:Sx} {C:Ck} {B:aC}
theorem Bu{r1 r3 r4:Nat}{x:Int}{X:Sx}{L:List aC}(s:St w0 w (Sep (ai r4 S.cells.toArray 86 :: ai r3 #[iv x] 34 :: ai r1 #[pt b] 40 :: ai b X.cells.toArray 86 :: L)))(h8:S.bd.length=8)(hX:X.bd.length=8){R:World->Prop}(k0:x=0->R w)(k1:x≠0->∀ w',St w0 w' (Sep (ai r4 S.cells.toArray 86 :: ai r3 #[iv x] 34 :: ai r1 #[pt b] 40 :: ai b S.cells.toArray 86 :: L))->R w') :
  Fg prog 32 #[pt r3,pt r4,pt r1] w R:=by
 obtain⟨b0,b1,b2,b3,b4,b5,b6,b7,hb⟩:=bH h8;refine mM ?_;unfold ij;refine⟨_,s.ag 1 rfl 0,?_⟩
 by_cases h0:x=0
 ·exact cF (by simpa using h0) ⟨rfl,k0 h0⟩
 ·have hcl:af w ⟨r4,0,none⟩ 0 S.cells:=s.cellsIn 0 rfl;have hlen:S.cells.length=101:=Sx.len h8;have hone:=MA S;have e1:=My hb;rw[e1] at hcl hlen hone;refine cT (by simpa using h0) ⟨_,s.ag 2 rfl 0,_,_,_,_,_,_,_,_,_,_,_,_,_,_,_,_,_,_,_,b0.x.u,_,_,_,_,_,_,_,b1.x.u,_,_,_,_,_,_,_,b2.x.u,_,_,_,_,_,_,_,b3.x.u,_,_,_,_,_,_,_,b4.x.u,_,_,_,_,_,_,_,b5.x.u,_,_,_,_,_,_,_,b6.x.u,_,_,_,_,_,_,_,b7.x.u,_,_,_,_,_,_,_,_,_,hcl,aj rfl (s.az 3 rfl _ ?_ hone λ w1 s1=>⟨rfl,k1 h0 w1 ?_⟩)⟩
  ·rw[hlen,dA hX]
  ·rw[<- e1] at s1; exact s1
def UB(w0:World)(b:Nat)(S:Sx)(C:Ck)(e:Ev)(B:aC):KP:=λ r w'=>r=iv (ux S C e) /\
 (ux S C e≠0->St w0 w' (Sep [ai b S.cells.toArray 86,held (vB S C),B])) /\
 (ux S C e=0->∃ (S' : Sx) (C' : Ck),S'.er=(Di S C e).er/\C'.er=(TT S C e).er/\(∃ g,S'.k=some ⟨g,0,none⟩)/\St w0 w' (Sep [ai b S'.cells.toArray 86,held (vB S' C'),B]))
theorem Nf(s:St w0 w (Sep [ai b S.cells.toArray 86,held (vB S C),B]))(hok:xW S C)(hk:MV S){e:Ev}(hi:e.In) :
  CP 9 #[pt b,e.v] w ((UB w0 b S C e B)):=by
 have h8:=hok.b8;obtain⟨b0,b1,b2,b3,b4,b5,b6,b7,hb⟩:=bH h8;refine pF (u1:=e.want) ?_;unfold jZ;refine s.ax #[pt b] λ r1 w1 s1=>s1.ax e.cells.toArray λ r2 w2 s2=>s2.ax #[iv 0] λ r3 w3 s3=>?_;let M:Int->List aC:=λ x=>[ai r3 #[iv x] 34,ai r2 e.cells.toArray 47,ai r1 #[pt b] 40,ai b S.cells.toArray 86,held (vB S C),B];have s3:St w0 w3 (Sep (M 0)):=s3;have fin:∀ {x:Int} {w' : World},x≠0->jl S e=x->St w0 w' (Sep (M 0))->aP w' ⟨r3,0,none⟩ (iv x) λ w6=>∃ n:Int,w6.cell? ⟨r3,0,none⟩=some (iv n)/\UB w0 b S C e B (iv n) w6:=λ {x w'} hx hs s =>
  s.aK 0 rfl (by show 0<1; decide) rfl λ w6 s6=>⟨_,s6.ag 0 rfl 0,by
   have:ux S C e=x:=by rw[ux,if_pos (by rw[hs]; exact hx),hs]
   exact⟨by rw[this],λ _=>s6.av [3,4,5],λ h=>absurd (this.symm.trans h) hx⟩⟩
 refine⟨_,s3.ag 2 rfl 0,cF rfl ⟨_,_,_,e.want,_,_,s3.cellsIn 1 rfl,ak (AY w3 hi) ?_⟩⟩;rintro v w5 ⟨rfl,c5⟩;have s5:=s3.quiet c5;refine⟨_,rfl,?_⟩
 by_cases he : ¬ cI e=0
 ·exact cT (by simpa using he) (fin he (by rw[jl,if_pos he]) s5)
 have he:cI e=0:=by simpa using he
 have hR:=uK he hi.d;have hR1:1<=e.kind:=Hf he;have e1:jl S e=if 600<=S.cnt then 18 else if cW e.kind S.ph=false then 10 else if bh e.kind=true/\(S.s.bd.length:Int)<=e.bidder then 6 else if bh e.kind=true/\(S.bd.getD e.bidder.toNat cO).out=true then 10 else 0:=by rw[jl,if_neg (λ h=>h he)]
 have c99:∀ {w' : World} {l:List aC} {i:Nat},St w0 w' (Sep l)->l[i]?=some (ai b S.cells.toArray 86)->w'.cell? ⟨b,99,none⟩=some (iv S.cnt):=λ s e=>by rw[s.ag _ e]; exact Mz h8
 refine cF (by simpa using he) ⟨_,s5.ag 2 rfl 0,aj rfl ⟨_,c99 s5 (i:=3) rfl,?_⟩⟩
 by_cases h600:600<=S.cnt
 ·exact cT (dT h600) (fin (by decide) (by rw[e1,if_pos h600]) s5)
 rw[if_neg h600] at e1;have s6:=s5.quiet (ay.drew w5 []);refine cF (dF h600) ⟨_,s6.ag 1 rfl 0,_,s6.ag 2 rfl 0,aj rfl ⟨_,(s6.ag 3 rfl 4).trans rfl,ak (F8 _ _ _) ?_⟩⟩;rintro v w8 ⟨rfl,rfl⟩;refine⟨_,rfl,?_⟩
 cases hp:cW e.kind S.ph with
 | false=>exact cT rfl (fin (by decide) (by rw[e1,if_pos hp]) s6)
 | true =>
 rw[if_neg (by rw[hp]; decide)] at e1;refine cF rfl ⟨λ bb w10=>bb=decide (bh e.kind=true/\(S.s.bd.length:Int)<=e.bidder)/\St w0 w10 (Sep (M 0)),?_,?_⟩
 rotate_left
 ·have s7:=s6.quiet (ay.drew w5.drew []);refine⟨_,s7.ag 1 rfl 0,ak (HC _ _) ?_⟩;rintro v w30 ⟨rfl,rfl⟩;refine⟨_,rfl,?_⟩
  cases hn:bh e.kind with
  | true =>
   refine cT rfl ⟨_,s7.ag 1 rfl 1,_,s7.ag 2 rfl 0,aj rfl ⟨_,_,_,(s7.ag 3 rfl 6).trans rfl,?_,s7⟩⟩
   by_cases hl:e.bidder>=(S.s.bd.length:Int)
   ·rw[dT hl,dT ⟨rfl,hl⟩]
   ·rw[dF hl,dF λ h=>hl h.2]
  | false=>exact cF rfl ⟨by rw[dF λ h=>by cases h.1],s7⟩
 rintro w10 bb ⟨rfl,s10⟩ x1
 by_cases hq:bh e.kind=true/\(S.s.bd.length:Int)<=e.bidder
 ·exact cT (dT hq) (fin (by decide) (by rw[e1,if_pos hq]) s10)
 rw[if_neg hq] at e1;have hnb:bh e.kind=true->e.bidder<S.s.bd.length:=λ h=>by
  rcases Int.lt_or_le e.bidder S.s.bd.length with h1|h1
  ·exact h1
  ·exact absurd ⟨h,h1⟩ hq
 refine cF (dF hq) ⟨λ bb w12=>bb=decide (bh e.kind=true/\(S.bd.getD e.bidder.toNat cO).out=true)/\St w0 w12 (Sep (M 0)),?_,?_⟩
 rotate_left
 ·have s11:=s10.quiet (ay.drew w10 []);refine⟨_,s11.ag 1 rfl 0,ak (HC _ _) ?_⟩;rintro v w29 ⟨rfl,rfl⟩;refine⟨_,rfl,?_⟩
  cases hn:bh e.kind with
  | true =>
   have hb8:0<=e.bidder/\e.bidder<8:=hR.b;have eb:e.bidder=(e.bidder.toNat:Int):=(Int.toNat_of_nonneg hb8.1).symm;have co:w10.drew.cell? (Addr.add (Addr.add (Addr.add ⟨b,0,none⟩ 10) ((e.bidder).toNat*11)) 10)=some (.bool (S.bd.getD e.bidder.toNat cO).out):=by
    rw[bq,bq,bq,s11.ag 3 rfl];rw[show 0+10+e.bidder.toNat*11+10=10+e.bidder.toNat*11+10 by omega];exact Sa h8 (by omega) (getD_at (by omega))
   refine cT rfl ⟨_,s11.ag 2 rfl 0,_,s11.ag 1 rfl 1,aj rfl ⟨hb8.1,by omega,_,co,?_,s11⟩⟩
   cases ho:(S.bd.getD e.bidder.toNat cO).out with
   | true=>rw[dT ⟨rfl,rfl⟩]
   | false=>rw[dF λ h=>by cases h.2]
  | false=>exact cF rfl ⟨by rw[dF λ h=>by cases h.1],s11⟩
 rintro w12 bb ⟨rfl,s12⟩ x2
 by_cases ho:bh e.kind=true/\(S.bd.getD e.bidder.toNat cO).out=true
 ·exact cT (dT ho) (fin (by decide) (by rw[e1,if_pos ho]) s12)
 rw[if_neg ho] at e1;have eA:ux S C e=bS S C e:=by rw[ux,if_neg (λ h=>h e1)]
 have hcl:af w12 ⟨b,0,none⟩ 0 S.cells:=s12.cellsIn 3 rfl;have hlen:S.cells.length=101:=Sx.len h8;have hone:=MA S;have eS:=My hb;rw[eS] at hcl hlen hone;refine cF (dF ho) ⟨_,s12.ag 2 rfl 0,aj rfl ⟨_,_,_,_,_,_,_,_,_,_,_,_,_,_,_,_,_,_,_,b0.x.u,_,_,_,_,_,_,_,b1.x.u,_,_,_,_,_,_,_,b2.x.u,_,_,_,_,_,_,_,b3.x.u,_,_,_,_,_,_,_,b4.x.u,_,_,_,_,_,_,_,b5.x.u,_,_,_,_,_,_,_,b6.x.u,_,_,_,_,_,_,_,b7.x.u,_,_,_,_,_,_,_,_,_,hcl,s12.ax (nR ⟨0,0,0,0⟩).cells.toArray λ r4 w14 s14=>s14.az 0 rfl _ (by rw[hlen]; rfl) hone λ w15 s15=>?_⟩⟩;rw[<- eS] at s15;have s16:=s15.quiet (ay.drew w15 []);have s16:St w0 w15.drew (Sep (ai r4 S.cells.toArray 86 :: M 0)):=s16;refine⟨_,s16.ag 3 rfl 0,_,s16.ag 3 rfl 0,aj rfl ⟨S.k,by rw[bq,s16.ag 4 rfl]; exact lP h8,?_⟩⟩;refine ak (G0 (s16.cv 5 rfl) hok hk) ?_;rintro v w16 ⟨p,C1,rfl,eC1,hk1,k16⟩;let S1:Sx:={ S with k:=p };have e1S:S1.er=S.er:=rfl;have hok1:xW S1 C1:=⟨h8,hok.ph,hok.z,λ h=>(hok.c h).er eC1,λ h=>(show C1.er.s=C.er.s from congrArg Ck.s eC1).trans (hok.cs h),hok.so,hok.cnt,hok.dig,hok.x⟩;have s17:St w0 w16 (Sep (Sy p C1 :: ai r4 S.cells.toArray 86 :: M 0)):=s16.and k16;refine⟨_,rfl,s17.ag 4 rfl 0,aj rfl ?_⟩;rw[bq];refine s17.aK 5 rfl (j:=0+9) (by show 0+9<S.cells.toArray.size; rw[dA h8]; decide) rfl λ w17 s18=>?_;rw[show 0+9=9 from rfl,TI h8] at s18;refine⟨_,s18.ag 4 rfl 0,_,s18.ag 3 rfl 0,ak (Kw w17 b e.kind) ?_⟩;rintro v w18 ⟨rfl,rfl⟩;refine⟨_,rfl,_,s18.ag 4 rfl 0,_,_,_,e.want,_,_,s18.cellsIn 3 rfl,bx (Fu e.kind) ?_⟩;have s19:St w0 w18 (Sep [ai b S1.cells.toArray 86,Sy S1.k C1,held (vB S C),Sep [ai r4 S.cells.toArray 86,ai r3 #[iv 0] 34,ai r2 e.cells.toArray 47,ai r1 #[pt b] 40,B]]) :=
  St.cat (((s18.av [5,0,6,1,2,3,4,7]).split [_,_,_]).eqv (bf.right (bf.unit _)))
 refine ak (QU (S:=S1) (λ w h=>(show Io S1 w from h.h)) s19 hok1 hk1 hR hR1 hp hnb) ?_;rintro v w19 ⟨rfl,k1,k2⟩;have eE1:bS S1 C1 e=bS S C e:=by rw[<- B6 S1 C1,eC1,e1S,B6]
 have eS1:(bg S1 C1 e).er=(bg S C e).er:=by rw[<- B7 S1 C1,eC1,e1S,B7]
 have eC2:(bG S1 C1 e).er=(bG S C e).er:=by rw[<- B5 S1 C1,eC1,e1S,B5]
 rw[eE1] at k1 k2 ⊢
 by_cases h0:bS S C e=0
 ·obtain⟨S',C',eS',eC',⟨g,hg⟩,s20⟩:=k2 h0;have s20:St w0 w19 (Sep ([ai b S'.cells.toArray 86,held (vB S' C')]++[ai r4 S.cells.toArray 86,ai r3 #[iv 0] 34,ai r2 e.cells.toArray 47,ai r1 #[pt b] 40,B])):=s20.dw [_,_];have eS3:=eS'.trans eS1;have h8' : S'.bd.length=8:=by
   have e1:S'.er.bd.length=(bg S C e).er.bd.length:=by rw[eS3]
   have e2:S'.er.bd.length=S'.bd.length:=List.length_map _;have e3:(bg S C e).er.bd.length=(bg S C e).bd.length:=List.length_map _;rw[<- e2,e1,e3]; exact DO h8 C e
  have hcnt:S'.cnt=S.cnt:=(show S'.er.cnt=(bg S C e).er.cnt by rw[eS3]).trans (DN S C e).1;have hdig:S'.dig=((S.dig.toNat:Nat):Int):=((show S'.er.dig=(bg S C e).er.dig by rw[eS3]).trans (DN S C e).2).trans (Int.toNat_of_nonneg hok.dig.1).symm;have hc600:=hok.cnt;rw[h0];refine⟨_,rfl,s20.aK 3 rfl (by show 0<1; decide) rfl λ w20 s21=>⟨_,s21.ag 3 rfl 0,cF rfl ⟨_,_,_,e.want,_,_,s21.cellsIn 4 rfl,ak (Kz w20 hi) ?_⟩⟩⟩;rintro v w23 ⟨rfl,c23⟩;rw[if_pos he,he];have s22:=s21.quiet c23;have c99:w23.cell? ⟨b,0+99,none⟩=some (iv S'.cnt):=by rw[s22.ag 0 rfl]; exact Mz h8'
  refine⟨_,_,rfl,_,s22.ag 5 rfl 0,aj rfl ⟨_,by rw[bq]; exact c99,aj rfl ?_⟩⟩;rw[bq,aB (n:=S'.cnt+1) ⟨by omega,by omega⟩];refine s22.aK 0 rfl (j:=0+99) (by rw[dA h8']; decide) rfl λ w24 s23=>?_;rw[show 0+99=99 from rfl,TG h8'] at s23;have s24:=s23.quiet (ay.drew w24 []);have h83:({ S' with cnt:=S'.cnt+1 }:Sx).bd.length=8:=h8';have c100:w24.drew.cell? ⟨b,0+100,none⟩=some (.int .u64 ((S.dig.toNat:Nat):Int)):=by rw[s24.ag 0 rfl,<- hdig]; exact Pu h83
  have hbl:=II he;refine⟨_,s24.ag 5 rfl 0,_,s24.ag 5 rfl 0,aj rfl ⟨_,by rw[bq]; exact c100,ak (Nz _ S.dig.toNat (cK e) (by omega)) ?_⟩⟩;rintro v w25 ⟨rfl,c25⟩;have s25:=s24.quiet c25;refine⟨_,rfl,s25.ag 5 rfl 0,aj rfl ?_⟩;rw[bq];refine s25.aK 0 rfl (j:=0+100) (by rw[dA h83]; decide) rfl λ w26 s26=>?_;rw[show 0+100=100 from rfl,TH h83] at s26;refine s26.aK 3 rfl (by show 0<1; decide) rfl λ w27 s27=>?_;let S3:Sx:={ S' with cnt:=S'.cnt+1,dig:=((ki S.dig.toNat (cK e):Nat):Int) };have s28:St w0 w27 (Sep (held (vB S' C') :: [ai r4 S.cells.toArray 86,ai r3 #[iv 0] 34,ai r1 #[pt b] 40,ai b S3.cells.toArray 86,ai r2 e.cells.toArray 47,B])):=s27.av [1,2,3,5,0,4,6];have s29:St w0 w27 (Sep (held (vB S3 C') :: [ai r4 S.cells.toArray 86,ai r3 #[iv 0] 34,ai r1 #[pt b] 40,ai b S3.cells.toArray 86,ai r2 e.cells.toArray 47,B])):=s28.weak (bC.left (pZ λ w h=>⟨⟨h.h.1,h.h.2⟩,h.k⟩));have s30:St w0 w27 (Sep (ai r4 S.cells.toArray 86 :: ai r3 #[iv 0] 34 :: ai r1 #[pt b] 40 :: ai b S3.cells.toArray 86 :: [held (vB S3 C'),B])):=s29.av [1,2,3,4,0,6];refine Bu s30 h8 (show S3.bd.length=8 from h8') (λ _=>⟨_,s30.ag 1 rfl 0,by rw[eA,h0],λ h=>absurd (eA.trans h0) h,λ _=>⟨S3,C',?_,eC'.trans eC2,⟨g,hg⟩,s30.av [3,4,5]⟩⟩) (λ h=>absurd rfl h);show({ S'.er with cnt:=S'.cnt+1,dig:=((ki S.dig.toNat (cK e):Nat):Int) }:Sx)={ (bg S C e).er with cnt:=S.cnt+1,dig:=((ki S.dig.toNat (cK e):Nat):Int) };rw[eS3,hcnt]
 ·obtain⟨X,hX,s20⟩:=k1 h0;have s20:St w0 w19 (Sep ([ai b X.cells.toArray 86,held (vB S C)]++[ai r4 S.cells.toArray 86,ai r3 #[iv 0] 34,ai r2 e.cells.toArray 47,ai r1 #[pt b] 40,B])):=s20.dw [_,_];refine⟨_,rfl,s20.aK 3 rfl (by show 0<1; decide) rfl λ w20 s21=>⟨_,s21.ag 3 rfl 0,cT (by simpa using h0) ⟨_,s21.ag 3 rfl 0,s21.aK 3 rfl (by show 0<1; decide) rfl λ w21 s22=>?_⟩⟩⟩;have s23:St w0 w21 (Sep (ai r4 S.cells.toArray 86 :: ai r3 #[iv (bS S C e)] 34 :: ai r1 #[pt b] 40 :: ai b X.cells.toArray 86 :: [held (vB S C),ai r2 e.cells.toArray 47,B])):=s22.av [2,3,5,0,1,4,6];refine Bu s23 h8 hX (λ h=>absurd h h0) λ _ w22 s24=>⟨_,s24.ag 1 rfl 0,by rw[eA],λ _=>s24.av [3,4,6],λ h=>absurd (eA.symm.trans h) h0⟩
end
theorem gz{α:Type}{f:Nat->α->Int}:∀ {l:List α} {n:Nat},eU f n l=0->∀ i p,l[i]?=some p->f (n+i) p=0
 | [],_,_,i,p,hp=>by simp at hp
 | y :: l,n,h,i,p,hp=>by
  rw[eU] at h
  split at h
  ·rename_i g; exact absurd h g
  ·rename_i g
   cases i with
   | zero=>cases hp; rw[Nat.add_zero]; simpa using g
   | succ i=>have:=gz h i p (by simpa using hp); rwa [show n+(i+1)=n+1+i by omega]
theorem RE{l:List Pr}(h:Ga l=0):bZ l:=by
 unfold Ga at h
 by_cases h1:l.length=0
 ·rw[if_pos h1] at h; cases h
 rw[if_neg h1] at h
 by_cases h2:6<l.length
 ·rw[if_pos h2] at h; cases h
 rw[if_neg h2] at h
 by_cases h3:eU (JS l) 0 l=0
 ·rw[if_neg (λ g=>g h3)] at h
  by_cases h4:pr (C8 l)<=1024
  ·refine⟨by omega,by omega,λ i p hp=>?_,by rw[<- ue (by omega)]; exact h4⟩;have:=gz h3 i p hp;rw[Nat.zero_add] at this;unfold JS at this
   split at this
   ·cases this
   split at this
   ·cases this
   split at this
   ·cases this
   rename_i g1 g2 g3;exact⟨by unfold tJ; simp at g1 g3; rw[g1,g3]; rfl,by simpa using g2⟩
  ·rw[if_neg h4] at h; cases h
 ·rw[if_pos h3] at h; exact absurd h h3
theorem QD{l:List Br}(h:GV l=0):GM l:=by
 unfold GV at h
 by_cases h1:l.length=0
 ·rw[if_pos h1] at h; cases h
 rw[if_neg h1] at h
 by_cases h2:8<l.length
 ·rw[if_pos h2] at h; cases h
 rw[if_neg h2] at h;refine⟨by omega,by omega,λ i p hp=>?_⟩;have:=gz h i p hp;rw[Nat.zero_add] at this;unfold Nk at this
 split at this
 ·cases this
 split at this
 ·cases this
 split at this
 ·cases this
 rename_i g1 g2 g3;exact⟨by simp at g1 g3; rw[g1,g3]; rfl,by simpa using g2⟩
theorem QL{n:Nat}{l:List T3}(h:IE n l=0):BM n l:=by
 unfold IE at h
 by_cases h2:16<l.length
 ·rw[if_pos h2] at h; cases h
 rw[if_neg h2] at h;refine⟨by omega,λ i p hp=>?_⟩;have:=gz h i p hp;rw[Nat.zero_add] at this;unfold NC at this
 split at this
 ·cases this
 split at this
 ·cases this
 split at this
 ·cases this
 rename_i g1 g2 g3;have g1:=Bool.not_eq_false _▸g1;have g2:=Bool.not_eq_false _▸g2;exact⟨by unfold sJ; rw[g1,g2]; rfl,by simpa using g3⟩
theorem R3{ps:List Pr}{l:List T3}(h:Mp ps l=0):fN ps l:=by
 unfold Mp at h
 by_cases h2:6<l.length
 ·rw[if_pos h2] at h; cases h
 rw[if_neg h2] at h;refine⟨by omega,λ i p hp=>?_⟩;have:=gz h i p hp;rw[Nat.zero_add] at this;unfold Pa at this
 split at this
 ·cases this
 split at this
 ·cases this
 split at this
 ·cases this
 rename_i g1 g2 g3;have g1:=Bool.not_eq_false _▸g1;have g2:=Bool.not_eq_false _▸g2;exact⟨by unfold Am; rw[g1,g2]; rfl,by simpa using g3⟩
theorem RS{s:Se}(h:vp s=0):s.Ok:=by
 unfold vp at h
 by_cases h1:Ga s.ps=0
 ·rw[if_neg (λ g=>g h1)] at h
  by_cases h2:GV s.bd=0
  ·rw[if_neg (λ g=>g h2)] at h
   by_cases h3:IE s.bd.length s.cp=0
   ·rw[if_neg (λ g=>g h3)] at h;exact⟨RE h1,QD h2,QL h3,R3 h⟩
   ·rw[if_pos h3] at h; exact absurd h h3
  ·rw[if_pos h2] at h; exact absurd h h2
 ·rw[if_pos h1] at h; exact absurd h h1
theorem OV{t:List UInt8}(h:tM t=0):(o5 t).Ok:=by
 unfold tM at h
 by_cases h1:4000<t.length
 ·rw[if_pos h1] at h; cases h
 rw[if_neg h1] at h
 by_cases h2:(bX cL (aR 10 t)).2=0
 ·rw[if_neg (λ g=>g h2)] at h; exact RS h
 ·rw[if_pos h2] at h; exact absurd h h2
theorem LD{o:Po}{t:List UInt8}(h:jR o t=0):o.ok/\(o5 t).Ok:=by
 unfold jR at h
 by_cases h1:gH o=0
 ·rw[if_neg (λ g=>g h1)] at h;refine⟨?_,OV h⟩;unfold gH at h1
  by_cases g:o.ok
  ·exact g
  ·rw[if_neg g] at h1; cases h1
 ·rw[if_pos h1] at h; exact absurd h h1
section
variable {S S' : Sx} {C C' : Ck} {e:Ev}
theorem xW.er(h:xW S C)(eS:S'.er=S.er)(eC:C'.er=C.er):xW S' C':=by
 have eb:S'.bd.map Bd.er=S.bd.map Bd.er:=show S'.er.bd=S.er.bd by rw[eS]
 have ep:S'.ph=S.ph:=show S'.er.ph=S.er.ph by rw[eS]
 have es:S'.s.er=S.s.er:=show S'.er.s=S.er.s by rw[eS]
 have ec:S'.cnt=S.cnt:=show S'.er.cnt=S.er.cnt by rw[eS]
 have ed:S'.dig=S.dig:=show S'.er.dig=S.er.dig by rw[eS]
 have ecs:C'.s.er=C.s.er:=show C'.er.s=C.er.s by rw[eC]
 have hl:S'.bd.length=S.bd.length:=by have:=congrArg List.length eb; simpa using this
 refine⟨by rw[hl]; exact h.b8,by rw[ep]; exact h.ph,λ h0=>by rw[es]; exact h.z (ep▸h0),λ h0=>(h.c (ep▸h0)).er eC,λ h0=>by rw[ecs,es]; exact h.cs (ep▸h0),λ h0=>Pd es (h.so (ep▸h0)),by rw[ec]; exact h.cnt,by rw[ed]; exact h.dig,λ y hy hh=>?_⟩;have:y.er∈S.bd.map Bd.er:=eb▸List.mem_map_of_mem hy;obtain⟨z,hz,ez⟩:=List.mem_map.1 this;have h1:z.x.er=y.x.er:=show z.er.x=y.er.x by rw[ez]
 have h2:z.has=y.has:=show z.er.has=y.er.has by rw[ez]
 rw[<- yy,<- h1,yy];exact h.x z hz (h2.trans hh)
theorem GB(h:jl S e=0):cI e=0/\S.cnt<600/\cW e.kind S.ph=true/\(bh e.kind=true->e.bidder<S.s.bd.length)/\(bh e.kind=true->(S.bd.getD e.bidder.toNat cO).out=false):=by
 unfold jl at h
 by_cases h1:cI e≠0
 ·rw[if_pos h1] at h; exact absurd h h1
 rw[if_neg h1] at h
 by_cases h2:600<=S.cnt
 ·rw[if_pos h2] at h; cases h
 rw[if_neg h2] at h
 by_cases h3:cW e.kind S.ph=false
 ·rw[if_pos h3] at h; cases h
 rw[if_neg h3] at h
 by_cases h4:bh e.kind=true/\(S.s.bd.length:Int)<=e.bidder
 ·rw[if_pos h4] at h; cases h
 rw[if_neg h4] at h
 by_cases h5:bh e.kind=true/\(S.bd.getD e.bidder.toNat cO).out=true
 ·rw[if_pos h5] at h; cases h
 refine⟨by simpa using h1,by omega,by simpa using h3,λ hn=>?_,λ hn=>?_⟩
 ·rcases Int.lt_or_le e.bidder S.s.bd.length with h6|h6
  ·exact h6
  ·exact absurd ⟨hn,h6⟩ h4
 ·cases ho:(S.bd.getD e.bidder.toNat cO).out with
  | false=>rfl
  | true=>exact absurd ⟨hn,ho⟩ h5
theorem J7(h:ux S C e=0):jl S e=0/\bS S C e=0:=by
 unfold ux at h
 by_cases h1:jl S e=0
 ·rw[if_neg (λ g=>g h1)] at h; exact⟨h1,h⟩
 ·rw[if_pos h1] at h; exact absurd h h1
theorem PL(hok:xW S C)(h:ux S C e=0)(hi:e.In):xW (Di S C e) (TT S C e)/\(Di S C e).ph≠0:=by
 obtain⟨hs,hE⟩:=J7 h;obtain⟨h1,h2,h3,h4,h5⟩:=GB hs;have hR:=uK h1 hi.d;have hk1:=Hf h1;have hc:=hok.cnt;have hch:0<=((ki S.dig.toNat (cK e):Nat):Int)/\((ki S.dig.toNat (cK e):Nat):Int)<18446744073709551616:=⟨Int.natCast_nonneg _,by have:ki S.dig.toNat (cK e)<18446744073709551616:=K3 _; omega⟩;have hlen:=DO hok.b8 C e
 suffices H:(0<=(bg S C e).ph/\(bg S C e).ph<=4/\(bg S C e).ph≠0)/\(bG S C e).Inv/\(bG S C e).s.er=(bg S C e).s.er/\(bg S C e).s.Ok/\∀ y∈(bg S C e).bd,y.has=true->dR y.x=0 by
  obtain⟨⟨p1,p2,p3⟩,i1,i2,i3,i4⟩:=H;exact⟨⟨hlen,⟨p1,p2⟩,λ h=>absurd h p3,λ _=>i1,λ _=>i2,λ _=>i3,⟨by show 0<=S.cnt+1; omega,by show S.cnt+1<=600; omega⟩,hch,i4⟩,p3⟩
 by_cases k1:e.kind=1
 ·have eE:bS S C e=jR S.o e.text:=by rw[bS,if_pos k1]
  have eS:bg S C e={ S with ph:=1,s:=o5 e.text }:=by rw[bg,if_pos k1]
  have eC:bG S C e=eW (o5 e.text) S.o:=by rw[bG,if_pos k1]
  obtain⟨ho,hS⟩:=LD (eE▸hE);rw[eS,eC];exact⟨⟨by show(0:Int)<=1; decide,by show(1:Int)<=4; decide,by show(1:Int)≠0; decide⟩,yY hS ho,rfl,hS,hok.x⟩
 have n0:S.ph≠0:=λ h0=>k1 (Qe hk1 (h0▸h3));have hC:=hok.c n0;have hcs:=hok.cs n0;have hS:=hok.so n0;have hph:=hok.ph
 by_cases k2:e.kind=2
 ·have eE:bS S C e=dI C e.bidder.toNat (C.s.bd.getD e.bidder.toNat MT) e.want:=by rw[bS,if_neg k1,if_pos k2]
  have eS:bg S C e=S:=by rw[bg,if_neg k1,if_pos k2]
  have eC:bG S C e=gh C e.bidder.toNat e.want:=by rw[bG,if_neg k1,if_pos k2]
  rw[eS,eC];exact⟨⟨hph.1,hph.2,n0⟩,od hC (eE▸hE),hcs,hS,hok.x⟩
 by_cases k3:e.kind=3
 ·have eE:bS S C e=if C.ov then 10 else 0:=by rw[bS,if_neg k1,if_neg k2,if_pos (.inl k3)]
  have eS:bg S C e=(if bE C then { S with ph:=2 } else S):=by rw[bg,if_neg k1,if_neg k2,if_pos k3]
  have eC:bG S C e=bz C:=by rw[bG,if_neg k1,if_neg k2,if_pos k3]
  have ho:C.ov=false:=by
   cases hv:C.ov with
   | false=>rfl
   | true=>rw[eE,hv] at hE; cases hE
  rw[eS,eC];refine⟨?_,rE hC ho,?_,?_,?_⟩
  ·split
   ·exact⟨by show(0:Int)<=2; decide,by show(2:Int)<=4; decide,by show(2:Int)≠0; decide⟩
   ·exact⟨hph.1,hph.2,n0⟩
  ·split<;>exact hcs
  ·split<;>exact hS
  ·split<;>exact hok.x
 by_cases k4:e.kind=4
 ·have eS:bg S C e={ S with ph:=2 }:=by rw[bg,if_neg k1,if_neg k2,if_neg k3,if_pos k4]
  have eC:bG S C e=ud C:=by rw[bG,if_neg k1,if_neg k2,if_neg k3,if_pos k4]
  rw[eS,eC];exact⟨⟨by show(0:Int)<=2; decide,by show(2:Int)<=4; decide,by show(2:Int)≠0; decide⟩,JF hC,hcs,hS,hok.x⟩
 have k34 : ¬ (e.kind=3\/e.kind=4):=λ h=>h.elim k3 k4
 by_cases k5:e.kind=5
 ·have eE:bS S C e=eB S.s C e.bidder.toNat (S.s.bd.getD e.bidder.toNat MT) e.text:=by rw[bS,if_neg k1,if_neg k2,if_neg k34,if_pos k5]
  have eS:bg S C e=ru S e.bidder.toNat (bA S.s.ps e.text).1:=by rw[bg,if_neg k1,if_neg k2,if_neg k3,if_neg k4,if_pos k5]
  have eC:bG S C e=C:=by rw[bG,if_neg k1,if_neg k2,if_neg k3,if_neg k4,if_neg (by omega),if_neg (by omega)]
  rw[eE] at hE;have hp:(bA S.s.ps e.text).2=0:=by
   unfold eB at hE
   by_cases g:(bA S.s.ps e.text).2=0
   ·exact g
   ·rw[if_pos g] at hE; exact absurd hE g
  rw[eS,eC];refine⟨⟨hph.1,hph.2,n0⟩,hC,hcs,hS,λ y hy hh=>?_⟩;rcases List.mem_or_eq_of_mem_set hy with hy|rfl
  ·exact hok.x y hy hh
  ·exact Bn hp
 have hdr:∀ {X:Sx} {n:Nat},(∀ y∈X.bd,y.has=true->dR y.x=0)->∀ y∈(bn X n).bd,y.has=true->dR y.x=0:=λ h y hy hh=>by
  rcases p6 hy with h1|⟨_,h2⟩
  ·exact h y h1 hh
  ·rw[h2] at hh; cases hh
 by_cases k6:e.kind=6
 ·have eS:bg S C e=bn S e.bidder.toNat:=by rw[bg,if_neg k1,if_neg k2,if_neg k3,if_neg k4,if_neg k5,if_pos k6]
  have eC:bG S C e=C:=by rw[bG,if_neg k1,if_neg k2,if_neg k3,if_neg k4,if_neg (by omega),if_neg (by omega)]
  rw[eS,eC];exact⟨⟨hph.1,hph.2,n0⟩,hC,hcs,hS,hdr hok.x⟩
 by_cases k7:e.kind=7
 ·have eS:bg S C e=bn (gG S e.bidder.toNat) e.bidder.toNat:=by rw[bg,if_neg k1,if_neg k2,if_neg k3,if_neg k4,if_neg k5,if_neg k6,if_pos k7]
  have eC:bG S C e=jK C e.bidder.toNat:=by rw[bG,if_neg k1,if_neg k2,if_neg k3,if_neg k4,if_pos k7]
  have hb8:=hS.bd.l2;have hn:=h4 (by rw[bh,dT (Or.inr (Or.inr (Or.inr k7)))]);rw[eS,eC];refine⟨⟨hph.1,hph.2,n0⟩,IF hC _,hcs,hS,hdr λ y hy hh=>?_⟩;obtain⟨z,hz,e1,e2⟩:=HA (by have:=hok.b8; have:=hR.b; omega) hy;rw[e1]; exact hok.x z hz (e2▸hh)
 by_cases k8:e.kind=8
 ·have eE:bS S C e=if bU C e.round then 4 else 0:=by rw[bS,if_neg k1,if_neg k2,if_neg k34,if_neg k5,if_neg k6,if_neg k7,if_pos k8]
  have eS:bg S C e={ bJ S 8 with ph:=1 }:=by rw[bg,if_neg k1,if_neg k2,if_neg k3,if_neg k4,if_neg k5,if_neg k6,if_neg k7,if_pos k8]
  have eC:bG S C e=dV C e.round.toNat:=by rw[bG,if_neg k1,if_neg k2,if_neg k3,if_neg k4,if_neg k7,if_pos k8]
  have hr:bU C e.round=false:=by
   cases hv:bU C e.round with
   | false=>rfl
   | true=>rw[eE,hv] at hE; cases hE
  have hsk:∀ k,(bJ S k).s=S.s:=λ k=>by
   induction k with
   | zero=>rfl
   | succ k ih=>exact ih
  have h8:=hsk 8;have hm:∀ y∈(bJ S 8).bd,y.has=true->dR y.x=0:=λ y hy hh=>by
   rcases rM 8 hy with h1|⟨_,h2⟩
   ·exact hok.x y h1 hh
   ·rw[h2] at hh; cases hh
  have hrs:(dV C e.round.toNat).s=C.s:=by unfold dV; split<;>rfl
  rw[eS,eC];refine⟨⟨by show(0:Int)<=1; decide,by show(1:Int)<=4; decide,by show(1:Int)≠0; decide⟩,Gl hC hr,?_,?_,hm⟩
  ·rw[hrs,hcs]; show S.s.er=(bJ S 8).s.er; rw[h8]
  ·show(bJ S 8).s.Ok; rw[h8]; exact hS
 ·have eS:bg S C e=oH S e:=by rw[bg,if_neg k1,if_neg k2,if_neg k3,if_neg k4,if_neg k5,if_neg k6,if_neg k7,if_neg k8]
  have eC:bG S C e=C:=by rw[bG,if_neg k1,if_neg k2,if_neg k3,if_neg k4,if_neg k7,if_neg k8]
  rw[eS,eC];unfold oH
  split
  ·exact⟨⟨by show(0:Int)<=4; decide,by show(4:Int)<=4; decide,by show(4:Int)≠0; decide⟩,hC,hcs,hS,hok.x⟩
  ·exact⟨⟨by show(0:Int)<=3; decide,by show(3:Int)<=4; decide,by show(3:Int)≠0; decide⟩,hC,hcs,hS,hok.x⟩
end
def Sw:Ck:={ s:=cL,o:=⟨0,0,0,0⟩,cl:=[],p:=z6,ask:=[],bd:=[],dp:=[],ov:=false,ka:=none,kc:=0,xa:=none,xc:=0,ya:=none,yc:=0,za:=none,zc:=0 }
theorem Rs(o:Po):xW (nR o) Sw:=⟨rfl,⟨by show(0:Int)<=0; decide,by show(0:Int)<=4; decide⟩,λ _=>rfl,λ h=>absurd rfl h,λ h=>absurd rfl h,λ h=>absurd rfl h,⟨by show(0:Int)<=0; decide,by show(0:Int)<=600; decide⟩,⟨by show(0:Int)<=0; decide,by show(0:Int)<18446744073709551616; decide⟩,λ y hy hh=>by
 simp only[nR,List.mem_cons,List.mem_nil_iff,or_false] at hy;rcases hy with rfl|rfl|rfl|rfl|rfl|rfl|rfl|rfl<;>cases hh⟩
theorem Oy(o:Po):(nR o).er=nR o:=by
 show({ nR o with bd:=[cO.er,cO.er,cO.er,cO.er,cO.er,cO.er,cO.er,cO.er] }:Sx)=_;rw[MS]; rfl
theorem Oz(o:Po)(w:World):vB (nR o) Sw w:=⟨⟨MU w,λ y hy=>by
 simp only[nR,List.mem_cons,List.mem_nil_iff,or_false] at hy;rcases hy with rfl|rfl|rfl|rfl|rfl|rfl|rfl|rfl<;>exact E9 w⟩,λ q h=>by cases h⟩
theorem Mv(S:Sx)(e:Ev):jl S.er e=jl S e:=by
 have h:(S.er.bd.getD e.bidder.toNat cO).out=(S.bd.getD e.bidder.toNat cO).out:=by rw[sC]; rfl
 unfold jl;rw[h]; rfl
theorem J6(S:Sx)(C:Ck)(e:Ev):ux S.er C.er e=ux S C e:=by
 unfold ux;rw[Mv,B6]
theorem Qu(S:Sx)(C:Ck)(e:Ev):(Di S.er C.er e).er=(Di S C e).er:=by
 show({ (bg S.er C.er e).er with cnt:=S.cnt+1,dig:=((ki S.dig.toNat (cK e):Nat):Int) }:Sx)={ (bg S C e).er with cnt:=S.cnt+1,dig:=((ki S.dig.toNat (cK e):Nat):Int) };rw[B7]
section
variable {w0 w:World} {b:Nat} {S:Sx} {C:Ck} {B:aC}
theorem HW(hb:af w ⟨b,0,none⟩ 0 S.cells){w' : World}(hc:ay w w' [])(j:Nat){v:Value}(hv:S.cells[j]?=some v):w'.cell? ⟨b,j,none⟩=some v:=by
 have:=aS (bu hc hb) j v hv
 rwa [Nat.zero_add,sy] at this
theorem Ts(hb:af w ⟨b,0,none⟩ 0 S.cells){w' : World}(hc:ay w w' []):af w' ⟨b,5,none⟩ 0 S.s.arr.toList:=br _ 0 λ j v hj=>by
 rw[bq,Nat.zero_add];refine HW hb hc (5+j) ?_;have hj4:j<4:=(List.getElem?_eq_some_iff.1 hj).1
 match j,hj4 with
 | 0,_|1,_|2,_|3,_=>exact hj
theorem Mq(hb:af w ⟨b,0,none⟩ 0 S.cells)(h:S.s.In w)(hz:S.s.Sz) :
  CP 13 #[pt b] w (λ r w'=>∃ S' : Se,S'.er=S.s.er/\r=.agg S'.arr/\St w w' (held S'.In)):=by
 refine pI ?_;unfold j4;obtain⟨z1,z2,z3,z4⟩:=hz;refine(St.start w).one.ax cL.arr λ r1 w1 s1=>⟨_,_,_,_,_,_,_,_,_,_,_,_,Ts hb s1.au,s1.ax cL.arr λ r2 w2 s2=>s2.az 0 rfl S.s.arr.toList rfl (by simp[Se.arr,Value.oneCell']) λ w3 s3=>?_⟩;have s3:St w w3 (Sep [ai r2 S.s.arr 27,ai r1 cL.arr 27,emp]):=s3;have s3:=s3.quiet (ay.drew w3 []);refine⟨_,_,_,s3.ag 0 rfl 0,_,_,_,s3.ag 0 rfl 1,_,_,_,s3.ag 0 rfl 2,_,_,_,s3.ag 0 rfl 3,ak (AV (h.au s3.au).ps.fl (by omega)) ?_⟩;rintro v w4 ⟨a1,c1,rfl,k1⟩;have s4:St w w4 (Sep [_,_,_,_]):=s3.and k1;refine⟨_,_,_,rfl,s4.ag 1 rfl 3,s4.ag 1 rfl 2,s4.ag 1 rfl 1,ak (AT (h.au s4.au).bd.fl (by omega)) ?_⟩;rintro v w5 ⟨a2,c2,rfl,k2⟩;have s5:St w w5 (Sep [_,_,_,_,_]):=s4.and k2;refine⟨_,_,_,rfl,s5.ag 2 rfl 3,s5.ag 2 rfl 2,ak (AU (h.au s5.au).cp.fl (by omega)) ?_⟩;rintro v w6 ⟨a3,c3,rfl,k3⟩;have s6:St w w6 (Sep [_,_,_,_,_,_]):=s5.and k3;refine⟨_,_,_,rfl,s6.ag 3 rfl 3,ak (AS (h.au s6.au).sa.fl (by omega)) ?_⟩;rintro v w7 ⟨a4,c4,rfl,k4⟩;have s7:St w w7 (Sep [_,_,_,_,_,_,_]):=s6.and k4;let S' : Se:={ S.s with a1:=a1,c1:=c1,a2:=a2,c2:=c2,a3:=a3,c3:=c3,a4:=a4,c4:=c4 };refine⟨_,_,_,rfl,s7.az 5 rfl S'.arr.toList rfl (by simp[S',Se.arr,Value.oneCell']) λ w8 s8=>⟨_,_,_,_,_,_,_,_,_,_,_,_,s8.cellsIn (cs:=S'.arr) 5 rfl,S',rfl,rfl,?_⟩⟩;have q4:=St.pz (s8.out 0 rfl); have q3:=St.pz (s8.out 1 rfl); have q2:=St.pz (s8.out 2 rfl); have q1:=St.pz (s8.out 3 rfl);exact((s8.av [0,1,2,3]).held ((bB T3.len).cons ((bB T3.len).cons ((bB Br.len).cons ((bB Pr.len).cons gQ.nil))))).weak (pZ λ w' ⟨i4,i3,i2,i1,_⟩=>⟨dH.of i1 h.ps.in,ku.of i2 h.bd.in,Dn.of i3,Dn.of i4,q1.1,q2.1,q3.1,q4.1⟩)
theorem Mb(hb:af w ⟨b,0,none⟩ 0 S.cells)(h8:S.bd.length=8)(hS:vB S C w)(hok:xW S C)(hk:MV S) :
  CP 10 #[pt b] w (λ r w'=>∃ (p:OA) (C' : Ck),r=.pointer p/\C'.er=C.er/\MV { S with k:=p }/\St w w' (Sy p C')):=by
 refine pG ?_;unfold j0;refine⟨_,HW hb (ay.refl w []) 9 ?_,ak (G0 hS hok hk) ?_⟩
 ·have:=lP h8;simpa using this
 ·rintro v w1 ⟨p,C',rfl,h1,h2,h3⟩;exact⟨_,rfl,p,C',rfl,h1,h2,h3⟩
end
def Mr(b:Nat)(S:Sx)(C:Ck):aC:=QX λ p:{ p:Sx×Ck // p.1.er=S/\p.2.er=C/\MV p.1 }=>star (ai b p.1.1.cells.toArray 86) (held (vB p.1.1 p.1.2))
section
variable {w0 w:World} {b:Nat} {S S' : Sx} {C C' : Ck} {B:aC}
theorem xQ(s:St w0 w (star (Mr b S C) B)):∃ (S' : Sx) (C' : Ck),S'.er=S/\C'.er=C/\MV S'/\St w0 w (Sep [ai b S'.cells.toArray 86,held (vB S' C'),B]):=by
 obtain⟨⟨⟨S',C'⟩,h1,h2,h3⟩,s1⟩:=s.ex;exact⟨S',C',h1,h2,h3,s1.assoc.qh⟩
theorem CY(h1:S'.er=S)(h2:C'.er=C)(hk:MV S')(s:St w0 w (Sep [ai b S'.cells.toArray 86,held (vB S' C'),B])):St w0 w (star (Mr b S C) B) :=
 St.wT (f:=λ p:{ p:Sx×Ck // p.1.er=S/\p.2.er=C/\MV p.1 }=>star (ai b p.1.1.cells.toArray 86) (held (vB p.1.1 p.1.2))) ⟨(S',C'),h1,h2,hk⟩ (s.triple.eqv bf.assoc')
theorem Ml(h:xW S.er C.er):xW S C:=h.er (fM S).symm (He C).symm
def Nd(S:Sx)(C:Ck)(e:Ev):Sx×Ck:=if ux S C e=0 then ((Di S C e).er,(TT S C e).er) else (S,C)
theorem Qv(hok:xW S C){e:Ev}(hi:e.In):xW (Nd S C e).1 (Nd S C e).2:=by
 unfold Nd
 by_cases h:ux S C e=0
 ·rw[if_pos h]; exact(PL hok h hi).1.er (fM _) (He _)
 ·rw[if_neg h]; exact hok
theorem Ka(s:St w0 w (star (Mr b S C) B))(hok:xW S C){e:Ev}(hi:e.In) :
  CP 9 #[pt b,e.v] w (λ r w'=>r=iv (ux S C e)/\St w0 w' (star (Mr b (Nd S C e).1 (Nd S C e).2) B)):=by
 obtain⟨S',C',rfl,rfl,hk,s1⟩:=xQ s;have hok' : xW S' C':=Ml hok;refine ak (Nf s1 hok' hk hi) ?_;rintro v w1 ⟨rfl,k1,k2⟩;refine⟨_,rfl,by rw[J6],?_⟩;unfold Nd;rw[J6]
 by_cases h:ux S' C' e=0
 ·obtain⟨S2,C2,e1,e2,hg,s2⟩:=k2 h;have phN:=(PL hok' h hi).2;have hph:S2.ph=(Di S' C' e).ph:=show S2.er.ph=(Di S' C' e).er.ph by rw[e1]
  rw[if_pos h];exact CY (e1.trans (Qu S' C' e).symm) (e2.trans (B5 S' C' e).symm) ⟨λ x=>absurd (hph.symm.trans x) phN,λ _=>hg⟩ s2
 ·rw[if_neg h];exact CY rfl rfl hk (k1 h)
end
def O6(l:List Ev)(X:Sx×Ck):Sx×Ck:=l.foldl (λ X e=>Nd X.1 X.2 e) X
def made(o:Po)(l:List Ev):Sx×Ck:=O6 l (nR o,Sw)
theorem Ba(o:Po)(l:List Ev)(e:Ev):made o (l++[e])=Nd (made o l).1 (made o l).2 e:=by unfold made O6; rw[List.foldl_append]; rfl
theorem Hz(o:Po)(l:List Ev)(h:∀ e∈l,e.In):xW (made o l).1 (made o l).2:=by
 suffices H:∀ (l:List Ev) (X:Sx×Ck),(∀ e∈l,e.In)->xW X.1 X.2->xW (O6 l X).1 (O6 l X).2 from H l _ h (Rs o)
 intro l
 induction l with
 | nil=>exact λ _ _ h=>h
 | cons e l ih=>exact λ X h hX=>ih _ (λ x hx=>h x (List.mem_cons_of_mem _ hx)) (Qv hX (h e (List.mem_cons_self ..)))
end Go.Proofs.YtbnolaiklhbkkaaGreatDoor
namespace Go.Vc
open Go
abbrev K7:=Int×I6
abbrev UC:=K7×Int
section
variable {P:Program} {t kt et:TypeId} {w0 w:World} {B:aC} {r:Nat} {l:List UC}
end
section
variable {P:Program} {t kt et:TypeId} {w0 w:World} {B:aC} {r:Nat} {l:List UC}
end
end Go.Vc
namespace Go.Proofs.YtbnolaiklhbkkaaGreatDoor
open Go Go.Vc _root_.Go.Proofs.Tryz
section
variable {w0 w:World} {b:Nat} {S:Sx} {C:Ck} {B:aC}
theorem Ti(s:St w0 w (star (Mr b S C) B)):CP 11 #[pt b] w (λ r w'=>r=iv S.ph/\w' = w):=by
 refine pH ?_;unfold j3;obtain⟨S',C',rfl,rfl,hk,s1⟩:=xQ s;exact⟨_,(s1.ag 0 rfl 4).trans rfl,rfl,rfl⟩
theorem Kj(s:St w0 w (star (Mr b S C) B))(hok:xW S C):CP 10 #[pt b] w (λ r w'=>(S.ph=0/\r=.pointer none/\ay w w' [])\/(S.ph≠0/\∃ (g:Nat) (C' : Ck),r=pt g/\C'.er=C/\St w w' (held (C'.Rd g)))):=by
 obtain⟨S1,C1,rfl,rfl,hk,s1⟩:=xQ s;have hok' : xW S1 C1:=Ml hok;refine ak (Mb (s1.cellsIn 0 rfl) hok'.b8 (s1.cv 1 rfl) hok' hk) ?_;rintro v w1 ⟨p,C',rfl,e1,e2,e3⟩
 by_cases h0:S1.ph=0
 ·have h1:p=none:=e2.1 h0;subst h1;exact⟨_,rfl,.inl ⟨h0,rfl,St.au e3⟩⟩
 ·obtain⟨g,hg⟩:=e2.2 h0;have hg:p=some ⟨g,0,none⟩:=hg;subst hg;have e4:St w w1 (Sep (bM g C')):=e3;exact⟨_,rfl,.inr ⟨h0,g,C',rfl,e1,e4.weak (gQ.weak mV)⟩⟩
end
theorem Rq{w0 w:World}{L:List aC}(s:St w0 w (Sep L))(o:Po):CP 8 #[o.v] w (λ r w'=>∃ b,r=pt b/\St w0 w' (Sep (Mr b (nR o) Sw :: L))):=by
 refine ak (R2 w o) ?_;rintro v w2 ⟨b,rfl,k2⟩;have s2:St w0 w2 (Sep (ai b (nR o).cells.toArray 86 :: L)):=St.cat (l:=[ai b (nR o).cells.toArray 86]) (s.and k2);have s3:St w0 w2 (star (held (vB (nR o) Sw)) (star (ai b (nR o).cells.toArray 86) (Sep L))):=s2.vQ (Oz o);exact⟨_,rfl,b,rfl,CY (Oy o) rfl ⟨λ _=>rfl,λ h=>absurd rfl h⟩ s3.Jv.qh⟩
structure JW (o:Po) (S:Se) (D:Ck) (l:List Ev):Prop where
 good:∀ i e,l[i]?=some e->ux (made o (l.take i)).1 (made o (l.take i)).2 e=0
 ein:∀ e∈l,e.In
 cnt:(made o l).1.cnt=l.length
 ph:(made o l).1.ph=if D.ov then 2 else 1
 s:(made o l).1.s=S.er
 c:(made o l).2=D.er
 out:∀ y∈(made o l).1.bd,y.out=false
theorem uR{o:Po}{l:List Ev}{e:Ev}(h:∀ i x,l[i]?=some x->ux (made o (l.take i)).1 (made o (l.take i)).2 x=0)(h0:ux (made o l).1 (made o l).2 e=0):∀ i x,(l++[e])[i]?=some x->ux (made o ((l++[e]).take i)).1 (made o ((l++[e]).take i)).2 x=0:=λ i x hx=>by
 rcases Nat.lt_or_ge i l.length with hi|hi
 ·rw[List.getElem?_append_left hi] at hx;rw[List.take_append_of_le_length (by omega)];exact h i x hx
 ·have hl:=(List.getElem?_eq_some_iff.1 hx).1;rw[List.length_append,List.length_singleton] at hl;obtain rfl:i=l.length:=by omega
  rw[List.getElem?_append_right (Nat.le_refl _),Nat.sub_self] at hx
  cases hx
  rw[List.take_append_of_le_length (Nat.le_refl _),List.take_length];exact h0
theorem OR{l:List Bd}(h:∀ y∈l,y.out=false)(i:Nat):(l.getD i cO).out=false:=by
 rw[List.getD_eq_getElem?_getD]
 cases hx:l[i]? with
 | none=>rfl
 | some y=>exact h y (List.mem_of_getElem? hx)
theorem CB{l:List Bd}(h:∀ y∈l,y.out=false):∀ y∈l.map Bd.er,y.out=false:=λ y hy=>by
 obtain⟨z,hz,rfl⟩:=List.mem_map.1 hy;exact h z hz
theorem NP(t:List UInt8):(kj t).In:=⟨by show(0:Int)<=0/\(0:Int)<18446744073709551616; decide⟩
theorem NL(i:Nat)(u:I6):(gw i u).In:=⟨by show(0:Int)<=0/\(0:Int)<18446744073709551616; decide⟩
theorem NN:fE.In:=⟨by show(0:Int)<=0/\(0:Int)<18446744073709551616; decide⟩
theorem Cx(n:Int):(nB n).length<=10:=fF _
theorem NQ{t:List UInt8}(h:t.length<=2000):cI (kj t)=0:=by
 have hb:dB (kj t)=kj t:=rfl;have hy:cK (kj t)=nB 1++[]++[]++[]++wm t++[]:=rfl;rw[cI,if_neg,if_neg,if_neg]
 ·rw[hy];have h1:=Cx 1;have h2:=fF t.length;simp only[List.append_nil,List.length_append,wm];show ¬ (4000<t.length\/_);omega
 ·show ¬ ((0:Int)<0\/(8:Int)<=0\/(0:Int)<0\/(30:Int)<=0\/z6.l.all eY=false)
  decide
 ·rw[hb];rintro(h|h)
  ·exact h ⟨by show(1:Int)<=1; decide,by show(1:Int)<=10; decide⟩
  ·exact h rfl
theorem NM{i:Nat}{u:I6}(hi:i<8)(hu:I6.Le u 4):cI (gw i u)=0:=by
 have hb:dB (gw i u)=gw i u:=rfl;have hy:cK (gw i u)=nB 2++nB i++[]++u.l.flatMap nB++[]++[]:=rfl;have hq:=leq hu;rw[cI,if_neg,if_neg,if_neg]
 ·rw[hy];have h1:=Cx 2;have h2:=Cx i;have h3:=Cx u.a; have h4:=Cx u.b; have h5:=Cx u.c; have h6:=Cx u.d; have h7:=Cx u.e; have h8:=Cx u.f;have h9:u.l.flatMap nB=nB u.a++(nB u.b++(nB u.c++(nB u.d++(nB u.e++(nB u.f++[]))))):=rfl;rw[h9];simp only[List.append_nil,List.length_append];show ¬ (4000<0\/_);omega
 ·show ¬ (((i:Nat):Int)<0\/(8:Int)<=((i:Nat):Int)\/(0:Int)<0\/(30:Int)<=0\/u.l.all eY=false);rw[hq];rintro(h|h|h|h|h)
  ·omega
  ·omega
  ·omega
  ·omega
  ·cases h
 ·rw[hb];rintro(h|h)
  ·exact h ⟨by show(1:Int)<=2; decide,by show(2:Int)<=10; decide⟩
  ·exact h rfl
theorem NO:cI fE=0:=by decide +kernel
theorem J8{S:Sx}{C:Ck}{e:Ev}(h1:cI e=0)(h2:S.cnt<600)(h3:cW e.kind S.ph=true)(h4:bh e.kind=true->e.bidder<S.s.bd.length/\(S.bd.getD e.bidder.toNat cO).out=false)(h5:bS S C e=0):ux S C e=0:=by
 have hs:jl S e=0:=by
  rw[jl,if_neg (by rw[h1]; simp),if_neg (by omega),if_neg (by rw[h3]; simp),if_neg,if_neg]
  ·rintro⟨g1,g2⟩;rw[(h4 g1).2] at g2; cases g2
  ·rintro⟨g1,g2⟩;have:=(h4 g1).1;omega
 rw[ux,if_neg (by rw[hs]; simp),h5]
theorem yV{o:Po}{l:List Ev}{e:Ev}(h:ux (made o l).1 (made o l).2 e=0):made o (l++[e])=((Di (made o l).1 (made o l).2 e).er,(TT (made o l).1 (made o l).2 e).er):=by
 rw[Ba,Nd,if_pos h]
section
variable {S:Se} {o:Po} {D:Ck} {l:List Ev} (hs:S.Ok) (ho:o.ok)
include hs ho
theorem Ng(hl:(dh S).length<=2000):JW o S (eW S o) [kj (dh S)]:=by
 have hp:=OW hs;have eS:o5 (dh S)=S.er:=by rw[o5,hp]
 have eO:jR o (dh S)=0:=by
  rw[jR,if_neg (by rw[gH,if_pos ho]; simp),tM,if_neg (by omega),hp,if_neg (by simp)];exact Mc (S:=S.er) ⟨hs.ps,hs.bd,hs.cp,hs.sa⟩
 have h0:ux (made o []).1 (made o []).2 (kj (dh S))=0:=by
  refine J8 (NQ hl) (by show(0:Int)<600; decide) (by show cW 1 0=true; decide) (λ h=>?_) ?_
  ·exact absurd (show bh 1=true from h) (by decide)
  ·rw[bS,if_pos (show(kj (dh S)).kind=1 from rfl)]; exact eO
 have hm:made o [kj (dh S)]=_:=yV (l:=[]) h0;have e1:bg (made o []).1 (made o []).2 (kj (dh S))={ nR o with ph:=1,s:=o5 (dh S) }:=by rw[bg,if_pos (show(kj (dh S)).kind=1 from rfl)]; rfl
 have e2:bG (made o []).1 (made o []).2 (kj (dh S))=eW (o5 (dh S)) o:=by rw[bG,if_pos (show(kj (dh S)).kind=1 from rfl)]; rfl
 rw[eS] at e1 e2;refine⟨uR (l:=[]) (λ i x hx=>by simp at hx) h0,λ e he=>?_,?_,?_,?_,?_,?_⟩
 ·cases List.mem_singleton.1 he; exact NP _
 ·rw[hm]; rfl
 ·rw[hm,Di,e1]; rfl
 ·rw[hm,Di,e1]; rfl
 ·rw[hm];show(bG _ _ _).er=_;rw[e2]; rfl
 ·rw[hm,Di,e1];refine CB (l:=[cO,cO,cO,cO,cO,cO,cO,cO]) λ y hy=>?_;simp only[List.mem_cons,List.not_mem_nil,or_false,or_self] at hy;rw[hy]; rfl
omit ho in
theorem SG(h:JW o S D l)(hDs:D.s=S)(hov:D.ov=false){i:Nat}(hi:i<S.bd.length){u:I6}(hu:I6.Le u 4)(hb:dI D i (S.bd.getD i mQ) u=0)(hlen:l.length<600):JW o S (gh D i u) (l++[gw i u]):=by
 have h8:=hs.bd.l2;have eb:D.er.s.bd.getD i MT=S.bd.getD i mQ:=by
  show D.s.bd.getD i MT=_;rw[hDs,List.getD_eq_getElem?_getD,List.getD_eq_getElem?_getD,gE hi]; rfl
 have h0:ux (made o l).1 (made o l).2 (gw i u)=0:=by
  refine J8 (NM (by omega) hu) (by rw[h.cnt]; omega) (by rw[h.ph,hov]; show cW 2 1=true; decide) (λ _=>⟨?_,OR h.out _⟩) ?_
  ·rw[h.s]; show((i:Nat):Int)<(S.bd.length:Int); omega
  ·rw[bS,if_neg (show ¬ (gw i u).kind=1 by show ¬ (2:Int)=1; decide),if_pos (show(gw i u).kind=2 from rfl),h.c];show dI D.er ((i:Nat):Int).toNat (D.er.s.bd.getD ((i:Nat):Int).toNat MT) u=0;rw[Int.toNat_natCast,eb,BV]; exact hb
 have hm:made o (l++[gw i u])=_:=yV h0;have e1:bg (made o l).1 (made o l).2 (gw i u)=(made o l).1:=by rw[bg,if_neg (show ¬ (gw i u).kind=1 by show ¬ (2:Int)=1; decide),if_pos (show(gw i u).kind=2 from rfl)]
 have e2:bG (made o l).1 (made o l).2 (gw i u)=gh D.er i u:=by
  rw[bG,if_neg (show ¬ (gw i u).kind=1 by show ¬ (2:Int)=1; decide),if_pos (show(gw i u).kind=2 from rfl),h.c];show gh D.er ((i:Nat):Int).toNat u=_;rw[Int.toNat_natCast]
 refine⟨uR h.good h0,λ e he=>?_,?_,?_,?_,?_,?_⟩
 ·rcases List.mem_append.1 he with he|he
  ·exact h.ein e he
  ·cases List.mem_singleton.1 he; exact NL _ _
 ·rw[hm];show(made o l).1.cnt+1=_;rw[h.cnt,List.length_append,List.length_singleton]; omega
 ·rw[hm,Di,e1];show(made o l).1.ph=if D.ov then 2 else 1
  exact h.ph
 ·rw[hm,Di,e1];show(made o l).1.s.er=_;rw[h.s]; rfl
 ·rw[hm];show(bG _ _ _).er=_;rw[e2,xz]
 ·rw[hm,Di,e1];exact CB h.out
omit hs ho in
theorem SH(h:JW o S D l)(hov:D.ov=false)(hlen:l.length<600):JW o S (bz D) (l++[fE]):=by
 have el:bE D.er=bE D:=by
  have:=congrArg Ck.ov (oz D);exact this
 have h0:ux (made o l).1 (made o l).2 fE=0:=by
  refine J8 NO (by rw[h.cnt]; omega) (by rw[h.ph,hov]; show cW 3 1=true; decide) (λ h=>?_) ?_
  ·exact absurd (show bh 3=true from h) (by decide)
  ·rw[bS,if_neg (show ¬ fE.kind=1 by decide),if_neg (show ¬ fE.kind=2 by decide),if_pos (show fE.kind=3\/fE.kind=4 from .inl rfl),h.c];show(if D.ov then (10:Int) else 0)=0;rw[hov]; rfl
 have hm:made o (l++[fE])=_:=yV h0;have e1:bg (made o l).1 (made o l).2 fE=if bE D then { (made o l).1 with ph:=2 } else (made o l).1:=by rw[bg,if_neg (show ¬ fE.kind=1 by decide),if_neg (show ¬ fE.kind=2 by decide),if_pos (show fE.kind=3 from rfl),h.c,el]
 have e2:bG (made o l).1 (made o l).2 fE=bz D.er:=by rw[bG,if_neg (show ¬ fE.kind=1 by decide),if_neg (show ¬ fE.kind=2 by decide),if_pos (show fE.kind=3 from rfl),h.c]
 refine⟨uR h.good h0,λ e he=>?_,?_,?_,?_,?_,?_⟩
 ·rcases List.mem_append.1 he with he|he
  ·exact h.ein e he
  ·cases List.mem_singleton.1 he; exact NN
 ·rw[hm];show(made o l).1.cnt+1=_;rw[h.cnt,List.length_append,List.length_singleton]; omega
 ·rw[hm,Di,e1];show(if bE D then ({ (made o l).1 with ph:=2 }:Sx) else (made o l).1).ph=if bE D then 2 else 1
  cases bE D with
  | true=>rfl
  | false=>show(made o l).1.ph=1; rw[h.ph,hov]; rfl
 ·rw[hm,Di,e1];show(if bE D then ({ (made o l).1 with ph:=2 }:Sx) else (made o l).1).s.er=_
  cases bE D with
  | true=>show(made o l).1.s.er=_; rw[h.s]; rfl
  | false=>show(made o l).1.s.er=_; rw[h.s]; rfl
 ·rw[hm];show(bG _ _ _).er=_;rw[e2,oz]
 ·rw[hm,Di,e1];show ∀ y∈((if bE D then ({ (made o l).1 with ph:=2 }:Sx) else (made o l).1).bd).map Bd.er,_
  cases bE D with
  | true=>exact CB h.out
  | false=>exact CB h.out
theorem Dx{L:List Lx}(h:FB S o D)(hov:D.ov=false):∀ m,m<=S.bd.length->∀ j,j<m->(cN S L D m).ask.getD j z6=(cN S L D (j+1)).ask.getD j z6
 | 0,_,j,hj=>by omega
 | m+1,hm,j,hj=>by
  by_cases e:j=m
  ·rw[e]
  ·obtain⟨h1,h2,_⟩:=zo hs ho (L:=L) h hov m (by omega);obtain⟨u,e1,_⟩:=J3 hs ho h1 h2 (show m<S.bd.length by omega) ((L[m]?.map Lx.l).getD []);have eR:cN S L D (m+1)=gh (cN S L D m) m u:=e1;rw[eR,<- Dx h hov m (by omega) j (by omega)];show((cN S L D m).ask.set m u).getD j z6=_;rw[List.getD_eq_getElem?_getD,List.getElem?_set,if_neg (λ h=>e h.symm),<- List.getD_eq_getElem?_getD]
theorem Kc{L:List Lx}(h:FB S o D)(hov:D.ov=false)(hA:JW o S D l)(hlen:l.length+S.bd.length<600):∀ k,k<=S.bd.length->JW o S (cN S L D k) (DL (cN S L D S.bd.length).ask l k)
 | 0,_=>hA
 | k+1,hk=>by
  have ih:=Kc (L:=L) h hov hA hlen k (by omega);obtain⟨h1,h2,_⟩:=zo hs ho (L:=L) h hov k (by omega);have hk' : k<S.bd.length:=by omega
  obtain⟨u,e1,e2⟩:=J3 hs ho h1 h2 hk' ((L[k]?.map Lx.l).getD []);have eR:cN S L D (k+1)=gh (cN S L D k) k u:=e1;have la:k<(cN S L D k).ask.length:=by rw[h1.inv.ok.ask,h1.s]; exact hk'
  have ea:(cN S L D (k+1)).ask.getD k z6=u:=by
   rw[eR];show((cN S L D k).ask.set k u).getD k z6=u;rw[List.getD_eq_getElem?_getD,List.getElem?_set,if_pos rfl,if_pos la]; rfl
  have eu:(cN S L D S.bd.length).ask.getD k z6=u:=(Dx hs ho h hov S.bd.length (Nat.le_refl _) k hk').trans ea;have hu:I6.Le u 4:=(od h1.inv e2).ok.asked u (by
   show u∈(cN S L D k).ask.set k u;exact List.mem_of_getElem? (i:=k) (by rw[List.getElem?_set,if_pos rfl,if_pos la]))
  have hdl:=sV (cN S L D S.bd.length).ask l k;rw[eR];show JW o S _ (DL (cN S L D S.bd.length).ask l k++[gw k ((cN S L D S.bd.length).ask.getD k z6)]);rw[eu];exact SG hs ih h1.s h2 hk' hu e2 (by omega)
omit hs ho in
theorem Hh(t:List UInt8)(cl:List Rn)(x:Rn):∀ k,k<=cl.length->uL t (cl++[x]) k=uL t cl k
 | 0,_=>rfl
 | k+1,hk=>by
  rw[uL,uL,Hh t cl x k (by omega),List.getElem?_append_left (by omega)]
theorem Ke{L:List Lx}(hl:L.length=S.bd.length)(t:List UInt8):∀ (f:Nat) {D:Ck},FB S o D->JW o S D (uL t D.cl D.cl.length)->JW o S (mH S L f D) (uL t (mH S L f D).cl (mH S L f D).cl.length)
 | 0,_,_,h=>h
 | f+1,D,hF,h=>by
  unfold mH
  split
  ·exact h
  ·rename_i hc;have hov:D.ov=false:=by simpa using hc
   have h8:=hs.bd.l2;have h30:=hF.inv.n30 hov;have hlenE:=Ca t (cl:=D.cl) (λ x hx=>by
    have:=(hF.inv.ok.cz x hx).ask;rw[hF.s] at this; omega) D.cl.length
   have hA:=Kc hs ho (L:=L) hF hov h (by omega) S.bd.length (Nat.le_refl _);obtain⟨h1,h2,h3,h4,_⟩:=zo hs ho (L:=L) hF hov S.bd.length (Nat.le_refl _);have hal:(cN S L D S.bd.length).ask.length=S.bd.length:=by rw[h1.inv.ok.ask,h1.s]
   have hdl:=sV (cN S L D S.bd.length).ask (uL t D.cl D.cl.length) S.bd.length;have hB:=SH hA h2 (by omega);have eD:nu S L D=bz (cN S L D S.bd.length):=by rw[nu,hl]
   refine Ke hl t f (Mu hs ho hl hF hov) ?_;have ecl:(nu S L D).cl=D.cl++[Ff (cN S L D S.bd.length)]:=by
    rw[eD];show(cN S L D S.bd.length).cl++[_]=_;rw[h4]
   have eN:uL t (nu S L D).cl (nu S L D).cl.length=DL (cN S L D S.bd.length).ask (uL t D.cl D.cl.length) S.bd.length++[fE]:=by
    rw[ecl,List.length_append,List.length_singleton,uL,Hh t D.cl _ D.cl.length (Nat.le_refl _)];have e1:(((D.cl++[Ff (cN S L D S.bd.length)])[D.cl.length]?.map Rn.ask).getD [])=(cN S L D S.bd.length).ask:=by
     rw[List.getElem?_append_right (Nat.le_refl _),Nat.sub_self]; rfl
    rw[e1,hal]
   rw[eN,eD]; exact hB
theorem follows{L:List Lx}(hl:L.length=S.bd.length)(hf:(dh S).length<=2000):JW o S (runM S o L) (DR S (runM S o L)) :=
 Ke hs ho hl (dh S) 31 ⟨yY hs ho,rfl,rfl,λ i=>by
  show(List.replicate S.bd.length false).getD i false=false;rw[List.getD_eq_getElem?_getD,List.getElem?_replicate]
  split<;>rfl,λ x hx=>by simp[eW] at hx,λ x hx=>by simp[eW] at hx,λ _ i _=>.inr (by
   show ei []=true;exact uH.2 ⟨λ c hc=>by simp at hc,λ _=>0,λ a b ha _=>by simp at ha⟩)⟩ (Ng hs ho hf)
end
