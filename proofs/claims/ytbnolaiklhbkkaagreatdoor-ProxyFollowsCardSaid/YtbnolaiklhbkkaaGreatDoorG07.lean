import Derived.Test.YtbnolaiklhbkkaaGreatDoorG06
set_option linter.unusedVariables false
set_option maxRecDepth 100000
namespace Go.Proofs.YtbnolaiklhbkkaaGreatDoor
open Go Go.Vc _root_.Go.Proofs.Tryz
abbrev i1 (x:Int):List Value:=[iv x]
theorem cR(x:Int):(i1 x).length=1:=rfl
theorem FF(x:Int):∀ v∈i1 x,v.oneCell' = true:=by intro v hv; simp at hv; subst hv; rfl
theorem Pf:gV prog 190 2 (iv 0) 1 8:=gV.mk' underlying190 (by kernel_rfl) rfl (by decide)
theorem Ty:gV prog 189 3 (iv 0) 1 8:=gV.mk' underlying189 (by kernel_rfl) rfl (by decide)
theorem Td:TR prog 314 3 4 (.bool false):=⟨underlying314,by kernel_rfl⟩
theorem fK{w:World}{a:OA}{l:List Int}(h:cG 1 i1 w a l){i:Nat}{x:Int}(hi:l[i]?=some x):∃ q,a=some q/\w.cell? (Addr.add q (i*1))=some (iv x):=by
 obtain⟨q,hq,hc⟩:=h.at hi;have:=aS hc 0 _ rfl;rw[Nat.zero_add,Addr.add_add,Nat.add_zero] at this;exact⟨q,hq,this⟩
def de(f:Nat->Int)(n:Nat):List Int:=(List.range n).map f
theorem dN(f:Nat->Int)(n:Nat):(de f n).length=n:=by simp[de]
theorem DS(f:Nat->Int){n i:Nat}(h:i<n):(de f n)[i]?=some (f i):=by simp[de,h]
theorem uX:∀ (n:Nat) (l:List Nat),l.Nodup->(∀ x∈l,x<n)->l.length<=n
 | 0,[],_,_=>Nat.le_refl _
 | 0,x :: _,_,h=>absurd (h x (by simp)) (by omega)
 | n+1,l,hd,h=>by
  by_cases hm:n∈l
  ·have h1:=uX n (l.erase n) (hd.erase n) λ x hx=>by
    have h2:=(hd.mem_erase_iff).1 hx;have:=h x h2.2;omega
   rw[List.length_erase_of_mem hm] at h1;omega
  ·have h1:=uX n l hd λ x hx=>by
    have:=h x hx;have:x≠n:=λ e=>hm (e▸hx);omega
   omega
theorem tC{l:List Int}{n:Nat}(hd:l.Nodup)(h:∀ x∈l,0<=x/\x<n):l.length<=n:=by
 have h2:(l.map Int.toNat).Nodup:=by
  rw[List.nodup_iff_pairwise_ne] at *;rw[List.pairwise_map];exact hd.imp_of_mem λ {a b} ha hb hne e=>hne (by have:=h a ha; have:=h b hb; omega)
 have h3:∀ x∈l.map Int.toNat,x<n:=λ x hx=>by
  obtain⟨y,hy,rfl⟩:=List.mem_map.1 hx;have:=h y hy;omega
 have:=uX n _ h2 h3;simpa using this
theorem ND{w:World}{n:Nat}(hn:n<=1000){a:OA}{c:Nat}{st:Lo}(hr:cG 1 i1 w a (de st.f n)){G T:Int}{g:Nat->Nat->Int}(hs:GO g n G T n n 0 st){ch:Nat}(hc:ch<n)(hl:st.lr ch=n) :
  CP 226 #[.slice a n c,iv ch] w (λ r w'=>(∃ q l c,r=.slice (some q) l c)/\ay w w' []):=by
 refine tR ?_;unfold pe;have link:∀ {w' : World} {x:Nat},ay w w' []->x<n->∃ q,a=some q/\w'.cell? (Addr.add q (x*1))=some (iv (st.f x)):=λ hc hx=>fK (hr.au hc) (DS _ hx);refine uW (St.start w) λ m w1 c1 s1=>?_;have s1:=St.TJ s1;refine⟨λ x w2 k=>∃ (ks:List Int) (y:Nat),x=y/\y<n/\ks.Nodup/\(∀ z∈ks,0<=z/\z<n)/\k+ks.length=n+1/\n<=st.lr y+ks.length/\(∀ z:Nat,(z:Int)∈ks->st.f z=y\/st.f z∈ks)/\St w w2 (star (zF m ks) emp),⟨n+1,[],ch,rfl,hc,List.nodup_nil,by simp,by simp,by rw[hl]; simp,by simp,s1⟩,?_⟩
 rintro w2 k x ⟨ks,y,rfl,hy,hd,hb,hk,hlr,hcl,s2⟩ -;refine yT Td underlying3 s2 (y:Int) ?_
 by_cases hm:(y:Int)∈ks
 ·refine cF (by rw[dT hm]; rfl) (DJ Td s2 λ w5 c5 s5=>?_);have cl2:∀ z:Nat,(z:Int)∈ks->st.f z∈ks:=λ z hz=>(hcl z hz).elim (λ e=>by rw[e]; exact hm) id;refine⟨λ x a2 l2 c2 w6 k=>∃ (ms:List Int) (y:Nat),x=y/\(y:Int)∈ks/\ms.Nodup/\(∀ z∈ms,z∈ks)/\k+ms.length=n+1/\l2=ms.length/\St w w6 (Sep [zF m ms,bR 3 1 i1 a2 c2 ms,emp]),⟨n+1,[],y,rfl,hm,List.nodup_nil,by simp,by simp,rfl,(s5.dP (e:=3) (sz:=1) (f:=i1)).Jv.qh⟩,?_⟩
  rintro w6 k2 x a2 l2 c2 ⟨ms,z,rfl,hz,hd2,hb2,hk2,rfl,s6⟩ -;refine yT Td underlying3 s6 (z:Int) ?_;have hms:ms.length<=n:=tC hd2 λ v hv=>hb v (hb2 v hv)
  by_cases hm2:(z:Int)∈ms
  ·refine cF (by rw[dT hm2]; rfl) ?_;refine cV Ty cR (x:=0) rfl s6 (n:=ms.length) (by omega) (by omega) λ gg w11 c11 s11=>?_;refine⟨λ x w12 k=>∃ (j:Nat) (out:List Int),x=j/\j<=ms.length/\k=ms.length-j/\out.length=ms.length/\St w w12 (star (bR 3 1 i1 (some ⟨gg,0,none⟩) ms.length out) (Sep [zF m ms,bR 3 1 i1 a2 c2 ms,emp])),⟨ms.length,0,_,rfl,by omega,by omega,by simp,s11⟩,?_⟩
   rintro w12 k3 x ⟨j,out,rfl,hj,hk3,ho,s12⟩ -
   by_cases hlt:(j:Int)<(ms.length:Int)
   ·have hx:ms[j]?=some (ms[j]'(by omega)):=gE (by omega);generalize ms[j]'(by omega)=v at hx;have s13:St w w12 (Sep [bR 3 1 i1 (some ⟨gg,0,none⟩) ms.length out,zF m ms,bR 3 1 i1 a2 c2 ms,emp]):=s12;obtain⟨q,hq,hcq⟩:=fK (St.rd cR (s13.out 2 rfl)) hx;have e1:IntKind.i64.wrap ((IntKind.i64.wrap ((ms.length:Int)-1))-(j:Int))=((ms.length-1-j:Nat):Int):=by
     rw[aB (n:=(ms.length:Int)-1) ⟨by omega,by omega⟩,aB ⟨by omega,by omega⟩]; omega
    rw[e1];refine cT (dT hlt) (aj hq ⟨by omega,by omega,v,hcq,by omega,by omega,?_⟩);rw[Int.toNat_natCast];exact St.jf (v:=iv) rfl s12 (i:=ms.length-1-j) (by omega) λ w13 s14=>⟨ms.length-(j+1),by omega,j+1,_,aB ⟨by omega,by omega⟩,by omega,rfl,by simpa using ho,s14⟩
   ·exact cF (dF hlt) ⟨⟨_,_,_,rfl⟩,s12.au⟩
  ·have hks:ks.length<=n:=tC hd hb;have hd3:(ms++[(z:Int)]).Nodup:=List.nodup_append.2 ⟨hd2,by simp,λ a ha b hb e=>by simp at hb; subst hb; subst e; exact hm2 ha⟩;have hms2:(ms++[(z:Int)]).length<=n:=tC hd3 λ v hv=>by
    rcases List.mem_append.1 hv with h|h
    ·exact hb v (hb2 v h)
    ·simp at h; subst h; exact hb _ hz
   simp only[List.length_append,List.length_singleton] at hms2;refine cT (by rw[dF hm2]; rfl) (Bq Td underlying3 s6 (z:Int) hm2 λ w8 c8 s8=>?_);have s8' : St w w8 (star (bR 3 1 i1 a2 c2 ms) (star (zF m (ms++[(z:Int)])) (Sep [emp]))):=s8.Jv;refine ob (x:=(z:Int)) Ty cR (FF _) s8' (by omega) (by omega) (λ a' c' w10 s10=>?_) rfl;have zr:=hb _ hz;obtain⟨q,hq,hcq⟩:=link s10.au (show z<n by omega);have hfz:=cl2 z hz;have hfr:=hb _ hfz;refine aj hq ⟨by omega,by omega,_,hcq,k2-1,?_,ms++[(z:Int)],(st.f z).toNat,by omega,by rw[Int.toNat_of_nonneg hfr.1]; exact hfz,hd3,?_,?_,rfl,s10.Jv⟩
   ·omega
   ·intro v hv;rcases List.mem_append.1 hv with h|h
    ·exact hb2 v h
    ·simp at h; subst h; exact hz
   ·simp only[List.length_append,List.length_singleton]; omega
 ·have hd3:(ks++[(y:Int)]).Nodup:=List.nodup_append.2 ⟨hd,by simp,λ a ha b hb e=>by simp at hb; subst hb; subst e; exact hm ha⟩;have hb3:∀ z∈ks++[(y:Int)],0<=z/\z<n:=λ z hz=>by
   rcases List.mem_append.1 hz with h|h
   ·exact hb z h
   ·simp at h; subst h; omega
  have hms2:=tC hd3 hb3;simp only[List.length_append,List.length_singleton] at hms2;refine cT (by rw[dF hm]; rfl) (Bq Td underlying3 s2 (y:Int) hm λ w4 c4 s4=>?_);obtain⟨q,hq,hcq⟩:=link s4.au hy;rcases hs.f y hy with⟨_,h0⟩|⟨p,hp,hfp,h1,h2⟩
  ·omega
  ·refine aj hq ⟨by omega,by omega,_,hcq,k-1,by omega,ks++[(y:Int)],p,hfp,hp,hd3,hb3,?_,?_,?_,s4⟩
   ·simp only[List.length_append,List.length_singleton]; omega
   ·simp only[List.length_append,List.length_singleton]; omega
   ·intro z hz;rcases List.mem_append.1 hz with h|h
    ·rcases hcl z h with e|e
     ·exact .inr (by rw[e]; simp)
     ·exact .inr (List.mem_append_left _ e)
    ·simp at h;have h:z=y:=by omega
     subst h; exact .inl hfp
def gF(l:List Ch)(a b:Nat):Int:=vO (l.getD a nD) (l.getD b nD)
theorem Ho(l:List Ch)(a:Nat):gF l a a=0:=by unfold gF vO; omega
theorem S4{l:List Ch}(h:∀ c∈l,c.Ok)(a b:Nat)(ha:a<l.length)(hb:b<l.length) : -24000000<=gF l a b/\gF l a b<=24000000:=by
 have e:∀ i,i<l.length->(l.getD i nD).Ok:=λ i hi=>by
  rw[List.getD_eq_getElem?_getD,gE hi];exact h _ (List.getElem_mem hi)
 exact N2 (e a ha) (e b hb)
def kq(l:List Ch):Lo:=jO (gF l) l.length
theorem I3{w:World}{a:OA}{c:Nat}{l:List Ch}(hr:Dm w a l)(hl:l.length<=100)(ho:∀ c∈l,c.Ok) :
  CP 197 #[.slice a l.length c] w (λ r w' =>
   ((kq l).ch<0/\(∃ g c,r=.tuple #[.slice (some ⟨g,0,none⟩) l.length c,.slice none 0 0]/\St w w' (star (bR 2 1 i1 (some ⟨g,0,none⟩) c (de (kq l).v l.length)) emp)))\/(0<=(kq l).ch/\(∃ q m c,r=.tuple #[.slice none 0 0,.slice (some q) m c])/\ay w w' [])):=by
 refine qD ?_;unfold lC;generalize hn:l.length=n at *;have hG:(0:Int)<=24000000:=by omega
 have g0:=Ho l;have gb:∀ a b,a<n->b<n->-24000000<=gF l a b/\gF l a b<=24000000:=λ a b ha hb=>S4 ho a b (by omega) (by omega);refine cV Pf cR (x:=0) rfl (St.start w) (n:=n) (by omega) (by omega) λ gv w1 c1 s1=>?_;refine cV Ty cR (x:=0) rfl s1 (n:=n) (by omega) (by omega) λ gf w2 c2 s2=>?_;let L:Nat->(Nat->Int)->(Nat->Int)->List aC:=λ _ v f=>[bR 3 1 i1 (some ⟨gf,0,none⟩) n (de f n),bR 2 1 i1 (some ⟨gv,0,none⟩) n (de v n)];have z1:List.replicate n (0:Int)=de (λ _=>0) n:=by unfold de; rw[List.map_const']; simp
 have z2:de (λ i=>if i<0 then (-1:Int) else 0) n=de (λ _=>0) n:=by simp
 rw[z1] at s1 s2;refine⟨λ x w3 k=>∃ (j:Nat),x=j/\j<=n/\k=n-j/\St w w3 (Sep (L 0 (λ _=>0) λ i=>if i<j then -1 else 0)),⟨n,0,rfl,by omega,by omega,by
  show St w w2 (Sep [bR 3 1 i1 (some ⟨gf,0,none⟩) n (de (λ i=>if i<0 then (-1:Int) else 0) n),_]);rw[z2]; exact s2⟩,?_⟩
 rintro w3 k x ⟨j,rfl,hj,hk,s3⟩ -
 by_cases hlt:(j:Int)<((de (λ _=>(0:Int)) n).length:Int)
 ·have hjn:j<n:=by rw[dN] at hlt; omega
  refine cT (dT (by rw[dN] at hlt; exact hlt)) (aj rfl ⟨by omega,by omega,?_⟩);rw[Int.toNat_natCast];refine St.jf (v:=iv) (x:=-1) rfl (s3.out 0 rfl) (i:=j) (by rw[dN]; exact hjn) λ w4 s4=>⟨n-(j+1),by omega,j+1,aB ⟨by omega,by omega⟩,by omega,rfl,?_⟩;have e:(de (λ i=>if i<j then (-1:Int) else 0) n).set j (-1)=de (λ i=>if i<j+1 then -1 else 0) n:=by
   unfold de;rw[Cw]
   congr 1
   funext i
   by_cases h:i=j
   ·subst h; simp[bK]
   ·rw[dW _ _ h]
    by_cases h2:i<j
    ·rw[if_pos h2,if_pos (by omega)]
    ·rw[if_neg h2,if_neg (by omega)]
  rw[e] at s4;exact s4.back (l:=L 0 (λ _=>0) λ i=>if i<j then -1 else 0) (i:=0) (by simp[L])
 rw[dN] at hlt;obtain rfl:n=j:=by omega
 have e1:de (λ i=>if i<n then (-1:Int) else 0) n=de (λ _=>-1) n:=by
  unfold de;refine List.map_congr_left λ i hi=>?_;rw[if_pos (List.mem_range.1 hi)]
 have s3' : St w w3 (Sep (L 0 Sr.v Sr.f)):=by
  show St w w3 (Sep [bR 3 1 i1 (some ⟨gf,0,none⟩) n (de (λ _=>-1) n),_]);rw[<- e1]; exact s3
 refine cF (dF hlt) ⟨λ x w5=>x=(kq l).ch/\St w w5 (Sep (L 0 (kq l).v (kq l).f)),?_,?_⟩
 ·rintro w5 x ⟨rfl,s5⟩ -
  by_cases hc:(kq l).ch<0
  ·refine cT (dT hc) (.inl ⟨hc,gv,n,rfl,?_⟩);have:=(s5.av [1]).vW;exact((s5.av [1,2]).pair)
  ·refine cF (dF hc) ?_;obtain⟨r',T',hS,hrn⟩:=I2 (g:=gF l) (n:=n) hG g0 gb;have hch:0<=(kq l).ch:=by omega
   have hst:jO (gF l) n=kq l:=by unfold kq; rw[hn]
   rw[hst] at hS hrn;have hrn':=hrn hch;subst hrn';rcases hS.i.ch with h1|⟨cc,hcc,h1,h2⟩
   ·omega
   ·rw[h1];have rd5:=St.rd cR (s5.out 0 rfl);refine ak (ND (by omega) rd5 hS.i hcc h2) ?_;rintro v w6 ⟨⟨q,m,cap,rfl⟩,c6⟩;exact⟨_,_,_,rfl,.inr ⟨by omega,⟨q,m,cap,rfl⟩,s5.au.trans c6 (by simp)⟩⟩
 refine⟨λ ch x w7 k=>∃ (r:Nat) (T:Int) (s:Lo),x=r/\r<=n/\k=n-r/\ch=s.ch/\T=(r:Int)*n/\Lj (gF l) n (n-r) r s=kq l/\Ip (gF l) n 24000000 T r n s/\St w w7 (Sep (L 0 s.v s.f)),⟨n,0,0,Sr,rfl,by omega,by omega,rfl,by simp,by unfold kq jO; rw[hn]; rfl,P5 hG,s3'⟩,?_⟩
 rintro w7 k7 ch x ⟨r,T,s,rfl,hr7,hk7,rfl,hT,hfin,hS,s7⟩ -
 by_cases hlt:(r:Int)<(n:Int)
 ·have hrn:r<n:=by omega
  have hnr:n-r=(n-(r+1))+1:=by omega
  have hT2:T<=10000/\0<=T:=by
   have h1:(r:Int)*n<=100*n:=Int.mul_le_mul_of_nonneg_right (by omega) (by omega);have h2:(0:Int)<=(r:Int)*n:=Int.mul_nonneg (by omega) (by omega);omega
  have hS1:Ip (gF l) n 24000000 T (r+1) 0 { s with ch:=-1 }:=⟨hS.i.Qa hS.b,hS.b⟩;refine cT (dT hlt) ⟨λ ch x w8 k=>∃ (a:Nat) (t:Lo),x=a/\a<=n/\k=n-a/\ch=t.ch/\t=Dj (gF l) n (r+1) a { s with ch:=-1 }/\St w w8 (Sep (L 0 t.v t.f)),⟨n,0,_,rfl,by omega,by omega,rfl,rfl,s7⟩,?_⟩;rintro w8 k8 ch x ⟨aa,t,rfl,ha8,hk8,rfl,ht,s8⟩ -;have hSa:=hS1.Dj hG g0 gb (by omega) aa ha8;rw[<- ht] at hSa
  by_cases hlt8:(aa:Int)<(n:Int)
  ·have han:aa<n:=by omega
   refine cT (dT hlt8) ⟨λ ch x w9 k=>∃ (b:Nat) (t' : Lo),x=b/\b<=n/\k=n-b/\ch=t'.ch/\t' = Aw (gF l) (r+1) aa b t/\St w w9 (Sep (L 0 t'.v t'.f)),⟨n,0,t,rfl,by omega,by omega,rfl,rfl,s8⟩,?_⟩;rintro w9 k9 ch x ⟨bb,t',rfl,hb9,hk9,rfl,ht',s9⟩ -;have hIb:=hSa.i.Aw g0 gb (by omega) han bb hb9;rw[<- ht'] at hIb
   by_cases hlt9:(bb:Int)<(n:Int)
   ·have hbn:bb<n:=by omega
    have xa:l[aa]?=some (l.getD aa nD):=by rw[List.getD_eq_getElem?_getD,gE (by omega)]; rfl
    have xb:l[bb]?=some (l.getD bb nD):=by rw[List.getD_eq_getElem?_getD,gE (by omega)]; rfl
    have s10:St w w9.drew (Sep (L 0 t'.v t'.f)):=s9.quiet (ay.drew w9 []);obtain⟨qa,hqa,hca⟩:=(hr.au s10.au).at xa;obtain⟨qb,hqb,hcb⟩:=(hr.au s10.au).at xb;have val:∀ {w' : World} {i:Nat},i<n->St w w' (Sep (L 0 t'.v t'.f))->w'.cell? (Addr.add ⟨gv,0,none⟩ (((i:Nat):Int).toNat*1))=some (iv (t'.v i)):=λ hi s=>by
     obtain⟨q,hq,hc⟩:=fK (St.rd cR (s.out 1 rfl)) (DS t'.v hi)
     cases hq; exact hc
    refine cT (dT hlt9) ⟨λ ch w10=>ch=(Ai (gF l) (r+1) aa bb t').ch/\St w w10 (Sep (L 0 (Ai (gF l) (r+1) aa bb t').v (Ai (gF l) (r+1) aa bb t').f)),?_,?_⟩
    ·rintro w10 ch ⟨rfl,s11⟩ -;refine⟨n-(bb+1),by omega,bb+1,_,aB ⟨by omega,by omega⟩,by omega,rfl,rfl,?_,s11⟩;rw[ht']; rfl
    ·refine aj rfl ⟨by omega,by omega,_,val han s10,aj hqa ⟨by omega,by omega,(l.getD aa nD).p,(l.getD aa nD).want,hca,aj hqb ⟨by omega,by omega,(l.getD bb nD).p,(l.getD bb nD).want,hcb,ak (Q9 _ (ho _ (List.mem_of_getElem? xa)) (ho _ (List.mem_of_getElem? xb))) ?_⟩⟩⟩;rintro v w11 ⟨rfl,c11⟩;have s11:=s10.quiet c11;have ba:=hIb.lo aa han;have hla:=hIb.la han;have hg1:=gb aa bb han hbn;have hTa:(aa:Int)<=100:=by omega
     have ew:IntKind.i64.wrap (t'.v aa+vO (l.getD aa nD) (l.getD bb nD))=t'.v aa+gF l aa bb:=aB ⟨by show _<=t'.v aa+gF l aa bb; omega,by show t'.v aa+gF l aa bb<=_; omega⟩;refine⟨_,rfl,val han s11,aj rfl ⟨by omega,by omega,_,val hbn s11,?_⟩⟩;rw[ew]
     by_cases hrl:t'.v aa+gF l aa bb<t'.v bb
     ·have er:Ai (gF l) (r+1) aa bb t' = { v:=j8 t'.v bb (t'.v aa+gF l aa bb),f:=j8 t'.f bb aa,lr:=j8 t'.lr bb (r+1),ch:=bb }:=by unfold Ai; rw[if_pos hrl]
      rw[er];refine cT (dT hrl) (aj rfl ⟨by omega,by omega,?_⟩);rw[Int.toNat_natCast];refine St.jf (v:=iv) (x:=t'.v aa+gF l aa bb) rfl (s11.out 1 rfl) (i:=bb) (by rw[dN]; exact hbn) λ w12 s12=>?_;have e2:(de t'.v n).set bb (t'.v aa+gF l aa bb)=de (j8 t'.v bb (t'.v aa+gF l aa bb)) n:=Cw _ _ _ _;rw[e2] at s12;have s13:St w w12 (Sep [bR 3 1 i1 (some ⟨gf,0,none⟩) n (de t'.f n),bR 2 1 i1 (some ⟨gv,0,none⟩) n (de (j8 t'.v bb (t'.v aa+gF l aa bb)) n)]):=s12.back (l:=L 0 t'.v t'.f) (i:=1) (by simp[L]);refine aj rfl ⟨by omega,by omega,?_⟩;refine St.jf (v:=iv) (x:=(aa:Int)) rfl (s13.out 0 rfl) (i:=bb) (by rw[dN]; exact hbn) λ w14 s14=>⟨rfl,?_⟩;have e3:(de t'.f n).set bb (aa:Int)=de (j8 t'.f bb aa) n:=Cw _ _ _ _;rw[e3] at s14;exact s14.back (l:=[bR 3 1 i1 (some ⟨gf,0,none⟩) n (de t'.f n),bR 2 1 i1 (some ⟨gv,0,none⟩) n (de (j8 t'.v bb (t'.v aa+gF l aa bb)) n)]) (i:=0) (by simp)
     ·have er:Ai (gF l) (r+1) aa bb t' = t':=by unfold Ai; rw[if_neg hrl]
      rw[er];exact cF (dF hrl) ⟨rfl,s11⟩
   ·obtain rfl:n=bb:=by omega
    refine cF (dF hlt9) ⟨n-(aa+1),by omega,aa+1,_,aB ⟨by omega,by omega⟩,by omega,rfl,rfl,?_,s9⟩;rw[ht',ht]; rfl
  ·obtain rfl:n=aa:=by omega
   have eR:t=IY (gF l) n (r+1) s:=ht;have hfin2:(if (IY (gF l) n (r+1) s).ch<0 then IY (gF l) n (r+1) s else Lj (gF l) n (n-(r+1)) (r+1) (IY (gF l) n (r+1) s))=kq l:=by
    rw[<- hfin,hnr]; rfl
   rw[<- eR] at hfin2;refine cF (dF hlt8) ?_
   by_cases hc:t.ch<0
   ·rw[if_pos hc] at hfin2;refine cT (dT hc) ?_;rw[<- hfin2];exact⟨rfl,s8⟩
   ·rw[if_neg hc] at hfin2;refine cF (dF hc) ⟨n-(r+1),by omega,r+1,T+n,t,aB ⟨by omega,by omega⟩,by omega,rfl,rfl,?_,hfin2,hSa,s8⟩;rw[hT,Int.natCast_add,Int.add_mul]; omega
 ·obtain rfl:n=r:=by omega
  rw[Nat.sub_self] at hfin;have hfin:s=kq l:=hfin;subst hfin;exact cF (dF hlt) ⟨rfl,s7⟩
def ei(l:List Ch):Bool:=l.all uE&&decide ((kq l).ch<0)
theorem x9{l:List Ch}:l.all uE=true<->∀ c∈l,c.Ok:=by simp[List.all_eq_true,DG]
theorem Jx{w:World}{a:OA}{c:Nat}{l:List Ch}(hr:Dm w a l)(hl:l.length<=100) :
  CP 176 #[.slice a l.length c] w (λ r w'=>(∃ a1 l1 c1 a2 l2 c2,r=.tuple #[.agg #[.slice a1 l1 c1,.slice a2 l2 c2],.bool (ei l)])/\ay w w' []):=by
 refine tQ ?_;unfold o8;refine(St.start w).one.ax _ λ r1 w1 s1=>ak (yb (hr.au s1.au) (by omega)) ?_;rintro v w2 ⟨rfl,c2⟩;have s2:=s1.quiet c2;refine⟨_,rfl,?_⟩
 cases ha:l.all uE with
 | false =>
  refine cT rfl (s2.az 0 rfl [.slice none 0 0,.slice none 0 0] rfl (by simp[Value.oneCell']) λ w3 s3=>⟨_,_,_,_,_,_,s3.cellsIn 0 rfl,?_⟩);exact⟨⟨_,_,_,_,_,_,by rw[ei,ha]; rfl⟩,s3.au⟩
 | true =>
  have ho:=x9.1 ha;refine cF rfl (ak (I3 (hr.au s2.au) hl ho) ?_);rintro v w4 (⟨hc,g,cc,rfl,s4⟩|⟨hc,⟨q,m,cc,rfl⟩,c4⟩)
  ·have hcons:ei l=true:=by rw[ei,ha,dT hc]; rfl
   let L:List Int->List aC:=λ out=>[bR 2 1 i1 (some ⟨g,0,none⟩) cc out,ai r1 #[.slice none 0 0,.slice none 0 0] 192,emp];have s5:St w w4 (Sep (L (de (kq l).v l.length))):=(s2.and s4.first);have val:∀ {w' : World} {out:List Int} {i:Nat},out.length=l.length->i<l.length->St w w' (Sep (L out))->w'.cell? (Addr.add ⟨g,0,none⟩ (((i:Nat):Int).toNat*1))=some (iv (out.getD i 0)):=λ {w' out i} ho hi s=>by
    obtain⟨q,hq,hc⟩:=fK (St.rd cR s) (i:=i) (x:=out.getD i 0) (by rw[List.getD_eq_getElem?_getD,gE (by omega)]; rfl)
    cases hq; exact hc
   refine⟨_,_,_,_,_,_,rfl,cF rfl ⟨λ _ n w6 m=>∃ j:Nat,n=j/\j<=l.length/\m=l.length-j/\St w w6 (Sep (L (de (kq l).v l.length))),⟨l.length,0,rfl,by omega,by omega,s5⟩,?_⟩⟩;rintro w6 m n n2 ⟨j,rfl,hj,hm,s6⟩ -
   by_cases hlt:(j:Int)<(l.length:Int)
   ·have hx:l[j]?=some (l[j]'(by omega)):=gE (by omega);generalize l[j]'(by omega)=y at hx;obtain⟨q2,hq,hcl2⟩:=(hr.au s6.au).at hx;refine cT (dT hlt) (aj hq ⟨by omega,by omega,y.p,y.want,hcl2,s6.ax nD.cells.toArray λ r2 w7 s7=>s7.az 0 rfl y.cells rfl y.one λ w8 s8=>?_⟩);have s9:=s8.quiet (ay.drew w8 []);have oy:=ho _ (List.mem_of_getElem? hx);have s10:St w w8.drew (Sep (L (de (kq l).v l.length))):=s9.av [1,2,3];have hjl:j<l.length:=by omega
    refine⟨_,wF s9 0 rfl,_,bY s9 0 rfl,aj rfl ⟨by omega,by omega,_,val (dN _ _) hjl s10,ak (gr _ oy.p oy.w) ?_⟩⟩;rintro v w11 ⟨rfl,c11⟩;have s11:=s10.quiet c11;exact⟨_,rfl,val (dN _ _) hjl s11,l.length-(j+1),by omega,j+1,aB ⟨by omega,by omega⟩,by omega,rfl,s11⟩
   ·refine cF (dF hlt) ⟨λ _ n w6 m=>∃ j:Nat,n=j/\j<=l.length/\m=l.length-j/\St w w6 (Sep (L (de (kq l).v l.length))),⟨l.length,0,rfl,by omega,by omega,s6⟩,?_⟩;clear s6 hlt hj hm;rintro w10 m3 n5 n6 ⟨j,rfl,hj,hm,s6⟩ -
    by_cases hlt:(j:Int)<(l.length:Int)
    ·have hx:l[j]?=some (l[j]'(by omega)):=gE (by omega);generalize l[j]'(by omega)=y at hx;have hjl:j<l.length:=by omega
     obtain⟨q2,hq,hcl2⟩:=(hr.au s6.au).at hx;refine cT (dT hlt) ⟨λ _ w11=>St w w11 (Sep (L (de (kq l).v l.length))),λ w11 n7 s11 _=>⟨l.length-(j+1),by omega,j+1,aB ⟨by omega,by omega⟩,by omega,rfl,s11⟩,?_⟩;refine aj hq ⟨by omega,by omega,y.p,y.want,hcl2,s6.ax nD.cells.toArray λ r2 w7 s7=>s7.az 0 rfl y.cells rfl y.one λ w8 s8=>⟨_,bY s8 0 rfl,?_⟩⟩;have s10:St w w8 (Sep (L (de (kq l).v l.length))):=s8.av [1,2,3];exact cB (aj rfl ⟨by omega,by omega,_,val (dN _ _) hjl s10,s10⟩) s10
    ·refine cF (dF hlt) ⟨λ n w6 m=>∃ (j:Nat) (out:List Int),n=j/\j<=l.length/\m=l.length-j/\out.length=l.length/\St w w6 (Sep (L out)),⟨l.length,0,_,rfl,by omega,by omega,dN _ _,s6⟩,?_⟩;clear s6 hlt hj hm;rintro w14 m5 n9 ⟨j,out,rfl,hj,hm,hou,s6⟩ -
     by_cases hlt:(j:Int)<(l.length:Int)
     ·have hjl:j<l.length:=by omega
      refine cT (dT hlt) (aj rfl ⟨by omega,by omega,_,val hou hjl s6,aj rfl ⟨by omega,by omega,?_⟩⟩);rw[Int.toNat_natCast];exact St.jf (v:=iv) rfl s6 (i:=j) (by omega) λ w15 s15=>⟨l.length-(j+1),by omega,j+1,_,aB ⟨by omega,by omega⟩,by omega,rfl,by simpa using hou,s15⟩
     ·refine cF (dF hlt) ((s6.av [1,2]).az 0 rfl [.slice none 0 0,.slice (some ⟨g,0,none⟩) l.length cc] rfl (by simp[Value.oneCell']) λ w3 s3=>⟨_,_,_,_,_,_,s3.cellsIn 0 rfl,⟨none,0,0,_,_,_,by rw[hcons]⟩,s3.au⟩)
  ·have s4:=s2.quiet c4;refine⟨_,_,_,_,_,_,rfl,cT rfl (s4.az 0 rfl [.slice (some q) m cc,.slice none 0 0] rfl (by simp[Value.oneCell']) λ w3 s3=>⟨_,_,_,_,_,_,s3.cellsIn 0 rfl,⟨some q,m,cc,none,0,0,by rw[ei,ha,dF (by omega)]; rfl⟩,s3.au⟩)⟩
theorem Tw:gV prog 121 114 nD.v 12 96:=gV.mk' underlying121 (by kernel_rfl) rfl (by decide)
theorem A4{w:World}{s:Se}{n:Int}{a:OA}{k:Nat}{l:List Ch}(hr:Dm w a l)(hk:l.length<=k)(hl:l.length+1<=100)(c:Ch) :
  CP 138 #[.agg (JR s n a k l).toArray,c.v] w (λ r w'=>r=.bool (ei (l++[c]))/\ay w w' []):=by
 refine iD ?_;unfold dX;refine(St.start w).one.ax (JR s n a k l).toArray λ r1 w1 s1=>s1.ax c.cells.toArray λ r2 w2 s2=>⟨λ b w3=>b=ei (l++[c])/\ay w w3 [],?_,?_⟩
 ·rintro w3 b ⟨rfl,hc⟩;exact λ _=>⟨rfl,hc⟩
 have s3:=s2.quiet (ay.drew w2 []);have app:∀ {w' : World} {r:Nat} {B:List aC} {R:Option Addr->Nat->Nat->World->Prop},St w w' (Sep (ai r c.cells.toArray 114 :: B))->(∀ a' c' w2,St w w2 (star (bR 114 12 Ch.cells a' c' (l++[c])) (Sep (ai r c.cells.toArray 114 :: B)))->R a' (l++[c]).length c' w2) ->
   aV prog (Builtin.append_ #[121,121] 121 #[.slice (if (((l.length:Nat):Int)).toNat=0 then a else Option.map (λ x=>Addr.add x (0*12)) a) ((((l.length:Nat):Int)).toNat-0) ((((l.length:Nat):Int)).toNat-0),.slice (some ⟨r,0,none⟩) 1 1]) w' λ e w2=>∃ a l c,e=.slice a l c/\R a l c w2:=by
  intro w' r B R sB hR;rw[Int.toNat_natCast,SN,Nat.sub_zero];refine Iu Tw Ch.len c.one sB (hr.au sB.au) (λ j u hj=>?_) (by omega) (by omega) hR;rw[sB.ag 0 rfl]; simpa using hj
 have fin:∀ {w' : World} {B:List aC} {a' : OA} {c' : Nat},St w w' (star (bR 114 12 Ch.cells a' c' (l++[c])) (Sep B)) ->
   CC 176 #[.slice a' (l++[c]).length c'] w' (xV λ r w2=>(∃ a1 l1 c1 a2 l2 c2,r=.tuple #[.agg #[.slice a1 l1 c1,.slice a2 l2 c2],.bool (ei (l++[c]))])/\ay w' w2 []):=λ s=>Jx (St.rd Ch.len s) (by simpa using hl)
 let Wn:Array Value:=#[.slice none 0 0,.slice none 0 0];refine⟨_,_,_,s3.ag 1 rfl 5,_,_,_,s3.ag 1 rfl 5,_,_,_,s3.ag 1 rfl 5,by omega,by omega,by omega,by omega,c.p,c.want,s3.cellsIn 0 rfl,?_,?_⟩
 ·refine s3.ax c.cells.toArray λ r3 w4 s4=>⟨s4.ag 2 rfl 5,s4.ag 2 rfl 5,s4.ag 2 rfl 5,app s4 λ a' c' w5 s5=>⟨ak (fin s5) ?_,?_⟩,?_⟩
  ·rintro v w6 ⟨⟨a1,l1,c1,a2,l2,c2,rfl⟩,c6⟩;exact⟨_,_,_,_,_,_,_,rfl,(St.start' (s5.au.trans c6 (by simp))).one.ax Wn λ r4 w7 s7=>s7.az 0 rfl [.slice a1 l1 c1,.slice a2 l2 c2] rfl (by simp[Value.oneCell']) λ w8 s8=>⟨rfl,s8.au⟩⟩
  ·refine s5.first.one.ax Wn λ r5 w9 s9=>ak (fin (s9.av [1,0])) ?_;rintro v w6 ⟨⟨a1,l1,c1,a2,l2,c2,rfl⟩,c6⟩;exact⟨_,_,_,_,_,_,_,rfl,(s9.quiet c6).az 0 rfl [.slice a1 l1 c1,.slice a2 l2 c2] rfl (by simp[Value.oneCell']) λ w8 s8=>⟨rfl,s8.au⟩⟩
  ·refine s4.ax Wn λ r6 w12 s12=>⟨s12.ag 3 rfl 5,s12.ag 3 rfl 5,s12.ag 3 rfl 5,app (s12.av [1,0]) λ a' c' w13 s13=>ak (fin s13) ?_⟩;rintro v w6 ⟨⟨a1,l1,c1,a2,l2,c2,rfl⟩,c6⟩;exact⟨_,_,_,_,_,_,_,rfl,(s13.quiet c6).second.az 1 rfl [.slice a1 l1 c1,.slice a2 l2 c2] rfl (by simp[Value.oneCell']) λ w8 s8=>⟨rfl,s8.au⟩⟩
 ·refine s3.ax Wn λ r7 w16 s16=>⟨s16.cellsIn 1 rfl,s16.ag 2 rfl 5,s16.ag 2 rfl 5,s16.ag 2 rfl 5,s16.ax c.cells.toArray λ r8 w17 s17=>⟨s17.ag 3 rfl 5,s17.ag 3 rfl 5,s17.ag 3 rfl 5,app s17 λ a' c' w18 s18=>ak (fin s18) ?_⟩⟩;rintro v w6 ⟨⟨a1,l1,c1,a2,l2,c2,rfl⟩,c6⟩;exact⟨_,_,_,_,_,_,_,rfl,(s18.quiet c6).second.az 1 rfl [.slice a1 l1 c1,.slice a2 l2 c2] rfl (by simp[Value.oneCell']) λ w8 s8=>⟨rfl,s8.au⟩⟩
theorem IU{w:World}{s:Se}(h:JQ w s){n:Nat}{b:Br}(hb:s.bd[n]?=some b){a:OA}{k:Nat}{l:List Ch}(hr:Dm w a l)(hk:l.length<=k)(hl:l.length+1<=100)(ho:∀ c∈l,c.Ok){c:Ch}(hc:c.Ok) :
  CP 139 #[.agg (JR s n a k l).toArray,c.v] w (λ r w'=>r=.bool (yM s b l c||ei (l++[c]))/\ay w w' []):=by
 refine iE ?_;unfold dY;refine(St.start w).one.ax (JR s n a k l).toArray λ r1 w1 s1=>s1.ax c.cells.toArray λ r2 w2 s2=>?_;refine⟨_,_,_,_,_,_,_,_,_,_,_,_,_,_,_,_,s2.cellsIn 1 rfl,c.p,c.want,s2.cellsIn 0 rfl,ak (Hs (h.au s2.au) hb (hr.au s2.au) (by omega) ho hc) ?_⟩;rintro v w3 ⟨rfl,c3⟩;have s3:=s2.quiet c3;refine⟨_,rfl,?_⟩
 cases hf:yM s b l c with
 | true=>exact cT rfl ⟨rfl,s3.au⟩
 | false =>
  refine cF rfl ⟨_,_,_,_,_,_,_,_,_,_,_,_,_,_,_,_,s3.cellsIn 1 rfl,c.p,c.want,s3.cellsIn 0 rfl,ak (A4 (hr.au s3.au) hk hl c) ?_⟩;rintro v w4 ⟨rfl,c4⟩;exact⟨_,rfl,rfl,(s3.quiet c4).au⟩
def Bv(rule:Int)(s:Se)(b:Br)(l:List Ch)(c:Ch):Bool:=if rule=1 then yM s b l c else if rule=2 then ei (l++[c]) else yM s b l c||ei (l++[c])
def BO(rule:Int)(s:Se)(b:Br)(l:List Ch)(c:Ch):Int :=
 if 1<=rule/\rule<=3 then (if (if oE l then decide (c.want=z6) else Bv rule s b l c) then 0 else 15) else 4
theorem JZ{w:World}{s:Se}(h:JQ w s){n:Nat}{b:Br}(hb:s.bd[n]?=some b){a:OA}{k:Nat}{l:List Ch}(hr:Dm w a l)(hk:l.length<=k)(hl:l.length+1<=100)(ho:∀ c∈l,c.Ok){c:Ch}(hc:c.Ok)(rule:Int) :
  CP 101 #[.agg s.arr,iv rule,iv n,.slice a l.length k,c.v] w (λ r w'=>r=iv (BO rule s b l c)/\ay w w' []):=by
 refine q9 ?_;unfold mR;refine(St.start w).one.ax s.arr λ r1 w1 s1=>s1.ax c.cells.toArray λ r2 w2 s2=>⟨_,_,_,_,_,_,_,_,_,_,_,_,s2.cellsIn 1 rfl,s2.ax #[.slice none 0 0,.slice none 0 0,.slice none 0 0,.slice none 0 0,iv 0,.slice none 0 0] λ r3 w3 s3=>s3.az 0 rfl (JR s n a k l) rfl (by simp[JR,Value.oneCell']) λ w4 s4=>?_⟩;have hn:n<s.bd.length:=(List.getElem?_eq_some_iff.1 hb).1;let Acc (x:Bool) (v:Value):Prop:=∀ (w' : World) (R:Ending->World->Prop),ay w w' []->(∀ w'',ay w' w'' []->R (.returned (.bool x)) w'')->cU prog v #[c.v] w' R;refine⟨_,_,_,_,_,_,_,_,_,_,_,_,_,_,_,_,s4.cellsIn 0 rfl,λ v w5=>(1<=rule/\rule<=3)/\Acc (Bv rule s b l c) v/\St w w5 (Sep [ai r2 c.cells.toArray 114,ai r1 s.arr 27,emp]),?_,?_⟩
 ·rintro w5 v ⟨hru,hv,s5⟩ -;refine⟨_,_,_,_,_,_,_,_,_,_,_,_,s5.cellsIn 1 rfl,ak (K2 (n:Int)) ?_⟩;rintro r w6 ⟨rfl,c6⟩;have s6:=s5.quiet c6;refine⟨_,rfl,cF (by simp; omega) ⟨_,bY s6 0 rfl,ak (bN w6 c.want) ?_⟩⟩;rintro r w7 ⟨rfl,c7⟩;have s7:=s6.quiet c7;have h0:c.want.l.all eY=true:=by
   have:=DG.2 hc;rw[uE,Bool.and_eq_true] at this; exact this.2
  rw[h0];refine⟨_,rfl,cF rfl ⟨λ v w8=>Acc (if oE l then decide (c.want=z6) else Bv rule s b l c) v/\St w w8 (Sep [ai r2 c.cells.toArray 114,ai r1 s.arr 27,emp]),?_,ak (KH (hr.au s7.au) (by omega)) ?_⟩⟩
  ·rintro w8 v2 ⟨hv2,s8⟩ -;refine⟨_,_,s8.cellsIn 0 rfl,hv2 _ _ s8.au λ w9 c9=>⟨_,rfl,?_⟩⟩
   cases hx:(if oE l then decide (c.want=z6) else Bv rule s b l c) with
   | false=>exact cT rfl ⟨by rw[BO,if_pos hru,hx]; rfl,(s8.quiet c9).au⟩
   | true=>exact cF rfl ⟨by rw[BO,if_pos hru,hx]; rfl,(s8.quiet c9).au⟩
  ·rintro r w8 ⟨rfl,rfl⟩;refine⟨_,rfl,?_⟩
   cases he:oE l with
   | false=>exact cF rfl ⟨hv,s7⟩
   | true =>
    refine cT rfl ⟨?_,s7⟩;intro w' R _ k;refine bx (by kernel_rfl) (ak (K:=λ r w''=>r=.bool (decide (c.want=z6))/\ay w' w'' []) (nZ ?_) ?_)
    ·unfold jA;exact(St.start w').one.ax c.cells.toArray λ r2 w2 s2=>⟨_,bY s2 0 rfl,by rw[I6.beq_eq],s2.au⟩
    ·rintro r w'' ⟨rfl,hc⟩; exact k w'' hc
 ·have s5:St w w4 (Sep [ai r2 c.cells.toArray 114,ai r1 s.arr 27,emp]):=s4.av [1,2,3]
  by_cases h1:rule=1
  ·subst h1;refine cT rfl ⟨⟨by omega,by omega⟩,?_,s5⟩;intro w' R hw' k;refine bx (by kernel_rfl) (ak (Hs (h.au hw') hb (hr.au hw') (by omega) ho hc) ?_);rintro r w'' ⟨rfl,hc⟩; exact k w'' hc
  refine cF (by simpa using h1) ?_
  by_cases h2:rule=2
  ·subst h2;refine cT rfl ⟨_,_,_,_,_,_,_,_,_,_,_,_,_,_,_,_,s4.cellsIn 0 rfl,⟨by omega,by omega⟩,?_,s5⟩;intro w' R hw' k;refine bx (by kernel_rfl) (ak (A4 (hr.au hw') hk hl c) ?_);rintro r w'' ⟨rfl,hc⟩; exact k w'' hc
  refine cF (by simpa using h2) ?_
  by_cases h3:rule=3
  ·subst h3;refine cT rfl ⟨_,_,_,_,_,_,_,_,_,_,_,_,_,_,_,_,s4.cellsIn 0 rfl,⟨by omega,by omega⟩,?_,s5⟩;intro w' R hw' k;refine bx (by kernel_rfl) (ak (IU (h.au hw') hb (hr.au hw') hk hl ho hc) ?_);rintro r w'' ⟨rfl,hc⟩; exact k w'' hc
  exact cF (by simpa using h3) ⟨by rw[BO,if_neg (by omega)],s5.au⟩
def jE(a:Nat)(w:World)(K:KP):=∃ b c d,w.cell? (qd a 8)=some (.slice b c d)/\K (iv (c:Int)) w
theorem ot{b1 w K}(h:jE b1 w K):CP 23 #[.pointer (some ⟨b1,0,none⟩)] w K:=ah (aA []) func23 (by kernel_rfl) (by kernel_rfl) h
def iK(a:Nat)(w:World)(K:KP):=aq w (.cells z6.vs.toArray 53) λ b c=>∃ d:I6,af c (qd a 9) 0 d.vs/\aL (qd b 0) 0 d.vs c λ a=>∃ c:I6,af a (qd b 0) 0 c.vs/\K (.agg c.vs.toArray) a
theorem nF{b1 w K}(h:iK b1 w K):CP 14 #[.pointer (some ⟨b1,0,none⟩)] w K:=ah (aA []) func14 (by kernel_rfl) (by kernel_rfl) h
def gX(a:Nat)(b:Int)(w:World)(K:KP):=∃ c:Bool->qW,(∀ d e,c e d->∀ f:qv,cond e (K qn d) (∃ e f g,d.cell? (qd a 8)=some (.slice e f g)/\∃ g:OA->Nat->Nat->Int->qN,(∃ h,g none 0 0 0 d h)/\∀ d h i j k l,g i j k l d h->∀ m:qv,cond (decide (l<(f:Int))) (an e λ e=>0<=l/\l<(f:Int)/\∃ f:I6,∃ m n o p q r s t u,af d (Addr.add e ((l).toNat*9)) 0 (f.on [.slice m n o,.slice p q r,.slice s t u])/\aq d (.cells #[qz,qz,qz,qz,qz,qz,qn,qn,qn] 76) λ e v=>aL (qd e 0) 0 (f.on [.slice m n o,.slice p q r,.slice s t u]) v λ f=>∃ m:I6,af f.drew (qd e 0) 0 m.vs/\∃ n o p,f.drew.cell? (qd e 6)=some (.slice n o p)/\an n λ e=>0<=b/\b<(o:Int)/\∃ n:I6,af f.drew (Addr.add e ((b).toNat*6)) 0 n.vs/\aq f.drew (.cells (m.on (n.vs):List Value).toArray 114) λ e f=>aV prog (Builtin.append_ #[121,121] 121 #[.slice i j k,.slice (some (qd e 0)) 1 1]) f λ e f=>∃ m n o,e=(.slice m n o)/\∃ e,e<h/\g m n o (IntKind.i64.wrap (l+1)) f e) (K (.slice i j k) d)))/\CC 97 #[qp a,iv b] w λ a b=>∃ d,a=.returned (.bool d)/\c (!d) b
theorem mg{b1 n1 w K}(h:gX b1 n1 w K):CP 51 #[.pointer (some ⟨b1,0,none⟩),iv n1] w K:=ah (aA [(6,[(15,.s .bool)]),(122,[(5,.s .slice),(21,.s (.int .i64))])]) func51 (by kernel_rfl) (by kernel_rfl) h
def kF(a:Nat)(w:World)(K:KP):=∃ b c d e f g h i j k l m n o p q r s t,∃ u:I6,∃ v x y z A B C D E F,af w (qd a 0) 0 (.slice b c d :: .slice e f g :: .slice h i j :: .slice k l m :: iv n :: iv o :: iv p :: iv q :: .slice r s t :: u.on [.slice v x y,.slice z A B,.slice C D E,.bool F])/\aq w (.cells #[qn,qn,qn,qn,qz,qz,qz,qz,qn,qz,qz,qz,qz,qz,qz,qn,qn,qn,.bool false] 106) λ G H=>aL (qd G 0) 0 (.slice b c d :: .slice e f g :: .slice h i j :: .slice k l m :: iv n :: iv o :: iv p :: iv q :: .slice r s t :: u.on [.slice v x y,.slice z A B,.slice C D E,.bool F]) H λ b=>∃ c d e f g h i j k l m n,af b (qd a 0) 0 [.slice c d e,.slice f g h,.slice i j k,.slice l m n]/\CC 58 #[.agg #[.slice c d e,.slice f g h,.slice i j k,.slice l m n]] b λ b c=>∃ d e f g h i j k l m n o,b=.returned (.agg #[.slice d e f,.slice g h i,.slice j k l,.slice m n o])/\CC 26 #[qp a] c λ b c=>∃ p q r,b=.returned (.slice p q r)/\aL (qd G 0) 0 [.slice d e f,.slice g h i,.slice j k l,.slice m n o] c λ b=>aP b (qd G 8) (.slice p q r) λ b=>∃ c d e,b.drew.cell? (qd a 15)=some (.slice c d e)/\∃ f g h,b.drew.cell? (qd a 16)=some (.slice f g h)/\∃ i j k,b.drew.cell? (qd a 17)=some (.slice i j k)/\CC 67 #[.slice c d e] b.drew λ b c=>∃ d e l,b=.returned (.slice d e l)/\c.cell? (qd a 17)=some (.slice i j k)/\c.cell? (qd a 16)=some (.slice f g h)/\CC 68 #[.slice f g h] c λ b c=>∃ f g h,b=.returned (.slice f g h)/\c.cell? (qd a 17)=some (.slice i j k)/\CC 68 #[.slice i j k] c λ a b=>∃ c i j,a=.returned (.slice c i j)/\aP b (qd G 15) (.slice d e l) λ a=>aP a (qd G 16) (.slice f g h) λ a=>aP a (qd G 17) (.slice c i j) λ a=>K (qp G) a
theorem qm{b1 w K}(h:kF b1 w K):CP 33 #[.pointer (some ⟨b1,0,none⟩)] w K:=ah (aA []) func33 (by kernel_rfl) (by kernel_rfl) h
def iL(a:Nat)(w:World)(K:KP):=∃ b c d,w.cell? (qd a 8)=some (.slice b c d)/\CC 55 #[.slice b c d,.func (.func 56) #[] #[]] w λ a b=>∃ c d e,a=.returned (.slice c d e)/\K (.slice c d e) b
theorem nG{b1 w K}(h:iL b1 w K):CP 26 #[.pointer (some ⟨b1,0,none⟩)] w K:=ah (aA []) func26 (by kernel_rfl) (by kernel_rfl) h
def mX(a:Nat)(b:Int)(w:World)(K:KP):=cond (decide (b>=0)) (∃ c d e,w.cell? (qd a 17)=some (.slice c d e)/\K (.bool (decide (b<(d:Int)))) w) (K (.bool false) w)
theorem rC{b1 n1 w K}(h:mX b1 n1 w K):CP 97 #[.pointer (some ⟨b1,0,none⟩),iv n1] w K:=ah (aA []) func97 (by kernel_rfl) (by kernel_rfl) h
def vH(a:OA)(b c:Nat)(d:OA)(e f:Nat)(g:OA)(h i:Nat)(j:OA)(k l:Nat)(w:World)(K:KP):=aq w (.cells #[.slice a b c,.slice d e f,.slice g h i,.slice j k l] 27) λ a b=>aq b (.cells #[qn,qn,qn,qn] 27) λ b c=>∃ d e f,c.drew.cell? (qd a 0)=some (.slice d e f)/\∃ g h i,c.drew.cell? (qd a 1)=some (.slice g h i)/\∃ j k l,c.drew.cell? (qd a 2)=some (.slice j k l)/\∃ m n o,c.drew.cell? (qd a 3)=some (.slice m n o)/\CC 37 #[.slice d e f] c.drew λ c d=>∃ e f p,c=.returned (.slice e f p)/\d.cell? (qd a 3)=some (.slice m n o)/\d.cell? (qd a 2)=some (.slice j k l)/\d.cell? (qd a 1)=some (.slice g h i)/\CC 38 #[.slice g h i] d λ c d=>∃ g h i,c=.returned (.slice g h i)/\d.cell? (qd a 3)=some (.slice m n o)/\d.cell? (qd a 2)=some (.slice j k l)/\CC 39 #[.slice j k l] d λ c d=>∃ j k l,c=.returned (.slice j k l)/\d.cell? (qd a 3)=some (.slice m n o)/\CC 40 #[.slice m n o] d λ a c=>∃ d m n,a=.returned (.slice d m n)/\aL (qd b 0) 0 [.slice e f p,.slice g h i,.slice j k l,.slice d m n] c λ a=>∃ c d e f g h i j k l m n,af a (qd b 0) 0 [.slice c d e,.slice f g h,.slice i j k,.slice l m n]/\K (.agg #[.slice c d e,.slice f g h,.slice i j k,.slice l m n]) a
theorem yz{a1 l1 c1 a2 l2 c2 a3 l3 c3 a4 l4 c4 w K}(h:vH a1 l1 c1 a2 l2 c2 a3 l3 c3 a4 l4 c4 w K):CP 58 #[.agg #[.slice a1 l1 c1,.slice a2 l2 c2,.slice a3 l3 c3,.slice a4 l4 c4]] w K:=ah (aA []) func58 (by kernel_rfl) (by kernel_rfl) h
def gY(a:OA)(b c:Nat)(w:World)(K:KP):=aV prog (Instr.makeSlice 59 (iv (b:Int)) (iv (b:Int))) w λ d e=>∃ f g h,d=(.slice f g h)/\aV prog (Builtin.copy_ #[59,59] 3 #[.slice f g h,.slice a b c]) e λ _e1 a=>K (.slice f g h) a
theorem mh{a1 l1 c1 w K}(h:gY a1 l1 c1 w K):CP 67 #[.slice a1 l1 c1] w K:=ah (aA []) func67 (by kernel_rfl) (by kernel_rfl) h
def jG(a:OA)(b c:Nat)(w:World)(K:KP):=aV prog (Instr.makeSlice 74 (iv (b:Int)) (iv (b:Int))) w λ d e=>∃ f g h,d=(.slice f g h)/\aV prog (Builtin.copy_ #[74,74] 3 #[.slice f g h,.slice a b c]) e λ _e1 a=>K (.slice f g h) a
theorem ow{a1 l1 c1 w K}(h:jG a1 l1 c1 w K):CP 68 #[.slice a1 l1 c1] w K:=ah (aA []) func68 (by kernel_rfl) (by kernel_rfl) h
def kK(a:OA)(b c:Nat)(d:Value)(w:World)(K:KP):=∃ c:OA->Nat->Nat->Int->qN,(∃ e,c none 0 0 0 w e)/\∀ f e g h i j,c g h i j f e->∀ k:qv,cond (decide (j<(b:Int))) (an a λ a=>0<=j/\j<(b:Int)/\∃ b:I6,∃ k l m n o p q r s,af f (Addr.add a ((j).toNat*9)) 0 (b.on [.slice k l m,.slice n o p,.slice q r s])/\aq f (.cells #[qz,qz,qz,qz,qz,qz,qn,qn,qn] 76) λ a t=>aL (qd a 0) 0 (b.on [.slice k l m,.slice n o p,.slice q r s]) t λ b=>∃ k:I6,∃ l m n o p q r s t,af b (qd a 0) 0 (k.on [.slice l m n,.slice o p q,.slice r s t])/\cU prog d #[.agg (k.on [.slice l m n,.slice o p q,.slice r s t]:List Value).toArray] b λ a b=>∃ d:I6,∃ k l m n o p q r s,a=.returned (.agg (d.on [.slice k l m,.slice n o p,.slice q r s]:List Value).toArray)/\aq b (.cells (d.on [.slice k l m,.slice n o p,.slice q r s]:List Value).toArray 76) λ a b=>aV prog (Builtin.append_ #[72,72] 72 #[.slice g h i,.slice (some (qd a 0)) 1 1]) b λ a b=>∃ d k l,a=(.slice d k l)/\∃ a,a<e/\c d k l (IntKind.i64.wrap (j+1)) b a) (K (.slice g h i) f)
theorem qt{a1 l1 c1 v1 w K}(h:kK a1 l1 c1 v1 w K):CP 55 #[.slice a1 l1 c1,v1] w K:=ah (aA [(58,[(5,.s .slice),(10,.s (.int .i64))])]) func55 (by kernel_rfl) (by kernel_rfl) h
def iM(a:I6)(b:OA)(c d:Nat)(e:OA)(f g:Nat)(h:OA)(i j:Nat)(w:World)(K:KP):=aq w (.cells (a.on [.slice b c d,.slice e f g,.slice h i j]:List Value).toArray 76) λ a b=>aq b (.cells #[qz,qz,qz,qz,qz,qz,qn,qn,qn] 76) λ b c=>∃ d e f,c.drew.cell? (qd a 6)=some (.slice d e f)/\∃ g h i,c.drew.cell? (qd a 7)=some (.slice g h i)/\∃ j k l,c.drew.cell? (qd a 8)=some (.slice j k l)/\CC 67 #[.slice d e f] c.drew λ c d=>∃ e f m,c=.returned (.slice e f m)/\d.cell? (qd a 8)=some (.slice j k l)/\d.cell? (qd a 7)=some (.slice g h i)/\CC 67 #[.slice g h i] d λ c d=>∃ g h i,c=.returned (.slice g h i)/\d.cell? (qd a 8)=some (.slice j k l)/\CC 68 #[.slice j k l] d λ c d=>∃ j k l,c=.returned (.slice j k l)/\aP d (qd a 6) (.slice e f m) λ c=>aP c (qd a 7) (.slice g h i) λ c=>aP c (qd a 8) (.slice j k l) λ c=>∃ d:I6,∃ e f g h i j k l m,af c (qd a 0) 0 (d.on [.slice e f g,.slice h i j,.slice k l m])/\aL (qd b 0) 0 (d.on [.slice e f g,.slice h i j,.slice k l m]) c λ a=>∃ c:I6,∃ d e f g h i j k l,af a (qd b 0) 0 (c.on [.slice d e f,.slice g h i,.slice j k l])/\K (.agg (c.on [.slice d e f,.slice g h i,.slice j k l]:List Value).toArray) a
theorem nH{u1 a1 l1 c1 a2 l2 c2 a3 l3 c3 w K}(h:iM u1 a1 l1 c1 a2 l2 c2 a3 l3 c3 w K):CP 56 #[.agg (u1.on [.slice a1 l1 c1,.slice a2 l2 c2,.slice a3 l3 c3]:List Value).toArray] w K:=ah (aA []) func56 (by kernel_rfl) (by kernel_rfl) h
def uG(a:OA)(b c:Nat)(d:OA)(e f:Nat)(g:OA)(h i:Nat)(j:OA)(k l:Nat)(m n o p:Int)(w:World)(K:KP):=aq w (.cells #[.slice a b c,.slice d e f,.slice g h i,.slice j k l] 27) λ a b=>aq b (.cells #[iv m,iv n,iv o,iv p] 29) λ b c=>∃ d e f g h i j k l m n o,af c (qd a 0) 0 [.slice d e f,.slice g h i,.slice j k l,.slice m n o]/\CC 42 #[.agg #[.slice d e f,.slice g h i,.slice j k l,.slice m n o]] c λ c d=>∃ e,c=.returned (iv e)/\cond (e !=0) (K (.tuple #[.pointer none,iv e]) d) (∃ c e f g,af d (qd b 0) 0 [iv c,iv e,iv f,iv g]/\CC 57 #[.agg #[iv c,iv e,iv f,iv g]] d λ c d=>∃ e,c=.returned (iv e)/\cond (e !=0) (K (.tuple #[.pointer none,iv e]) d) (∃ c:OA->qW,(∀ e f,c f e->∀ g:qv,CC 60 #[.pointer f] e λ e g=>e=.returned (.tuple #[])/\K (.tuple #[.pointer f,qz]) g)/\∃ e f g h i j k l m n o p,af d.drew (qd a 0) 0 [.slice e f g,.slice h i j,.slice k l m,.slice n o p]/\∃ q r s t,af d.drew (qd b 0) 0 [iv q,iv r,iv s,iv t]/\∃ u v x,d.drew.cell? (qd a 0)=some (.slice u v x)/\∃ y z A,d.drew.cell? (qd a 1)=some (.slice y z A)/\(CC 58 #[.agg #[.slice e f g,.slice h i j,.slice k l m,.slice n o p]] d.drew λ B C=>∃ D E F G H I J L M N O P,B=.returned (.agg #[.slice D E F,.slice G H I,.slice J L M,.slice N O P])/\C.cell? (qd a 1)=some (.slice y z A)/\C.cell? (qd a 0)=some (.slice u v x)/\af C (qd b 0) 0 [iv q,iv r,iv s,iv t]/\(CC 59 #[.slice u v x] C λ B Q=>∃ R:I6,B=.returned (.agg R.vs.toArray)/\Q.cell? (qd a 1)=some (.slice y z A)/\af Q (qd b 0) 0 [iv q,iv r,iv s,iv t]/\aV prog (Instr.makeSlice 74 (iv (z:Int)) (iv (z:Int))) Q λ y A=>∃ B Q S,y=(.slice B Q S)/\af A (qd b 0) 0 [iv q,iv r,iv s,iv t]/\aq A (.cells (.slice D E F :: .slice G H I :: .slice J L M :: .slice N O P :: iv q :: iv r :: iv s :: iv t :: qn :: R.on [qn,qn,.slice B Q S,.bool false]:List Value).toArray 106) λ y A=>c (some (qd y 0)) A)/\aV prog (Instr.makeSlice 74 (iv (z:Int)) (iv (z:Int))) C λ y A=>∃ B C Q,y=(.slice B C Q)/\A.cell? (qd a 0)=some (.slice u v x)/\af A (qd b 0) 0 [iv q,iv r,iv s,iv t]/\CC 59 #[.slice u v x] A λ y A=>∃ R:I6,y=.returned (.agg R.vs.toArray)/\af A (qd b 0) 0 [iv q,iv r,iv s,iv t]/\aq A (.cells (.slice D E F :: .slice G H I :: .slice J L M :: .slice N O P :: iv q :: iv r :: iv s :: iv t :: qn :: R.on [qn,qn,.slice B C Q,.bool false]:List Value).toArray 106) λ y A=>c (some (qd y 0)) A)/\aV prog (Instr.makeSlice 74 (iv (z:Int)) (iv (z:Int))) d.drew λ d y=>∃ z A B,d=(.slice z A B)/\y.cell? (qd a 0)=some (.slice u v x)/\af y (qd b 0) 0 [iv q,iv r,iv s,iv t]/\af y (qd a 0) 0 [.slice e f g,.slice h i j,.slice k l m,.slice n o p]/\CC 58 #[.agg #[.slice e f g,.slice h i j,.slice k l m,.slice n o p]] y λ d e=>∃ f g h i j k l m n o p y,d=.returned (.agg #[.slice f g h,.slice i j k,.slice l m n,.slice o p y])/\e.cell? (qd a 0)=some (.slice u v x)/\af e (qd b 0) 0 [iv q,iv r,iv s,iv t]/\CC 59 #[.slice u v x] e λ a d=>∃ e:I6,a=.returned (.agg e.vs.toArray)/\af d (qd b 0) 0 [iv q,iv r,iv s,iv t]/\aq d (.cells (.slice f g h :: .slice i j k :: .slice l m n :: .slice o p y :: iv q :: iv r :: iv s :: iv t :: qn :: e.on [qn,qn,.slice z A B,.bool false]:List Value).toArray 106) λ a b=>c (some (qd a 0)) b))
theorem sQ{a1 l1 c1 a2 l2 c2 a3 l3 c3 a4 l4 c4 n1 n2 n3 n4 w K}(h:uG a1 l1 c1 a2 l2 c2 a3 l3 c3 a4 l4 c4 n1 n2 n3 n4 w K):CP 27 #[.agg #[.slice a1 l1 c1,.slice a2 l2 c2,.slice a3 l3 c3,.slice a4 l4 c4],.agg #[iv n1,iv n2,iv n3,iv n4]] w K:=ah (aA [(15,[(8,.s .ptr)])]) func27 (by kernel_rfl) (by kernel_rfl) h
def mW(a:Nat)(b:Int)(c:I6)(w:World)(K:KP):=aq w (.cells c.vs.toArray 44) λ c d=>∃ e,d.cell? (qd a 18)=some (.bool e)/\cond e (K (iv 10) d) (CC 97 #[qp a,iv b] d λ d e=>∃ f,d=.returned (.bool f)/\cond (!f) (K (iv 6) e) (∃ d f g,e.cell? (qd a 17)=some (.slice d f g)/\an d λ d=>0<=b/\b<(f:Int)/\∃ f,e.cell? (Addr.add d ((b).toNat*1))=some (.bool f)/\cond f (K (iv 10) e) (∃ d:I6,af e.drew (qd a 9) 0 d.vs/\∃ f:I6,af e.drew (qd c 0) 0 f.vs/\aq e.drew (.cells #[qz,qz,qz,qz,qz,qz,qz,qz,qz,qz,qz,qz] 114) λ e g=>af g (qd c 0) 0 f.vs/\af g (qd a 9) 0 d.vs/\aL (qd e 0) 0 (d.on (f.vs)) g λ d=>∃ f g h i j k l m n o p q,af d.drew (qd a 0) 0 [.slice f g h,.slice i j k,.slice l m n,.slice o p q]/\∃ r:I6,af d.drew (qd c 0) 0 r.vs/\CC 45 #[.agg #[.slice f g h,.slice i j k,.slice l m n,.slice o p q],iv b,.agg r.vs.toArray] d.drew λ d f=>∃ g,d=.returned (iv g)/\cond (g !=0) (K (iv g) f) (∃ d g h i j k l m n o p q,af f.drew (qd a 0) 0 [.slice d g h,.slice i j k,.slice l m n,.slice o p q]/\∃ r s:I6,af f.drew (qd e 0) 0 (r.on (s.vs))/\CC 46 #[.agg #[.slice d g h,.slice i j k,.slice l m n,.slice o p q],iv b,.agg (r.on (s.vs):List Value).toArray] f.drew λ d f=>∃ g,d=.returned (iv g)/\cond (g !=0) (K (iv g) f) (∃ d g h i j k l m n o p q,af f.drew (qd a 0) 0 [.slice d g h,.slice i j k,.slice l m n,.slice o p q]/\∃ r,f.drew.cell? (qd a 7)=some (iv r)/\∃ s t:I6,af f.drew (qd e 0) 0 (s.on (t.vs))/\CC 51 #[qp a,iv b] f.drew λ f u=>∃ v x y,f=.returned (.slice v x y)/\af u (qd e 0) 0 (s.on (t.vs))/\u.cell? (qd a 7)=some (iv r)/\af u (qd a 0) 0 [.slice d g h,.slice i j k,.slice l m n,.slice o p q]/\CC 101 #[.agg #[.slice d g h,.slice i j k,.slice l m n,.slice o p q],iv r,iv b,.slice v x y,.agg (s.on (t.vs):List Value).toArray] u λ d e=>∃ f,d=.returned (iv f)/\cond (f !=0) (K (iv f) e) (∃ d f g,e.drew.cell? (qd a 15)=some (.slice d f g)/\∃ g h i,e.drew.cell? (qd a 16)=some (.slice g h i)/\∃ a:I6,af e.drew (qd c 0) 0 a.vs/\an d λ c=>0<=b/\b<(f:Int)/\aL (Addr.add c ((b).toNat*6)) 0 a.vs e.drew λ a=>an g λ c=>0<=b/\b<(h:Int)/\aP a (Addr.add c ((b).toNat*1)) (.bool true) λ a=>K qz a))))))
theorem rB{b1 n1 u1 w K}(h:mW b1 n1 u1 w K):CP 61 #[.pointer (some ⟨b1,0,none⟩),iv n1,.agg u1.vs.toArray] w K:=ah (aA []) func61 (by kernel_rfl) (by kernel_rfl) h
def jC(a:Nat)(w:World)(K:KP):=∃ b,w.cell? (qd a 18)=some (.bool b)/\cond b (K (.tuple #[.bool false,iv 10]) w) (∃ b c d,w.cell? (qd a 0)=some (.slice b c d)/\CC 49 #[.slice b c d] w λ b c=>∃ d:I6,b=.returned (.agg d.vs.toArray)/\aq c (.cells z6.vs.toArray 44) λ b c=>aL (qd b 0) 0 d.vs c λ c=>∃ d e f,c.cell? (qd a 15)=some (.slice d e f)/\CC 67 #[.slice d e f] c λ c d=>∃ e f g,c=.returned (.slice e f g)/\∃ c:OA->Nat->Nat->qW,(∀ h i j k,c i j k h->∀ l:qv,∃ l m n,h.drew.cell? (qd a 8)=some (.slice l m n)/\∃ o:I6,af h.drew (qd a 9) 0 o.vs/\∃ p q r,h.drew.cell? (qd a 15)=some (.slice p q r)/\∃ s t u,h.drew.cell? (qd a 16)=some (.slice s t u)/\aq h.drew (.cells (o.on [.slice p q r,.slice i j k,.slice s t u]:List Value).toArray 76) λ h o=>o.cell? (qd a 8)=some (.slice l m n)/\aV prog (Builtin.append_ #[72,72] 72 #[.slice l m n,.slice (some (qd h 0)) 1 1]) o λ h l=>∃ m n o,h=(.slice m n o)/\aP l (qd a 8) (.slice m n o) λ h=>CC 60 #[qp a] h λ h l=>h=.returned (.tuple #[])/\∃ h:I6,af l (qd b 0) 0 h.vs/\CC 104 #[.agg h.vs.toArray,.slice i j k] l λ h i=>∃ j:I6,h=.returned (.agg j.vs.toArray)/\aq i (.cells z6.vs.toArray 44) λ h i=>aL (qd h 0) 0 j.vs i λ i=>∃ j:Nat->Int->qW,(∀ k l m,j l m k->∀ n:qv,∃ n:Bool->qW,(∀ o p,n p o->∀ q:qv,cond p (aP o (qd a 18) (.bool true) λ p=>K (.tuple #[.bool true,qz]) p) (∃ p:I6,af o (qd l 0) 0 p.vs/\aL (qd a 9) 0 p.vs o λ l=>K (.tuple #[.bool false,qz]) l))/\∃ l:I6,af k (qd h 0) 0 l.vs/\cond (I6.beq l z6) (n true k) (∃ l o p,k.cell? (qd a 8)=some (.slice l o p)/\cond (decide ((o:Int)>=(30:Int))) (n true k) (n (m !=0) k)))/\∃ k l m n,af i.drew (qd a 4) 0 [iv k,iv l,iv m,iv n]/\∃ o:I6,af i.drew (qd a 9) 0 o.vs/\∃ p:I6,af i.drew (qd h 0) 0 p.vs/\(CC 105 #[.agg #[iv k,iv l,iv m,iv n],.agg o.vs.toArray,.agg p.vs.toArray] i.drew λ q r=>∃ s:I6,∃ t,q=.returned (.tuple #[.agg s.vs.toArray,iv t])/\aq r (.cells z6.vs.toArray 53) λ q r=>aL (qd q 0) 0 s.vs r λ r=>j q t r)/\aq i.drew (.cells z6.vs.toArray 53) λ i q=>af q (qd h 0) 0 p.vs/\af q (qd a 9) 0 o.vs/\af q (qd a 4) 0 [iv k,iv l,iv m,iv n]/\CC 105 #[.agg #[iv k,iv l,iv m,iv n],.agg o.vs.toArray,.agg p.vs.toArray] q λ h k=>∃ l:I6,∃ m,h=.returned (.tuple #[.agg l.vs.toArray,iv m])/\aL (qd i 0) 0 l.vs k λ h=>j i m h)/\∃ h i j,d.cell? (qd a 8)=some (.slice h i j)/\cond (decide ((i:Int)>(0:Int))) (∃ h,d.drew.cell? (qd a 6)=some (iv h)/\∃ i:I6,af d.drew (qd b 0) 0 i.vs/\∃ j k l,d.drew.cell? (qd a 15)=some (.slice j k l)/\CC 103 #[qp a] d.drew λ m n=>∃ o p q,m=.returned (.slice o p q)/\n.cell? (qd a 15)=some (.slice j k l)/\af n (qd b 0) 0 i.vs/\n.cell? (qd a 6)=some (iv h)/\CC 102 #[iv h,.agg i.vs.toArray,.slice o p q,.slice j k l] n λ a b=>∃ h i j k,a=.returned (.tuple #[.slice h i j,iv k])/\cond (k !=0) (K (.tuple #[.bool false,iv k]) b) (c h i j b)) (c e f g d))
theorem om{b1 w K}(h:jC b1 w K):CP 62 #[.pointer (some ⟨b1,0,none⟩)] w K:=ah (aA [(31,[(5,.s .slice)]),(511,[(9,.s (.blk)),(10,.s (.int .i64))]),(2046,[(111,.s .bool)])]) func62 (by kernel_rfl) (by kernel_rfl) h
def kI(a:Nat)(w:World)(K:KP):=∃ b,w.cell? (qd a 18)=some (.bool b)/\cond b (K (iv 10) w) (CC 60 #[qp a] w λ b c=>b=.returned (.tuple #[])/\aP c (qd a 18) (.bool true) λ a=>K qz a)
theorem qs{b1 w K}(h:kI b1 w K):CP 110 #[.pointer (some ⟨b1,0,none⟩)] w K:=ah (aA []) func110 (by kernel_rfl) (by kernel_rfl) h
def kG(a:Nat)(b:Int)(w:World)(K:KP):=∃ c:Bool->qW,(∀ d e,c e d->∀ f:qv,cond e (K (iv 6) d) (∃ e f g,d.cell? (qd a 17)=some (.slice e f g)/\an e λ e=>0<=b/\b<(f:Int)/\∃ f,d.cell? (Addr.add e ((b).toNat*1))=some (.bool f)/\cond f (K (iv 10) d) (∃ e f g,d.drew.cell? (qd a 17)=some (.slice e f g)/\∃ g h i,d.drew.cell? (qd a 15)=some (.slice g h i)/\∃ i j k,d.drew.cell? (qd a 16)=some (.slice i j k)/\an e λ e=>0<=b/\b<(f:Int)/\aP d.drew (Addr.add e ((b).toNat*1)) (.bool true) λ d=>an g λ e=>0<=b/\b<(h:Int)/\aL (Addr.add e ((b).toNat*6)) 0 z6.vs d λ d=>an i λ e=>0<=b/\b<(j:Int)/\aP d (Addr.add e ((b).toNat*1)) (.bool false) λ d=>K qz d)))/\CC 97 #[qp a,iv b] w λ a b=>∃ d,a=.returned (.bool d)/\c (!d) b
theorem qo{b1 n1 w K}(h:kG b1 n1 w K):CP 113 #[.pointer (some ⟨b1,0,none⟩),iv n1] w K:=ah (aA [(12,[(5,.s .bool)])]) func113 (by kernel_rfl) (by kernel_rfl) h
def jD(a:Nat)(b:Int)(w:World)(K:KP):=∃ c:Bool->qW,(∀ d e,c e d->∀ f:qv,cond e (K (iv 4) d) (CC 60 #[qp a] d λ d e=>d=.returned (.tuple #[])/\∃ d:qW,(∀ f,d f->∀ g:qv,aP f (qd a 18) (.bool false) λ f=>K qz f)/\∃ f g h,e.cell? (qd a 8)=some (.slice f g h)/\cond (decide (b<(g:Int))) (∃ f g h,e.cell? (qd a 8)=some (.slice f g h)/\an f λ f=>0<=b/\b<(g:Int)/\∃ g:I6,af e (Addr.add f ((b).toNat*9)) 0 g.vs/\aL (qd a 9) 0 g.vs e λ f=>∃ g h i,f.cell? (qd a 8)=some (.slice g h i)/\0<=b/\b<=(i:Int)/\CC 155 #[.slice (if i=0 then g else Option.map (λ x=>Addr.add x (0*9)) g) ((b).toNat-0) (i-0)] f λ f g=>∃ h i j,f=.returned (.slice h i j)/\aP g (qd a 8) (.slice h i j) λ f=>d f) (d e)))/\cond (decide (b<0)) (c true w) (∃ d e f,w.cell? (qd a 8)=some (.slice d e f)/\cond (decide (b>(e:Int))) (c true w) (∃ d e f,w.cell? (qd a 8)=some (.slice d e f)/\cond (b==(e:Int)) (∃ b,w.cell? (qd a 18)=some (.bool b)/\c b w) (c false w)))
theorem oq{b1 n1 w K}(h:jD b1 n1 w K):CP 114 #[.pointer (some ⟨b1,0,none⟩),iv n1] w K:=ah (aA [(51,[(9,.s .bool)]),(31,[])]) func114 (by kernel_rfl) (by kernel_rfl) h
def jF(a:Nat)(w:World)(K:KP):=∃ b c d,w.drew.cell? (qd a 17)=some (.slice b c d)/\∃ e f g,w.drew.cell? (qd a 17)=some (.slice e f g)/\(aV prog (Instr.makeSlice 59 (iv (c:Int)) (iv (c:Int))) w.drew λ h i=>∃ j k l,h=(.slice j k l)/\i.cell? (qd a 17)=some (.slice e f g)/\(aV prog (Instr.makeSlice 74 (iv (f:Int)) (iv (f:Int))) i λ e g=>∃ h m n,e=(.slice h m n)/\aP g (qd a 15) (.slice j k l) λ e=>aP e (qd a 16) (.slice h m n) λ e=>K (.tuple #[]) e)/\aP i (qd a 15) (.slice j k l) λ e=>aV prog (Instr.makeSlice 74 (iv (f:Int)) (iv (f:Int))) e λ e g=>∃ h i j,e=(.slice h i j)/\aP g (qd a 16) (.slice h i j) λ e=>K (.tuple #[]) e)/\aV prog (Instr.makeSlice 74 (iv (f:Int)) (iv (f:Int))) w.drew λ e f=>∃ g h i,e=(.slice g h i)/\f.cell? (qd a 17)=some (.slice b c d)/\aV prog (Instr.makeSlice 59 (iv (c:Int)) (iv (c:Int))) f λ b c=>∃ d e f,b=(.slice d e f)/\aP c (qd a 15) (.slice d e f) λ b=>aP b (qd a 16) (.slice g h i) λ a=>K (.tuple #[]) a
theorem ou{b1 w K}(h:jF b1 w K):CP 60 #[.pointer (some ⟨b1,0,none⟩)] w K:=ah (aA []) func60 (by kernel_rfl) (by kernel_rfl) h
def gj(a:Nat)(w:World)(K:KP):=∃ b c d,w.drew.cell? (qd a 8)=some (.slice b c d)/\∃ d e f,w.drew.cell? (qd a 8)=some (.slice d e f)/\an b λ b=>0<=(IntKind.i64.wrap ((e:Int)-(1:Int)))/\(IntKind.i64.wrap ((e:Int)-(1:Int)))<(c:Int)/\∃ c d f,w.drew.cell? (Addr.add (Addr.add b (((IntKind.i64.wrap ((e:Int)-(1:Int)))).toNat*9)) 7)=some (.slice c d f)/\CC 67 #[.slice c d f] w.drew λ b c=>∃ d e f,b=.returned (.slice d e f)/\∃ b g h,c.cell? (qd a 17)=some (.slice b g h)/\∃ a:Int->qN,(∃ h,a 0 c h)/\∀ c h i,a i c h->∀ j:qv,cond (decide (i<(g:Int))) (∃ j:qW,(∀ k,j k->∀ l:qv,∃ l,l<h/\a (IntKind.i64.wrap (i+1)) k l)/\an b λ a=>0<=i/\i<(g:Int)/\∃ b,c.cell? (Addr.add a ((i).toNat*1))=some (.bool b)/\cond b (an d λ a=>0<=i/\i<(e:Int)/\aL (Addr.add a ((i).toNat*6)) 0 z6.vs c λ a=>j a) (j c)) (K (.slice d e f) c)
theorem kJ{b1 w K}(h:gj b1 w K):CP 103 #[.pointer (some ⟨b1,0,none⟩)] w K:=ah (aA [(58,[(25,.s (.int .i64))]),(467,[])]) func103 (by kernel_rfl) (by kernel_rfl) h
def iN(a:OA)(b c:Nat)(w:World)(K:KP):=aV prog (Instr.makeSlice 72 (iv (b:Int)) (iv (b:Int))) w λ d e=>∃ f g h,d=(.slice f g h)/\aV prog (Builtin.copy_ #[72,72] 3 #[.slice f g h,.slice a b c]) e λ _e1 a=>K (.slice f g h) a
theorem nI{a1 l1 c1 w K}(h:iN a1 l1 c1 w K):CP 155 #[.slice a1 l1 c1] w K:=ah (aA []) func155 (by kernel_rfl) (by kernel_rfl) h
def sP  (w:World) (K:KP):=K (.pointer none) w
theorem oo{w K}(h:sP w K):CP 33 #[.pointer none] w K:=ah (aA []) func33 (by kernel_rfl) (by kernel_rfl) h
theorem TA:gV prog 22 94 (.agg ({ nm:=[],sup:=0,res:=0,pts:=0,grp:=0 }:Pr).cells.toArray) 5 48:=gV.mk' underlying22 (by kernel_rfl) rfl (by decide)
theorem Tv:gV prog 23 96 (.agg ({ nm:=[],cls:=0,bud:=0,pts:=0 }:Br).cells.toArray) 4 40:=gV.mk' underlying23 (by kernel_rfl) rfl (by decide)
theorem Tx:gV prog 24 98 (.agg (⟨0,0,0⟩:T3).cells.toArray) 3 24:=gV.mk' underlying24 (by kernel_rfl) rfl (by decide)
theorem Tu:gV prog 25 100 (.agg (⟨0,0,0⟩:T3).cells.toArray) 3 24:=gV.mk' underlying25 (by kernel_rfl) rfl (by decide)
theorem Pr.len(p:Pr):p.cells.length=5:=rfl
theorem Br.len(p:Br):p.cells.length=4:=rfl
theorem T3.len(p:T3):p.cells.length=3:=rfl
theorem dH.fl{w:World}{a:OA}{l:List Pr}(h:dH w a l):cG 5 Pr.cells w a l:=λ _ p hp=>let ⟨_,q,hq,hc⟩:=h _ p hp; ⟨q,_,hq,hc,rfl,rfl⟩
theorem ku.fl{w:World}{a:OA}{l:List Br}(h:ku w a l):cG 4 Br.cells w a l:=λ _ p hp=>let ⟨_,q,hq,hc⟩:=h _ p hp; ⟨q,_,hq,hc,rfl,rfl⟩
theorem Dn.fl{w:World}{a:OA}{l:List T3}(h:Dn w a l):cG 3 T3.cells w a l:=λ _ p hp=>let ⟨q,hq,hc⟩:=h _ p hp; ⟨q,_,hq,hc,rfl,rfl⟩
theorem dH.of{w:World}{a:OA}{l:List Pr}(h:cG 5 Pr.cells w a l)(k:∀ p∈l,p.In):dH w a l:=λ _ p hp=>let ⟨q,hq,hc⟩:=h.at hp; ⟨k p (List.mem_of_getElem? hp),q,hq,hc⟩
theorem ku.of{w:World}{a:OA}{l:List Br}(h:cG 4 Br.cells w a l)(k:∀ p∈l,p.In):ku w a l:=λ _ p hp=>let ⟨q,hq,hc⟩:=h.at hp; ⟨k p (List.mem_of_getElem? hp),q,hq,hc⟩
theorem Dn.of{w:World}{a:OA}{l:List T3}(h:cG 3 T3.cells w a l):Dn w a l:=λ _ _ hp=>let ⟨q,hq,hc⟩:=h.at hp; ⟨q,hq,hc⟩
theorem dH.in{w:World}{a:OA}{l:List Pr}(h:dH w a l):∀ p∈l,p.In:=λ p hp=>let ⟨i,hi⟩:=List.getElem?_of_mem hp; (h i p hi).1
theorem ku.in{w:World}{a:OA}{l:List Br}(h:ku w a l):∀ p∈l,p.In:=λ p hp=>let ⟨i,hi⟩:=List.getElem?_of_mem hp; (h i p hi).1
theorem AV{w:World}{a:OA}{c:Nat}{l:List Pr}(h:cG 5 Pr.cells w a l)(hl:l.length<=1000) :
  CP 37 #[.slice a l.length c] w (λ r w'=>∃ a' c',r=.slice a' l.length c'/\St w w' (bR 94 5 Pr.cells a' c' l)):=by
 refine lH ?_;unfold gL;exact ox (c:=c) (K:=λ r w'=>∃ a' c',r=.slice a' l.length c'/\St w w' (bR 94 5 Pr.cells a' c' l)) TA Pr.len Pr.one (St.start w) h (by omega) (by omega) λ a' c' w' s'=>⟨a',c',rfl,s'.first⟩
theorem AT{w:World}{a:OA}{c:Nat}{l:List Br}(h:cG 4 Br.cells w a l)(hl:l.length<=1000) :
  CP 38 #[.slice a l.length c] w (λ r w'=>∃ a' c',r=.slice a' l.length c'/\St w w' (bR 96 4 Br.cells a' c' l)):=by
 refine mJ ?_;unfold ic;exact ox (c:=c) (K:=λ r w'=>∃ a' c',r=.slice a' l.length c'/\St w w' (bR 96 4 Br.cells a' c' l)) Tv Br.len Br.one (St.start w) h (by omega) (by omega) λ a' c' w' s'=>⟨a',c',rfl,s'.first⟩
theorem AU{w:World}{a:OA}{c:Nat}{l:List T3}(h:cG 3 T3.cells w a l)(hl:l.length<=1000) :
  CP 39 #[.slice a l.length c] w (λ r w'=>∃ a' c',r=.slice a' l.length c'/\St w w' (bR 98 3 T3.cells a' c' l)):=by
 refine qE ?_;unfold lG;exact ox (c:=c) (K:=λ r w'=>∃ a' c',r=.slice a' l.length c'/\St w w' (bR 98 3 T3.cells a' c' l)) Tx T3.len T3.one (St.start w) h (by omega) (by omega) λ a' c' w' s'=>⟨a',c',rfl,s'.first⟩
theorem AS{w:World}{a:OA}{c:Nat}{l:List T3}(h:cG 3 T3.cells w a l)(hl:l.length<=1000) :
  CP 40 #[.slice a l.length c] w (λ r w'=>∃ a' c',r=.slice a' l.length c'/\St w w' (bR 100 3 T3.cells a' c' l)):=by
 refine nT ?_;unfold jd;exact ox (c:=c) (K:=λ r w'=>∃ a' c',r=.slice a' l.length c'/\St w w' (bR 100 3 T3.cells a' c' l)) Tu T3.len T3.one (St.start w) h (by omega) (by omega) λ a' c' w' s'=>⟨a',c',rfl,s'.first⟩
def Se.er(s:Se):Se:={ s with a1:=none,c1:=0,a2:=none,c2:=0,a3:=none,c3:=0,a4:=none,c4:=0 }
structure Se.Sz (s:Se):Prop where
 ps:s.ps.length<=100
 bd:s.bd.length<=100
 cp:s.cp.length<=100
 sa:s.sa.length<=100
theorem Se.Ok.sz{s:Se}(h:s.Ok):s.Sz:=⟨by have:=h.ps.l2; omega,by have:=h.bd.l2; omega,by have:=h.cp.l1; omega,by have:=h.sa.l1; omega⟩
theorem yx{w:World}{S:Se}(h:S.In w)(hz:S.Sz) :
  CP 58 #[.agg S.arr] w (λ r w'=>∃ S' : Se,S'.er=S.er/\r=.agg S'.arr/\St w w' (held S'.In)):=by
 refine yz ?_;unfold vH;obtain⟨z1,z2,z3,z4⟩:=hz;refine(St.start w).one.ax S.arr λ r1 w1 s1=>s1.ax #[.slice none 0 0,.slice none 0 0,.slice none 0 0,.slice none 0 0] λ r2 w2 s2=>?_;have s3:=s2.quiet (ay.drew w2 []);refine⟨_,_,_,s3.ag 1 rfl 0,_,_,_,s3.ag 1 rfl 1,_,_,_,s3.ag 1 rfl 2,_,_,_,s3.ag 1 rfl 3,ak (AV (h.au s3.au).ps.fl (by omega)) ?_⟩;rintro v w3 ⟨a1,c1,rfl,k1⟩;have s4:St w w3 (Sep [_,_,_,_]):=s3.and k1;refine⟨_,_,_,rfl,s4.ag 2 rfl 3,s4.ag 2 rfl 2,s4.ag 2 rfl 1,ak (AT (h.au s4.au).bd.fl (by omega)) ?_⟩;rintro v w4 ⟨a2,c2,rfl,k2⟩;have s5:St w w4 (Sep [_,_,_,_,_]):=s4.and k2;refine⟨_,_,_,rfl,s5.ag 3 rfl 3,s5.ag 3 rfl 2,ak (AU (h.au s5.au).cp.fl (by omega)) ?_⟩;rintro v w5 ⟨a3,c3,rfl,k3⟩;have s6:St w w5 (Sep [_,_,_,_,_,_]):=s5.and k3;refine⟨_,_,_,rfl,s6.ag 4 rfl 3,ak (AS (h.au s6.au).sa.fl (by omega)) ?_⟩;rintro v w6 ⟨a4,c4,rfl,k4⟩;have s7:St w w6 (Sep [_,_,_,_,_,_,_]):=s6.and k4;let S' : Se:={ S with a1:=a1,c1:=c1,a2:=a2,c2:=c2,a3:=a3,c3:=c3,a4:=a4,c4:=c4 };refine⟨_,_,_,rfl,s7.az 4 rfl S'.arr.toList rfl (by simp[S',Se.arr,Value.oneCell']) λ w7 s8=>⟨_,_,_,_,_,_,_,_,_,_,_,_,s8.cellsIn 4 rfl,S',rfl,rfl,?_⟩⟩;have q4:=St.pz (s8.out 0 rfl); have q3:=St.pz (s8.out 1 rfl); have q2:=St.pz (s8.out 2 rfl); have q1:=St.pz (s8.out 3 rfl);exact((s8.av [0,1,2,3]).held ((bB T3.len).cons ((bB T3.len).cons ((bB Br.len).cons ((bB Pr.len).cons gQ.nil))))).weak (pZ λ w' ⟨i4,i3,i2,i1,_⟩=>⟨dH.of i1 h.ps.in,ku.of i2 h.bd.in,Dn.of i3,Dn.of i4,q1.1,q2.1,q3.1,q4.1⟩)
abbrev bl (b:Bool):List Value:=[.bool b]
theorem iH(b:Bool):(bl b).length=1:=rfl
theorem QA(b:Bool):∀ v∈bl b,v.oneCell' = true:=by intro v hv; simp at hv; subst hv; rfl
structure Rn where
 p:I6
 ask:List I6
 got:List I6
 bd:List Bool
 xa:Option Addr
 xc:Nat
 ga:Option Addr
 gc:Nat
 ba:Option Addr
 bc:Nat
def Rn.cells(x:Rn):List Value:=x.p.on [.slice x.xa x.ask.length x.xc,.slice x.ga x.got.length x.gc,.slice x.ba x.bd.length x.bc]
theorem Rn.len(x:Rn):x.cells.length=9:=rfl
theorem Rn.one(x:Rn):∀ v∈x.cells,v.oneCell' = true:=by
 intro v hv; simp[Rn.cells,I6.on] at hv; rcases hv with rfl|rfl|rfl|rfl|rfl|rfl|rfl|rfl|rfl<;>rfl
def Rn.er(x:Rn):Rn:={ x with xa:=none,xc:=0,ga:=none,gc:=0,ba:=none,bc:=0 }
def Sn:Rn:=⟨z6,[],[],[],none,0,none,0,none,0⟩
structure Rn.In (x:Rn) (w:World):Prop where
 ask:cG 6 I6.vs w x.xa x.ask
 got:cG 6 I6.vs w x.ga x.got
 bd:cG 1 bl w x.ba x.bd
theorem Rn.In.au{x:Rn}{w w' : World}(h:x.In w)(hc:ay w w' []):x.In w':=⟨h.ask.au hc,h.got.au hc,h.bd.au hc⟩
structure Rn.Sz (n:Nat) (x:Rn):Prop where
 ask:x.ask.length=n
 got:x.got.length=n
 bd:x.bd.length=n
theorem Gx:gV prog 74 4 (.bool false) 1 1:=gV.mk' underlying74 (by kernel_rfl) rfl (by decide)
theorem RY:gV prog 72 76 (.agg Sn.cells.toArray) 9 120:=gV.mk' underlying72 (by kernel_rfl) rfl (by decide)
abbrev Jy (a:OA) (c:Nat) (l:List Bool):aC:=bR 4 1 bl a c l
abbrev Az (a:OA) (c:Nat) (l:List Rn):aC:=bR 76 9 Rn.cells a c l
theorem kO{w:World}{a:OA}{c:Nat}{l:List I6}(h:cG 6 I6.vs w a l)(hl:l.length<=1000) :
  CP 67 #[.slice a l.length c] w (λ r w'=>∃ g,r=.slice (some ⟨g,0,none⟩) l.length l.length/\St w w' (vl (some ⟨g,0,none⟩) l.length l)):=by
 refine mh ?_;unfold gY;exact uI (c:=c) (x0:=z6) (K:=λ r w'=>∃ g,r=.slice (some ⟨g,0,none⟩) l.length l.length/\St w w' (vl (some ⟨g,0,none⟩) l.length l)) Mi cC I6.one rfl (St.start w) h (by omega) (by omega) λ g w' s'=>⟨g,rfl,s'.first⟩
theorem uJ{w:World}{a:OA}{c:Nat}{l:List Bool}(h:cG 1 bl w a l)(hl:l.length<=1000) :
  CP 68 #[.slice a l.length c] w (λ r w'=>∃ g,r=.slice (some ⟨g,0,none⟩) l.length l.length/\St w w' (Jy (some ⟨g,0,none⟩) l.length l)):=by
 refine ow ?_;unfold jG;exact uI (c:=c) (x0:=false) (K:=λ r w'=>∃ g,r=.slice (some ⟨g,0,none⟩) l.length l.length/\St w w' (Jy (some ⟨g,0,none⟩) l.length l)) Gx iH QA rfl (St.start w) h (by omega) (by omega) λ g w' s'=>⟨g,rfl,s'.first⟩
theorem IC{w:World}{a:OA}{c:Nat}{l:List Rn}(h:cG 9 Rn.cells w a l)(hl:l.length<=1000) :
  CP 155 #[.slice a l.length c] w (λ r w'=>∃ g,r=.slice (some ⟨g,0,none⟩) l.length l.length/\St w w' (Az (some ⟨g,0,none⟩) l.length l)):=by
 refine nI ?_;unfold iN;exact uI (c:=c) (x0:=Sn) (K:=λ r w'=>∃ g,r=.slice (some ⟨g,0,none⟩) l.length l.length/\St w w' (Az (some ⟨g,0,none⟩) l.length l)) RY Rn.len Rn.one rfl (St.start w) h (by omega) (by omega) λ g w' s'=>⟨g,rfl,s'.first⟩
theorem Jq{w:World}{x:Rn}{n:Nat}(h:x.In w)(hz:x.Sz n)(hn:n<=1000) :
  CP 56 #[.agg x.cells.toArray] w (λ r w'=>∃ x' : Rn,x'.er=x.er/\r=.agg x'.cells.toArray/\St w w' (held x'.In)):=by
 refine nH ?_;unfold iM;have z1:=hz.ask; have z2:=hz.got; have z3:=hz.bd;refine(St.start w).one.ax x.cells.toArray λ r1 w1 s1=>s1.ax Sn.cells.toArray λ r2 w2 s2=>?_;have s3:=s2.quiet (ay.drew w2 []);refine⟨_,_,_,s3.ag 1 rfl 6,_,_,_,s3.ag 1 rfl 7,_,_,_,s3.ag 1 rfl 8,ak (kO (h.au s3.au).ask (by omega)) ?_⟩;rintro v w3 ⟨a1,rfl,k1⟩;have s4:St w w3 (Sep [_,_,_,_]):=s3.and k1;refine⟨_,_,_,rfl,s4.ag 2 rfl 8,s4.ag 2 rfl 7,ak (kO (h.au s4.au).got (by omega)) ?_⟩;rintro v w4 ⟨a2,rfl,k2⟩;have s5:St w w4 (Sep [_,_,_,_,_]):=s4.and k2;refine⟨_,_,_,rfl,s5.ag 3 rfl 8,ak (uJ (h.au s5.au).bd (by omega)) ?_⟩;rintro v w5 ⟨a3,rfl,k3⟩;have s6:St w w5 (Sep [_,_,_,_,_,_]):=s5.and k3;let x' : Rn:={ x with xa:=some ⟨a1,0,none⟩,xc:=x.ask.length,ga:=some ⟨a2,0,none⟩,gc:=x.got.length,ba:=some ⟨a3,0,none⟩,bc:=x.bd.length };refine⟨_,_,_,rfl,s6.aK 4 rfl (j:=6) (show 6<9 by decide) rfl λ w6 s7=>s7.aK 4 rfl (j:=7) (show 7<9 by decide) rfl λ w7 s8=>s8.aK 4 rfl (j:=8) (show 8<9 by decide) rfl λ w8 s9=>?_⟩;refine⟨x.p,_,_,_,_,_,_,_,_,_,s9.cellsIn 4 rfl,s9.az 3 rfl x'.cells rfl x'.one λ w9 s10=>⟨x.p,_,_,_,_,_,_,_,_,_,s10.cellsIn 3 rfl,x',rfl,rfl,?_⟩⟩;exact((s10.av [0,1,2]).held ((bB iH).cons ((bB cC).cons ((bB cC).cons gQ.nil)))).weak (pZ λ w' ⟨i3,i2,i1,_⟩=>⟨i1,i2,i3⟩)
theorem NK{l l' : List Rn}{k:Nat}{x x' : Rn}(h:l'.map Rn.er=(l.take k).map Rn.er)(hx:l[k]?=some x)(e:x'.er=x.er):(l'++[x']).map Rn.er=(l.take (k+1)).map Rn.er:=by
 rw[aG hx,List.map_append,List.map_append,h,List.map_singleton,List.map_singleton,e]
abbrev cH (l:List Rn) (w:World):Prop:=∀ x∈l,x.In w
theorem QO{w:World}{a:OA}{c:Nat}{l:List Rn}{n:Nat}(h:cG 9 Rn.cells w a l)(hi:cH l w)(hz:∀ x∈l,x.Sz n)(hn:n<=1000)(hl:l.length<=1000) :
  CP 55 #[.slice a l.length c,.func (.func 56) #[] #[]] w (λ r w'=>∃ l' a' c',l'.map Rn.er=l.map Rn.er/\r=.slice a' l'.length c'/\St w w' (star (Az a' c' l') (held (cH l')))):=by
 refine qt ?_;unfold kK;refine⟨λ a2 l2 c2 n1 w1 m=>∃ (k:Nat) (l' : List Rn),n1=k/\k<=l.length/\m=l.length-k/\l2=l'.length/\l'.length=k/\l'.map Rn.er=(l.take k).map Rn.er/\St w w1 (Sep [Az a2 c2 l',held (cH l'),emp]),⟨l.length,0,[],rfl,by omega,by omega,rfl,rfl,rfl,((St.start w).one.vQ (λ _=>by simp[cH])).dP⟩,?_⟩
 rintro w1 m a2 l2 c2 n1 ⟨k,l',rfl,hk,hm,rfl,hlen,he,s1⟩ -
 by_cases hlt:(k:Int)<(l.length:Int)
 ·have hx:l[k]?=some (l[k]'(by omega)):=gE (by omega);generalize l[k]'(by omega)=x at hx;have hm:=List.mem_of_getElem? hx;obtain⟨q,hq,hcl⟩:=(h.au s1.au).at hx;refine cT (dT hlt) (aj hq ⟨by omega,by omega,x.p,_,_,_,_,_,_,_,_,_,hcl,s1.ax Sn.cells.toArray λ r1 w2 s2=>s2.az 0 rfl x.cells rfl x.one λ w3 s3=>⟨x.p,_,_,_,_,_,_,_,_,_,s3.cellsIn 0 rfl,?_⟩⟩);refine bx (by kernel_rfl) (ak (Jq ((hi x hm).au s3.au) (hz x hm) hn) ?_);rintro v w4 ⟨x',ex,rfl,k4⟩;have s4:St w w4 (Sep [held x'.In,_,Az a2 c2 l',held (cH l'),emp]):=s3.and k4;refine⟨x'.p,_,_,_,_,_,_,_,_,_,rfl,ob RY Rn.len (x:=x') x'.one (s4.out 2 rfl) (by omega) (by omega) (λ a' c' w' s5=>?_) rfl⟩;refine⟨l.length-(k+1),by omega,k+1,l'++[x'],aB ⟨by omega,by omega⟩,by omega,rfl,rfl,by simp[hlen],NK he hx ex,?_⟩;have s6:St w w' (Sep [_,_,_,_,_]):=s5;exact(((s6.av [3,1,0,4]).qQ (aZ _) (aZ _) λ w'' h1 h2 y hy=>(List.mem_append.1 hy).elim (h1 y) λ e=>by rw[List.mem_singleton.1 e]; exact h2).av [1,0,2])
 ·obtain rfl:l.length=k:=by omega
  rw[List.take_length] at he;exact cF (dF hlt) ⟨l',_,_,he,rfl,s1.av [0,1] |>.pair⟩
structure Ck where
 s:Se
 o:Po
 cl:List Rn
 p:I6
 ask:List I6
 bd:List Bool
 dp:List Bool
 ov:Bool
 ka:Option Addr
 kc:Nat
 xa:Option Addr
 xc:Nat
 ya:Option Addr
 yc:Nat
 za:Option Addr
 zc:Nat
def Ck.cells(C:Ck):List Value:=(.slice C.s.a1 C.s.ps.length C.s.c1) :: ((.slice C.s.a2 C.s.bd.length C.s.c2) :: ((.slice C.s.a3 C.s.cp.length C.s.c3) :: ((.slice C.s.a4 C.s.sa.length C.s.c4) :: ((iv C.o.step) :: ((iv C.o.pct) :: ((iv C.o.und) :: ((iv C.o.rule) :: ((.slice C.ka C.cl.length C.kc) :: (C.p.on [.slice C.xa C.ask.length C.xc,.slice C.ya C.bd.length C.yc,.slice C.za C.dp.length C.zc,.bool C.ov])))))))))
theorem Ck.one(C:Ck):∀ v∈C.cells,v.oneCell' = true:=by
 intro v hv; simp[Ck.cells,I6.on] at hv;rcases hv with rfl|rfl|rfl|rfl|rfl|rfl|rfl|rfl|rfl|rfl|rfl|rfl|rfl|rfl|rfl|rfl|rfl|rfl|rfl<;>rfl
def Ck.er(C:Ck):Ck:={ C with s:=C.s.er,cl:=C.cl.map Rn.er,ka:=none,kc:=0,xa:=none,xc:=0,ya:=none,yc:=0,za:=none,zc:=0 }
structure Qn (S:Se) (cl:List Rn) (w:World):Prop where
 s:S.In w
 cl:cH cl w
abbrev Ck.In (C:Ck):World->Prop:=Qn C.s C.cl
theorem Qn.au{S:Se}{cl:List Rn}{w w' : World}(h:Qn S cl w)(hc:ay w w' []):Qn S cl w':=⟨h.s.au hc,λ x hx=>(h.cl x hx).au hc⟩
structure Ck.Rd (b:Nat) (C:Ck) (w:World):Prop where
 me:af w ⟨b,0,none⟩ 0 C.cells
 ask:cG 6 I6.vs w C.xa C.ask
 bd:cG 1 bl w C.ya C.bd
 dp:cG 1 bl w C.za C.dp
 cl:cG 9 Rn.cells w C.ka C.cl
 i:C.In w
theorem Ck.Rd.au{b:Nat}{C:Ck}{w w' : World}(h:C.Rd b w)(hc:ay w w' []):C.Rd b w':=⟨bu hc h.me,h.ask.au hc,h.bd.au hc,h.dp.au hc,h.cl.au hc,h.i.au hc⟩
def bM(b:Nat)(C:Ck):List aC:=[ai b C.cells.toArray 106,vl C.xa C.xc C.ask,Jy C.ya C.yc C.bd,Jy C.za C.zc C.dp,Az C.ka C.kc C.cl,held C.In]
theorem Nj{r:Nat}{cs:Array Value}{T:TypeId}:gQ (ai r cs T) λ w=>af w ⟨r,0,none⟩ 0 cs.toList:=λ w F h=>by
 have s:St w w (Sep []):=St.start w;obtain⟨h1,rfl⟩:=h;refine br _ 0 λ j v hj=>?_;rw[sy,Nat.zero_add];simp only[World.cell?,h1];simpa using hj
theorem mV{b:Nat}{C:Ck}:gQ (Sep (bM b C)) (C.Rd b) :=
 gQ.mono (Nj.cons ((bB cC).cons ((bB iH).cons ((bB iH).cons ((bB Rn.len).cons ((aZ _).cons gQ.nil)))))) λ _ ⟨h1,h2,h3,h4,h5,h6,_⟩=>⟨h1,h2,h3,h4,h5,h6⟩
structure Ck.Ok (C:Ck):Prop where
 s:C.s.Ok
 o:C.o.ok
 cl:C.cl.length<=30
 cz:∀ x∈C.cl,x.Sz C.s.bd.length
 cp:∀ x∈C.cl,dJ x.p=true
 ca:∀ x∈C.cl,∀ u∈x.ask,I6.Le u 4
 cg:∀ x∈C.cl,∀ u∈x.got,I6.Le u 4
 p:dJ C.p=true
 ask:C.ask.length=C.s.bd.length
 bd:C.bd.length=C.s.bd.length
 dp:C.dp.length=C.s.bd.length
 asked:∀ u∈C.ask,I6.Le u 4
section
variable {b:Nat} {C:Ck} {w:World}
theorem Ck.Rd.cell(h:C.Rd b w)(j:Nat){v:Value}(e:C.cells[j]?=some v):w.cell? ⟨b,j,none⟩=some v:=by
 have:=aS h.me j v e
 rwa [Nat.zero_add,sy] at this
theorem Ck.Rd.aF(h:C.Rd b w)(j:Nat){vs:List Value}(hv:(C.cells.drop j).take vs.length=vs):af w ⟨b,j,none⟩ 0 vs :=
 br _ 0 λ k v hk=>by
  have hl:k<vs.length:=(List.getElem?_eq_some_iff.1 hk).1;have ha:(⟨b,j,none⟩:Addr).add (0+k)=⟨b,j+k,none⟩:=by unfold Addr.add; split<;>simp_all
  have h2:((C.cells.drop j).take vs.length)[k]?=vs[k]?:=by rw[hv]
  rw[List.getElem?_take,if_pos hl,List.getElem?_drop,hk] at h2;rw[ha]; exact h.cell _ h2
theorem FH(h:C.Rd b w)(n:Int):CP 97 #[.pointer (some ⟨b,0,none⟩),iv n] w (λ r w'=>r=.bool (decide (0<=n)&&decide (n<(C.dp.length:Int)))/\w' = w):=by
 refine rC ?_;unfold mX
 by_cases g:n>=0
 ·exact cT (dT g) ⟨_,_,_,h.cell 17 rfl,by rw[dT g]; rfl,rfl⟩
 ·exact cF (dF g) ⟨by rw[dF (by omega)]; rfl,rfl⟩
theorem Lb(h:C.Rd b w):CP 23 #[.pointer (some ⟨b,0,none⟩)] w (λ r w'=>r=iv C.cl.length/\w' = w):=by
 refine ot ?_;unfold jE;exact⟨_,_,_,h.cell 8 rfl,rfl,rfl⟩
theorem kS(h:C.Rd b w):CP 14 #[.pointer (some ⟨b,0,none⟩)] w (λ r w'=>r=.agg C.p.vs.toArray/\ay w w' []):=by
 refine nF ?_;unfold iK;refine(St.start w).one.ax z6.vs.toArray λ r1 w1 s1=>⟨C.p,(h.au s1.au).aF 9 rfl,s1.az 0 rfl C.p.vs rfl C.p.one λ w2 s2=>⟨C.p,s2.cellsIn 0 rfl,rfl,s2.au⟩⟩
theorem uS(h:C.Rd b w)(hk:C.Ok):CP 26 #[.pointer (some ⟨b,0,none⟩)] w (λ r w'=>∃ l' a' c',l'.map Rn.er=C.cl.map Rn.er/\r=.slice a' l'.length c'/\St w w' (star (Az a' c' l') (held (cH l')))):=by
 refine nG ?_;unfold iL;refine⟨_,_,_,h.cell 8 rfl,ak (QO h.cl h.i.cl hk.cz (by have:=hk.s.bd.l2; omega) (by have:=hk.cl; omega)) ?_⟩;rintro v w1 ⟨l',a',c',e,rfl,s⟩;exact⟨_,_,_,rfl,l',a',c',e,rfl,s⟩
def mc(C:Ck)(n:Nat):List Ch:=C.cl.map λ x=>⟨x.p,x.ask.getD n z6⟩
theorem AR(h:C.Rd b w)(hk:C.Ok){n:Nat}(hn:n<C.s.bd.length):CP 51 #[.pointer (some ⟨b,0,none⟩),iv n] w (λ r w'=>∃ a' c',r=.slice a' (mc C n).length c'/\St w w' (bR 114 12 Ch.cells a' c' (mc C n))):=by
 refine mg ?_;unfold gX;have hd:=hk.dp; have hl:=hk.cl;refine⟨λ b w1=>b=false/\w1=w,?_,ak (FH h n) ?_⟩
 ·rintro w1 b ⟨rfl,rfl⟩ -;refine cF rfl ⟨_,_,_,h.cell 8 rfl,λ a2 l2 c2 n2 w2 m=>∃ k:Nat,n2=k/\k<=C.cl.length/\m=C.cl.length-k/\l2=((mc C n).take k).length/\St w1 w2 (star (bR 114 12 Ch.cells a2 c2 ((mc C n).take k)) emp),⟨C.cl.length,0,rfl,by omega,by omega,rfl,(St.start w1).dP⟩,?_⟩;rintro w2 m a2 l2 c2 n2 ⟨k,rfl,hk1,hm,rfl,s2⟩ -
  by_cases hlt:(k:Int)<(C.cl.length:Int)
  ·have hx:C.cl[k]?=some (C.cl[k]'(by omega)):=gE (by omega);generalize C.cl[k]'(by omega)=x at hx;have hm:=List.mem_of_getElem? hx;have za:=(hk.cz x hm).ask;obtain⟨q,hq,hcl⟩:=(h.cl.au s2.au).at hx;refine cT (dT hlt) (aj hq ⟨by omega,by omega,x.p,_,_,_,_,_,_,_,_,_,hcl,s2.ax (l:=[_]) Sn.cells.toArray λ r1 w3 s3=>s3.az 0 rfl x.cells rfl x.one λ w4 s4=>?_⟩);have s5:=s4.quiet (ay.drew w4 []);have hu:x.ask[n]?=some (x.ask.getD n z6):=by rw[List.getD_eq_getElem?_getD,gE (by omega)]; rfl
   obtain⟨q2,hq2,hcl2⟩:=((h.i.cl x hm).au s5.au).ask.at hu;refine⟨x.p,s5.aF 0 0 rfl rfl,_,_,_,s5.ag 0 rfl 6,aj hq2 ⟨by omega,by omega,_,hcl2,?_⟩⟩;have hch:(mc C n)[k]?=some ⟨x.p,x.ask.getD n z6⟩:=by simp[mc,hx]
   have hlen:((mc C n).take k).length=k:=by simp[mc]; omega
   refine ob Tw Ch.len (x:=⟨x.p,x.ask.getD n z6⟩) (Ch.one _) (s5.out 1 rfl) (by omega) (by omega) (λ a' c' w5 s6=>?_) rfl;refine⟨C.cl.length-(k+1),by omega,k+1,aB ⟨by omega,by omega⟩,by omega,rfl,?_,?_⟩
   ·rw[aG hch]
   ·rw[aG hch]; exact s6.first.one
  ·obtain rfl:C.cl.length=k:=by omega
   rw[List.take_of_length_le (by simp[mc])] at s2 ⊢;exact cF (dF hlt) ⟨_,_,rfl,s2.first⟩
 ·rintro r w1 ⟨rfl,rfl⟩;exact⟨_,rfl,by simp; omega,rfl⟩
end
section
variable {b:Nat} {C:Ck} {w:World}
theorem Km(h:C.Rd b w)(hk:C.Ok):CP 33 #[.pointer (some ⟨b,0,none⟩)] w (λ r w'=>∃ g C',C'.er=C.er/\r=.pointer (some ⟨g,0,none⟩)/\St w w' (Sep (bM g C'))):=by
 refine qm ?_;unfold kF;have z:=hk.s.bd.l2; have z1:=hk.ask; have z2:=hk.bd; have z3:=hk.dp;refine⟨_,_,_,_,_,_,_,_,_,_,_,_,_,_,_,_,_,_,_,C.p,_,_,_,_,_,_,_,_,_,_,h.me,(St.start w).one.ax ⟨[.slice none 0 0,.slice none 0 0,.slice none 0 0,.slice none 0 0,iv 0,iv 0,iv 0,iv 0,.slice none 0 0,iv 0,iv 0,iv 0,iv 0,iv 0,iv 0,.slice none 0 0,.slice none 0 0,.slice none 0 0,.bool false]⟩ λ r1 w1 s1=>s1.az 0 rfl C.cells rfl C.one λ w2 s2=>?_⟩;refine⟨_,_,_,_,_,_,_,_,_,_,_,_,(h.au s2.au).aF 0 rfl,ak (yx (h.au s2.au).i.s hk.s.sz) ?_⟩;rintro v w3 ⟨S',eS,rfl,k3⟩;have s3:St w w3 (Sep [_,_,_]):=s2.and k3;refine⟨_,_,_,_,_,_,_,_,_,_,_,_,rfl,ak (uS (h.au s3.au) hk) ?_⟩;rintro v w4 ⟨l',a4,c4,e4,rfl,k4⟩;have s4:St w w4 (Sep [_,_,_,_,_]):=(s3.and k4).assoc;refine⟨_,_,_,rfl,s4.pE 3 0 rfl ({ C with s:=S' }:Ck).cells.toArray (show 4<=19 by decide) (by simp[Value.oneCell']) rfl λ w5 s5=>s5.aK 3 rfl (j:=8) (show 8<19 by decide) rfl λ w6 s6=>?_⟩;have s7:=s6.quiet (ay.drew w6 []);have h7:=h.au s7.au;refine⟨_,_,_,h7.cell 15 rfl,_,_,_,h7.cell 16 rfl,_,_,_,h7.cell 17 rfl,ak (kO h7.ask (by omega)) ?_⟩;rintro v w8 ⟨g1,rfl,k8⟩;have s8:St w w8 (Sep [_,_,_,_,_,_]):=s7.and k8;have h8:=h.au s8.au;refine⟨_,_,_,rfl,h8.cell 17 rfl,h8.cell 16 rfl,ak (uJ h8.bd (by omega)) ?_⟩;rintro v w9 ⟨g2,rfl,k9⟩;have s9:St w w9 (Sep [_,_,_,_,_,_,_]):=s8.and k9;have h9:=h.au s9.au;refine⟨_,_,_,rfl,h9.cell 17 rfl,ak (uJ h9.dp (by omega)) ?_⟩;rintro v w10 ⟨g3,rfl,k10⟩;have s10:St w w10 (Sep [_,_,_,_,_,_,_,_]):=s9.and k10;refine⟨_,_,_,rfl,s10.aK 6 rfl (j:=15) (show 15<19 by decide) rfl λ w11 s11=>s11.aK 6 rfl (j:=16) (show 16<19 by decide) rfl λ w12 s12=>s12.aK 6 rfl (j:=17) (show 17<19 by decide) rfl λ w13 s13=>?_⟩;let C' : Ck:={ C with s:=S',cl:=l',ka:=a4,kc:=c4,xa:=some ⟨g1,0,none⟩,xc:=C.ask.length,ya:=some ⟨g2,0,none⟩,yc:=C.bd.length,za:=some ⟨g3,0,none⟩,zc:=C.dp.length };refine⟨r1,C',?_,rfl,?_⟩
 ·simp only[Ck.er,C',eS,e4]
 ·have s14:St w w13 (Sep [Jy (some ⟨g3,0,none⟩) C.dp.length C.dp,Jy (some ⟨g2,0,none⟩) C.bd.length C.bd,vl (some ⟨g1,0,none⟩) C.ask.length C.ask,Az a4 c4 l',held (cH l'),held S'.In,ai r1 C'.cells.toArray 106,emp]):=s13;exact((s14.av [5,4,6,2,1,0,3]).qQ (aZ _) (aZ _) λ _ h1 h2=>(⟨h1,h2⟩:C'.In _)).av [1,2,3,4,5,0]
end
section
variable {b:Nat} {C:Ck} {w0 w:World} {B:aC}
def fo(C:Ck):Ck:={ C with ask:=List.replicate C.dp.length z6,bd:=List.replicate C.dp.length false }
theorem BZ(s:St w0 w (Sep [ai b C.cells.toArray 106,Jy C.za C.zc C.dp,B]))(hd:C.dp.length<=100) :
  CP 60 #[.pointer (some ⟨b,0,none⟩)] w (λ r w'=>∃ xa xc ya yc,r=.tuple #[]/\St w0 w' (Sep [ai b ({ fo C with xa:=xa,xc:=xc,ya:=ya,yc:=yc }:Ck).cells.toArray 106,vl xa xc (fo C).ask,Jy ya yc (fo C).bd,Jy C.za C.zc C.dp,B])):=by
 refine ou ?_;unfold jF;have s1:=s.quiet (ay.drew w []);have e1:(fo C).ask.length=C.dp.length:=by simp[fo]
 have e2:(fo C).bd.length=C.dp.length:=by simp[fo]
 have fin:∀ {g1 g2:Nat},(((C.cells.toArray.setIfInBounds 15 (.slice (some ⟨g1,0,none⟩) C.dp.length C.dp.length)).setIfInBounds 16 (.slice (some ⟨g2,0,none⟩) C.dp.length C.dp.length))=({ fo C with xa:=some ⟨g1,0,none⟩,xc:=C.dp.length,ya:=some ⟨g2,0,none⟩,yc:=C.dp.length }:Ck).cells.toArray):=by
  intro g1 g2;show _=(Ck.cells _).toArray;simp only[Ck.cells];rw[e1,e2]; rfl
 refine⟨_,_,_,s1.ag 0 rfl 17,_,_,_,s1.ag 0 rfl 17,⟨?_,?_⟩⟩
 ·refine cV (x:=z6) Mi cC rfl s1 (n:=C.dp.length) (by omega) (by omega) λ g1 w1 c1 s2=>⟨St.ag (l:=[_,_,_,_]) s2 1 rfl 17,⟨?_,?_⟩⟩
  ·refine cV (x:=false) Gx iH rfl s2 (n:=C.dp.length) (by omega) (by omega) λ g2 w2 c2 s3=>?_;refine St.aK (l:=[_,_,_,_,_]) s3 2 rfl (j:=15) (show 15<19 by decide) rfl λ w3 s4=>s4.aK 2 rfl (j:=16) (show 16<19 by decide) rfl λ w4 s5=>⟨some ⟨g1,0,none⟩,C.dp.length,some ⟨g2,0,none⟩,C.dp.length,rfl,?_⟩;rw[<- fin]; exact s5.av [2,1,0,3,4]
  ·refine St.aK (l:=[_,_,_,_]) s2 1 rfl (j:=15) (show 15<19 by decide) rfl λ w3 s4=>?_;refine cV (x:=false) Gx iH rfl s4 (n:=C.dp.length) (by omega) (by omega) λ g2 w2 c2 s3=>St.aK (l:=[_,_,_,_,_]) s3 2 rfl (j:=16) (show 16<19 by decide) rfl λ w4 s5=>⟨some ⟨g1,0,none⟩,C.dp.length,some ⟨g2,0,none⟩,C.dp.length,rfl,?_⟩;rw[<- fin]; exact s5.av [2,1,0,3,4]
 ·refine cV (x:=false) Gx iH rfl s1 (n:=C.dp.length) (by omega) (by omega) λ g1 w1 c1 s2=>⟨St.ag (l:=[_,_,_,_]) s2 1 rfl 17,?_⟩;refine cV (x:=z6) Mi cC rfl s2 (n:=C.dp.length) (by omega) (by omega) λ g2 w2 c2 s3=>?_;refine St.aK (l:=[_,_,_,_,_]) s3 2 rfl (j:=15) (show 15<19 by decide) rfl λ w3 s4=>s4.aK 2 rfl (j:=16) (show 16<19 by decide) rfl λ w4 s5=>⟨some ⟨g2,0,none⟩,C.dp.length,some ⟨g1,0,none⟩,C.dp.length,rfl,?_⟩;rw[<- fin]; exact s5.av [2,0,1,3,4]
end
theorem Qr{p:I6}{q:Int->Bool}(h:∀ k,k<6->q (p.at' k)=true):p.l.all q=true:=by
 have h0:=h 0 (by decide); have h1:=h 1 (by decide); have h2:=h 2 (by decide); have h3:=h 3 (by decide); have h4:=h 4 (by decide); have h5:=h 5 (by decide);show([p.at' 0,p.at' 1,p.at' 2,p.at' 3,p.at' 4,p.at' 5]:List Int).all q=true;simp[h0,h1,h2,h3,h4,h5]
def eW(S:Se)(o:Po):Ck:={ s:=S,o:=o,cl:=[],p:=jg S.ps,ask:=List.replicate S.bd.length z6,bd:=List.replicate S.bd.length false,dp:=List.replicate S.bd.length false,ov:=false,ka:=none,kc:=0,xa:=none,xc:=0,ya:=none,yc:=0,za:=none,zc:=0 }
theorem Ox{S:Se}{o:Po}(hs:S.Ok)(ho:o.ok):(eW S o).Ok:=by
 refine⟨hs,ho,by simp[eW],by simp[eW],by simp[eW],by simp[eW],by simp[eW],?_,by simp[eW],by simp[eW],by simp[eW],?_⟩
 ·refine Qr λ k hk=>?_;show jq ((jg S.ps).at' k)=true;rw[vv _ k hk,List.getD_eq_getElem?_getD,List.getElem?_map]
  cases hx:S.ps[k]? with
  | none=>rfl
  | some x =>
   have h1:=(hs.ps.good k x hx).1;simp only[tJ,Gq,Bool.and_eq_true,decide_eq_true_eq] at h1;show jq x.res=true;simp only[jq,Bool.and_eq_true,decide_eq_true_eq];exact h1.2.2.1
 ·intro u hu;rw[List.eq_of_mem_replicate hu];intro k hk; match k,hk with
  | 0,_|1,_|2,_|3,_|4,_|5,_=>exact⟨by decide,by decide⟩
theorem P9{w:World}{S:Se}{o:Po}(h:S.In w)(hs:S.Ok)(ho:o.ok) :
  CP 27 #[.agg S.arr,o.v] w (λ r w'=>∃ g C',C'.er=(eW S o).er/\r=.tuple #[.pointer (some ⟨g,0,none⟩),iv 0]/\St w w' (Sep (bM g C'))):=by
 refine sQ ?_;unfold uG;have z:=hs.bd.l2;refine(St.start w).one.ax S.arr λ r1 w1 s1=>s1.ax o.cells.toArray λ r2 w2 s2=>⟨_,_,_,_,_,_,_,_,_,_,_,_,s2.cellsIn 1 rfl,ak (ER (h.au s2.au)) ?_⟩;rintro v w3 ⟨⟨e,rfl,he⟩,c3⟩;obtain rfl:=he.2 hs;have s3:=s2.quiet c3;refine⟨_,rfl,cF rfl ⟨_,_,_,_,s3.cellsIn 0 rfl,ak (p9 w3 o) ?_⟩⟩;rintro v w4 ⟨rfl,c4⟩;have s4:=(s3.quiet c4).quiet (ay.drew w4 []);refine⟨_,rfl,cF (by rw[gH,if_pos ho]; rfl) ?_⟩;have hl:∀ {w'},ay w w' []->S.In w':=λ hc=>h.au hc;let C0 (S' : Se) (g2:Nat):Ck:={ eW S o with s:=S',ask:=[],bd:=[],za:=some ⟨g2,0,none⟩,zc:=S.bd.length };have eC:∀ (S' : Se) (g2:Nat),(C0 S' g2).cells.toArray=((.slice S'.a1 S'.ps.length S'.c1) :: ((.slice S'.a2 S'.bd.length S'.c2) :: ((.slice S'.a3 S'.cp.length S'.c3) :: ((.slice S'.a4 S'.sa.length S'.c4) :: ((iv o.step) :: ((iv o.pct) :: ((iv o.und) :: ((iv o.rule) :: ((.slice none 0 0) :: ((jg S.ps).on [.slice none 0 0,.slice none 0 0,.slice (some ⟨g2,0,none⟩) S.bd.length S.bd.length,.bool false]))))))))):List Value).toArray:=by
  intro S' g2; simp only[C0,eW,Ck.cells,List.length_replicate,List.length_nil]
 have fin:∀ {S' : Se} {g g2:Nat} {w' : World},S'.er=S.er->St w w' (Sep [ai g (C0 S' g2).cells.toArray 106,Jy (some ⟨g2,0,none⟩) S.bd.length (List.replicate S.bd.length false),held S'.In]) ->
   CC 60 #[.pointer (some ⟨g,0,none⟩)] w' (xV λ r w''=>r=.tuple #[]/\∃ C',C'.er=(eW S o).er/\St w w'' (Sep (bM g C'))):=by
  intro S' g g2 w' eS s;refine ak (BZ (C:=C0 S' g2) s (by simp[C0,eW]; omega)) ?_;rintro r w1 ⟨xa,xc,ya,yc,rfl,s1⟩;refine⟨_,rfl,rfl,{ fo (C0 S' g2) with xa:=xa,xc:=xc,ya:=ya,yc:=yc },?_,?_⟩
  ·simp only[C0,fo,eW,Ck.er,eS,List.length_replicate]
  ·have s2:St w w1 (Sep [_,_,_,_,_,_]):=s1.dP (e:=76) (sz:=9) (f:=Rn.cells);have s3:=((s2.av [5,1,2,3,4,0]).D0 ((aZ _).mono λ w h=>(⟨h,λ x hx=>by simp[C0,fo,eW] at hx⟩:({ fo (C0 S' g2) with xa:=xa,xc:=xc,ya:=ya,yc:=yc }:Ck).In w)));exact s3.av [1,2,3,4,5,0]
 refine⟨λ p w5=>∃ (S' : Se) (g g2:Nat),p=some ⟨g,0,none⟩/\S'.er=S.er/\St w w5 (Sep [ai g (C0 S' g2).cells.toArray 106,Jy (some ⟨g2,0,none⟩) S.bd.length (List.replicate S.bd.length false),held S'.In]),?_,?_⟩
 ·rintro w5 p ⟨S',g,g2,rfl,eS,s5⟩ -;refine ak (fin eS s5) ?_;rintro r w6 ⟨rfl,C',e,s6⟩;exact⟨rfl,g,C',e,rfl,s6⟩
 refine⟨_,_,_,_,_,_,_,_,_,_,_,_,s4.cellsIn 1 rfl,_,_,_,_,s4.cellsIn 0 rfl,_,_,_,s4.ag 1 rfl 0,_,_,_,s4.ag 1 rfl 1,⟨?_,?_⟩⟩
 ·refine ak (yx (hl s4.au) hs.sz) ?_;rintro v w7 ⟨S',eS,rfl,k7⟩;have s7:St w w7 (Sep [_,_,_,_]):=s4.and k7;refine⟨_,_,_,_,_,_,_,_,_,_,_,_,rfl,s7.ag 2 rfl 1,s7.ag 2 rfl 0,s7.cellsIn 1 rfl,⟨?_,?_⟩⟩
  ·refine ak (C3 (hl s7.au).ps hs.ps.l2 h.h1) ?_;rintro v w8 ⟨rfl,c8⟩;have s8:=s7.quiet c8;refine⟨_,rfl,s8.ag 2 rfl 1,s8.cellsIn 1 rfl,cV (x:=false) Gx iH rfl s8 (n:=S.bd.length) (by omega) (by omega) λ g2 w9 c9 s9=>?_⟩;refine⟨St.cellsIn (l:=[_,_,_,_,_]) s9 2 rfl,St.ax (l:=[_,_,_,_,_]) s9 _ λ r3 w10 s10=>⟨S',r3,g2,rfl,eS,by rw[eC]; exact s10.av [0,1,2]⟩⟩
  ·refine cV (x:=false) Gx iH rfl s7 (n:=S.bd.length) (by omega) (by omega) λ g2 w9 c9 s9=>?_;have s9:St w w9 (Sep [_,_,_,_,_]):=s9;refine⟨s9.ag 3 rfl 0,s9.cellsIn 2 rfl,ak (C3 (hl s9.au).ps hs.ps.l2 h.h1) ?_⟩;rintro v w8 ⟨rfl,c8⟩;have s8:=s9.quiet c8;exact⟨_,rfl,s8.cellsIn 2 rfl,s8.ax _ λ r3 w10 s10=>⟨S',r3,g2,rfl,eS,by rw[eC]; exact s10.av [0,1,2]⟩⟩
 ·refine cV (x:=false) Gx iH rfl s4 (n:=S.bd.length) (by omega) (by omega) λ g2 w9 c9 s9=>?_;have s9:St w w9 (Sep [_,_,_,_]):=s9;refine⟨s9.ag 2 rfl 0,s9.cellsIn 1 rfl,s9.cellsIn 2 rfl,ak (yx (hl s9.au) hs.sz) ?_⟩;rintro v w7 ⟨S',eS,rfl,k7⟩;have s7:St w w7 (Sep [_,_,_,_,_]):=s9.and k7;refine⟨_,_,_,_,_,_,_,_,_,_,_,_,rfl,s7.ag 3 rfl 0,s7.cellsIn 2 rfl,ak (C3 (hl s7.au).ps hs.ps.l2 h.h1) ?_⟩;rintro v w8 ⟨rfl,c8⟩;have s8:=s7.quiet c8;exact⟨_,rfl,s8.cellsIn 2 rfl,s8.ax _ λ r3 w10 s10=>⟨S',r3,g2,rfl,eS,by rw[eC]; exact s10.av [0,2,1]⟩⟩
section
variable {b:Nat} {C:Ck} {w0 w:World} {B:aC}
theorem DI(s:St w0 w (Sep (bM b C++[B])))(hk:C.Ok) :
  CP 60 #[.pointer (some ⟨b,0,none⟩)] w (λ r w'=>∃ xa xc ya yc,r=.tuple #[]/\St w0 w' (Sep (bM b { fo C with xa:=xa,xc:=xc,ya:=ya,yc:=yc }++[B]))):=by
 have z:=hk.s.bd.l2; have z1:=hk.dp;refine ak (BZ (C:=C) (s.av [0,3,4,5,6]).Qh (by omega)) ?_;rintro r w1 ⟨xa,xc,ya,yc,rfl,s1⟩;exact⟨_,rfl,xa,xc,ya,yc,rfl,s1.dw [_,_,_,_]⟩
def ud(C:Ck):Ck:={ fo C with ov:=true }
theorem R4(s:St w0 w (Sep (bM b C++[B])))(hk:C.Ok) :
  CP 110 #[.pointer (some ⟨b,0,none⟩)] w (λ r w'=>(C.ov=true/\r=iv 10/\St w0 w' (Sep (bM b C++[B])))\/(C.ov=false/\r=iv 0/\∃ C',C'.er=(ud C).er/\St w0 w' (Sep (bM b C'++[B])))):=by
 refine qs ?_;unfold kI;refine⟨_,s.ag 0 rfl 18,?_⟩
 cases ho:C.ov with
 | true=>exact cT rfl (.inl ⟨rfl,rfl,s⟩)
 | false =>
  refine cF rfl (ak (DI s hk) ?_);rintro r w1 ⟨xa,xc,ya,yc,rfl,s1⟩;exact⟨rfl,s1.aK 0 rfl (j:=18) (show 18<19 by decide) rfl λ w2 s2=>.inr ⟨rfl,rfl,{ ud C with xa:=xa,xc:=xc,ya:=ya,yc:=yc },rfl,s2⟩⟩
def jK(C:Ck)(n:Nat):Ck:={ C with dp:=C.dp.set n true,ask:=C.ask.set n z6,bd:=C.bd.set n false }
theorem QN(s:St w0 w (Sep (bM b C++[B])))(hk:C.Ok){n:Nat}(hn:n<C.s.bd.length) :
  CP 113 #[.pointer (some ⟨b,0,none⟩),iv n] w (λ r w'=>(C.dp[n]?=some true/\r=iv 10/\St w0 w' (Sep (bM b C++[B])))\/(C.dp[n]?=some false/\r=iv 0/\St w0 w' (Sep (bM b (jK C n)++[B])))):=by
 refine qo ?_;unfold kG;have z:=hk.s.bd.l2; have z1:=hk.dp; have z2:=hk.ask; have z3:=hk.bd;have rd:=(s.split (bM b C)).first.imp mV;refine⟨λ b w1=>b=false/\w1=w,?_,ak (FH rd n) ?_⟩
 ·rintro w1 _ ⟨rfl,rfl⟩ -;have hx:C.dp[n]?=some (C.dp[n]'(by omega)):=gE (by omega);generalize C.dp[n]'(by omega)=x at hx;obtain⟨q,hq,hcl⟩:=rd.dp.at hx;refine cF rfl ⟨_,_,_,rd.cell 17 rfl,aj hq ⟨by omega,by omega,x,hcl.1,?_⟩⟩
  cases x with
  | true=>exact cT rfl (.inl ⟨hx,rfl,s⟩)
  | false =>
   have s1:=s.quiet (ay.drew w1 []);obtain⟨g1,e1⟩:=(s1.out 3 rfl).vj (by omega);obtain⟨g2,e2⟩:=(s1.out 1 rfl).vj (by omega);obtain⟨g3,e3⟩:=(s1.out 2 rfl).vj (by omega);refine cF rfl ⟨_,_,_,s1.ag 0 rfl 17,_,_,_,s1.ag 0 rfl 15,_,_,_,s1.ag 0 rfl 16,aj e1 ⟨by omega,by omega,?_⟩⟩;rw[Int.toNat_natCast];have t1:=s1.out 3 rfl;rw[e1] at t1;refine St.jf (v:=.bool) (x:=true) rfl t1 (i:=n) (by omega) λ w2 s2=>aj e2 ⟨by omega,by omega,?_⟩;have s2:=s2.back (l:=bM b C++[B]) (i:=3) (show 3<7 by decide);have t2:=s2.out 1 rfl;rw[e2] at t2;refine St.EV cC (x:=z6) z6.one t2 (i:=n) (by omega) λ w3 s3=>aj e3 ⟨by omega,by omega,?_⟩;have t3:=(s3.back (show 1<7 by decide)).out 2 rfl;rw[e3] at t3;refine St.jf (v:=.bool) (x:=false) rfl t3 (i:=n) (by omega) λ w4 s4=>.inr ⟨hx,rfl,?_⟩;have s5:=s4.back (show 2<7 by decide);rw[<- e1,<- e2,<- e3] at s5;have eC:(jK C n).cells=C.cells:=by simp[jK,Ck.cells]
   show St w0 w4 (Sep [ai b (jK C n).cells.toArray 106,_,_,_,_,_,B]);rw[eC]; exact s5
 ·rintro r w1 ⟨rfl,rfl⟩;exact⟨_,rfl,by simp; omega,rfl⟩
def dV(C:Ck)(r:Nat):Ck:=match C.cl[r]? with
 | some x=>{ fo C with p:=x.p,cl:=C.cl.take r,ov:=false }
 | none=>{ fo C with ov:=false }
def bU(C:Ck)(r:Int):Bool:=decide (r<0)||decide (r>(C.cl.length:Int))||(r==(C.cl.length:Int)&&C.ov)
theorem O3(s:St w0 w (Sep (bM b C++[B])))(hk:C.Ok)(r:Int) :
  CP 114 #[.pointer (some ⟨b,0,none⟩),iv r] w (λ v w'=>(bU C r=true/\v=iv 4/\St w0 w' (Sep (bM b C++[B])))\/(bU C r=false/\v=iv 0/\∃ C',C'.er=(dV C r.toNat).er/\St w0 w' (Sep (bM b C'++[B])))):=by
 refine oq ?_;unfold jD;have hl:=hk.cl;refine⟨λ x w1=>x=bU C r/\w1=w,?_,?_⟩
 ·rintro w1 _ ⟨rfl,rfl⟩ -
  cases he:bU C r with
  | true=>exact cT rfl (.inl ⟨rfl,rfl,s⟩)
  | false =>
   have h0:0<=r/\r<=(C.cl.length:Int):=by
    simp only[bU,Bool.or_eq_false_iff,decide_eq_false_iff_not] at he; omega
   obtain⟨n,rfl⟩:=Int.eq_ofNat_of_zero_le h0.1;refine cF rfl (ak (DI s hk) ?_);rintro v w2 ⟨xa,xc,ya,yc,rfl,s2⟩;refine⟨rfl,λ w3=>∃ C' : Ck,({ C' with ov:=false }:Ck).er=(dV C n).er/\St w0 w3 (Sep (bM b C'++[B])),?_,?_⟩
   ·rintro w3 ⟨C',e,s3⟩ -;exact s3.aK 0 rfl (j:=18) (show 18<19 by decide) rfl λ w4 s4=>.inr ⟨rfl,rfl,{ C' with ov:=false },e,s4⟩
   refine⟨_,_,_,s2.ag 0 rfl 8,?_⟩
   by_cases hlt:(n:Int)<(C.cl.length:Int)
   ·have hx:C.cl[n]?=some (C.cl[n]'(by omega)):=gE (by omega);generalize C.cl[n]'(by omega)=x at hx;have rd:=(s2.split (bM b _)).first.imp mV;obtain⟨q,hq,hcl⟩:=rd.cl.at hx;refine cT (dT hlt) ⟨_,_,_,s2.ag 0 rfl 8,aj hq ⟨by omega,hlt,x.p,?_,?_⟩⟩
    ·rw[Int.toNat_natCast];exact DF hcl rfl
    ·refine s2.pE 0 9 rfl ({ fo C with xa:=xa,xc:=xc,ya:=ya,yc:=yc,p:=x.p }:Ck).cells.toArray (show 15<=19 by decide) x.p.one rfl λ w5 s5=>⟨_,_,_,s5.ag 0 rfl 8,by omega,?_,?_⟩
     ·have:C.cl.length<=C.kc:=(St.pz (s5.out 4 rfl)).1;show(n:Int)<=(C.kc:Int);omega
     ·show CC 155 #[.slice (if C.kc=0 then C.ka else Option.map (λ x=>Addr.add x (0*9)) C.ka) (((n:Nat):Int).toNat-0) (C.kc-0)] w5 _;have rd5:cG 9 Rn.cells w5 C.ka C.cl:=St.rd Rn.len (s5.out 4 rfl);have el:(C.cl.take n).length=n:=by rw[List.length_take]; omega
      rw[SN,Int.toNat_natCast,Nat.sub_zero,Nat.sub_zero];have cc:=IC (c:=C.kc) (M4.take rd5 n) (by omega);rw[el] at cc;refine ak cc ?_;rintro v w6 ⟨g,rfl,k6⟩;have s6:St w0 w6 (Sep (_ :: _)):=s5.and k6;refine⟨_,_,_,rfl,s6.aK 1 rfl (j:=8) (show 8<19 by decide) rfl λ w7 s7=>⟨{ fo C with xa:=xa,xc:=xc,ya:=ya,yc:=yc,p:=x.p,cl:=C.cl.take n,ka:=some ⟨g,0,none⟩,kc:=n },by rw[dV,hx]; rfl,?_⟩⟩;have s8:=(s7.av [6,1,2,3,4,0,7]).D0 ((aZ _).mono λ w h=>(⟨h.s,λ y hy=>h.cl y (List.mem_of_mem_take hy)⟩:Qn C.s (C.cl.take n) w));have eC:({ fo C with xa:=xa,xc:=xc,ya:=ya,yc:=yc,p:=x.p,cl:=C.cl.take n,ka:=some ⟨g,0,none⟩,kc:=n }:Ck).cells.toArray=({ fo C with xa:=xa,xc:=xc,ya:=ya,yc:=yc,p:=x.p }:Ck).cells.toArray.setIfInBounds 8 (.slice (some ⟨g,0,none⟩) n n):=by
       simp only[Ck.cells,fo,el]; rfl
      show St w0 w7 (Sep [ai b (Ck.cells _).toArray 106,_,_,_,_,_,_]);rw[eC];exact s8.av [1,2,3,4,5,0,6]
   ·have hn:C.cl[n]?=none:=List.getElem?_eq_none (by omega);exact cF (dF hlt) ⟨_,by rw[dV,hn]; rfl,s2⟩
 ·by_cases g1:r<0
  ·exact cT (dT g1) ⟨by rw[bU,dT g1]; rfl,rfl⟩
  refine cF (dF g1) ⟨_,_,_,s.ag 0 rfl 8,?_⟩
  by_cases g2:r>(C.cl.length:Int)
  ·exact cT (dT g2) ⟨by rw[bU,dT g2]; simp,rfl⟩
  refine cF (dF g2) ⟨_,_,_,s.ag 0 rfl 8,?_⟩
  by_cases g3:r=(C.cl.length:Int)
  ·exact cT (by simpa using g3) ⟨_,s.ag 0 rfl 18,by rw[bU,dF g1,dF g2,g3]; simp,rfl⟩
  ·exact cF (by simpa using g3) ⟨by rw[bU,dF g1,dF g2]; simp; exact λ h=>absurd h g3,rfl⟩
end
section
variable {b:Nat} {C:Ck} {w0 w:World} {B:aC}
def gI(dp:List Bool):Nat->List I6->List I6
 | _,[]=>[]
 | k,u :: l=>(if dp.getD k false then z6 else u) :: gI dp (k+1) l
theorem uZ(dp:List Bool):∀ (l:List I6) (k:Nat),(gI dp k l).length=l.length
 | [],_=>rfl
 | _ :: l,k=>by simp[gI,uZ dp l (k+1)]
theorem Bo(dp:List Bool):∀ (l:List I6) (k i:Nat),(gI dp k l)[i]?=l[i]?.map λ u=>if dp.getD (k+i) false then z6 else u
 | [],_,_=>by simp[gI]
 | u :: l,k,0=>by simp[gI]
 | u :: l,k,i+1=>by
  rw[gI,List.getElem?_cons_succ,List.getElem?_cons_succ,Bo dp l (k+1) i,show k+(i+1)=k+1+i by omega]
def ia(C:Ck):List I6:=gI C.dp 0 ((C.cl.getLast?.map Rn.got).getD [])
theorem F9(h:C.Rd b w)(hk:C.Ok)(hn:0<C.cl.length) :
  CP 103 #[.pointer (some ⟨b,0,none⟩)] w (λ r w'=>∃ g,r=.slice (some ⟨g,0,none⟩) (ia C).length (ia C).length/\St w w' (vl (some ⟨g,0,none⟩) (ia C).length (ia C))):=by
 refine kJ ?_;unfold gj;have hl:=hk.cl; have z:=hk.s.bd.l2; have z1:=hk.dp;have hx:C.cl[C.cl.length-1]?=some (C.cl[C.cl.length-1]'(by omega)):=gE (by omega);generalize C.cl[C.cl.length-1]'(by omega)=x at hx;have hlast:C.cl.getLast? = some x:=by rw[List.getLast?_eq_getElem?]; exact hx
 have hm:=List.mem_of_getElem? hx;have zx:=(hk.cz x hm).got;have d0:ay w w.drew []:=ay.drew w [];have h1:=h.au d0;obtain⟨q,hq,hcl⟩:=h1.cl.at hx;have e1:IntKind.i64.wrap ((C.cl.length:Int)-1)=((C.cl.length-1:Nat):Int):=by rw[aB ⟨by omega,by omega⟩]; omega
 have ep:ia C=gI C.dp 0 x.got:=by rw[ia,hlast]; rfl
 refine⟨_,_,_,h1.cell 8 rfl,_,_,_,h1.cell 8 rfl,aj hq ⟨?_,?_,x.ga,x.got.length,x.gc,?_,?_⟩⟩
 ·rw[e1]; omega
 ·rw[e1]; omega
 ·rw[e1,Int.toNat_natCast];exact aS hcl 7 _ rfl
 refine ak (kO ((h.i.cl x hm).au d0).got (by omega)) ?_;rintro v w1 ⟨g,rfl,k1⟩;have s1:St w w1 (Sep [_]):=(St.start' d0).and k1;have hL:(gI C.dp 0 x.got).length=x.got.length:=uZ _ _ _;let L:Nat->List I6:=rN (gI C.dp 0 x.got) x.got;have Llen:∀ k,k<=x.got.length->(L k).length=x.got.length:=λ k hk=>Ek hL (by omega);refine⟨_,_,_,rfl,_,_,_,(h.au s1.au).cell 17 rfl,λ n w2 m=>∃ k:Nat,n=k/\k<=C.dp.length/\m=C.dp.length-k/\St w w2 (Sep [vl (some ⟨g,0,none⟩) x.got.length (L k)]),⟨C.dp.length,0,rfl,by omega,by omega,?_⟩,?_⟩
 ·rw[show L 0=x.got from Jc]; exact s1.av [0]
 rintro w2 m n ⟨k,rfl,hk1,hm1,s2⟩ -
 by_cases hlt:(k:Int)<(C.dp.length:Int)
 ·have hd:C.dp[k]?=some (C.dp[k]'(by omega)):=gE (by omega);generalize C.dp[k]'(by omega)=y at hd;have hgy:C.dp.getD k false=y:=by rw[List.getD_eq_getElem?_getD,hd]; rfl
  obtain⟨q2,hq2,hcl2⟩:=(h.dp.au s2.au).at hd;have hu:x.got[k]?=some (x.got[k]'(by omega)):=gE (by omega);generalize x.got[k]'(by omega)=u at hu;have hp:(gI C.dp 0 x.got)[k]?=some (if y then z6 else u):=by rw[Bo,hu,Nat.zero_add,hgy]; rfl
  have estep:∀ v,(gI C.dp 0 x.got)[k]?=some v->(L k).set k v=L (k+1):=λ v hv=>Lr hL hv;have esame:y=false->L k=L (k+1):=λ hy=>Jb hL (by omega) (by rw[hp,hu,hy]; rfl);refine cT (dT hlt) ⟨λ w3=>St w w3 (Sep [vl (some ⟨g,0,none⟩) x.got.length (L (k+1))]),λ w3 s3 _=>⟨C.dp.length-(k+1),by omega,k+1,aB ⟨by omega,by omega⟩,by omega,rfl,s3⟩,aj hq2 ⟨by omega,by omega,y,hcl2.1,?_⟩⟩
  cases y with
  | true =>
   refine cT rfl (aj rfl ⟨by omega,by omega,?_⟩);rw[Int.toNat_natCast];refine St.EV cC (x:=z6) z6.one s2 (i:=k) (by rw[Llen k (by omega)]; omega) λ w3 s3=>?_;rw[estep z6 hp] at s3; exact s3
  | false=>exact cF rfl (by rw[<- esame rfl]; exact s2)
 ·obtain rfl:C.dp.length=k:=by omega
  have e2:L C.dp.length=ia C:=by
   show rN _ _ _=_;rw[show C.dp.length=x.got.length by omega,Ja hL,ep]
  have e3:(ia C).length=x.got.length:=by rw[ep,hL]
  rw[e2] at s2;rw[e3];exact cF (dF hlt) ⟨g,rfl,s2.single⟩
end
section
variable {b:Nat} {C:Ck} {w0 w:World} {B:aC}
theorem sup_le{l:List Pr}(h:bZ l):I6.Le (aX l) 4:=JT (by rw[C7]; exact H9 h.good)
theorem su{u:I6}{m n:Int}(h:I6.Le u m)(hn:m<=n):I6.Le u n:=λ k hk=>by have:=h k hk; omega
theorem Im{n:Int}(h:0<=n):I6.Le z6 n:=λ k hk=>by
 match k,hk with
 | 0,_|1,_|2,_|3,_|4,_|5,_=>exact⟨Int.le_refl _,h⟩
theorem ED{dp:List Bool}{n:Int}(hn:0<=n):∀ (l:List I6) (k:Nat),(∀ u∈l,I6.Le u n)->∀ u∈gI dp k l,I6.Le u n
 | [],_,_,u,hu=>by simp[gI] at hu
 | x :: l,k,h,u,hu=>by
  rcases List.mem_cons.1 hu with rfl|hu
  ·split
   ·exact Im hn
   ·exact h x (by simp)
  ·exact ED hn l (k+1) (λ u hu=>h u (by simp[hu])) u hu
theorem HP(hk:C.Ok)(hn:0<C.cl.length):(ia C).length=C.s.bd.length/\∀ u∈ia C,I6.Le u 4:=by
 have hx:C.cl[C.cl.length-1]?=some (C.cl[C.cl.length-1]'(by omega)):=gE (by omega);generalize C.cl[C.cl.length-1]'(by omega)=x at hx;have hlast:C.cl.getLast? = some x:=by rw[List.getLast?_eq_getElem?]; exact hx
 have hm:=List.mem_of_getElem? hx;have ep:ia C=gI C.dp 0 x.got:=by rw[ia,hlast]; rfl
 rw[ep];exact⟨by rw[uZ,(hk.cz x hm).got],ED (by omega) _ _ (hk.cg x hm)⟩
def oK(C:Ck):List I6:=if C.cl.length=0 then C.ask else Uz C.o.und (aX C.s.ps) (ia C) C.ask
theorem KZ(hk:C.Ok):(oK C).length=C.s.bd.length/\∀ u∈oK C,I6.Le u 4:=by
 unfold oK
 split
 ·exact⟨hk.ask,hk.asked⟩
 ·rename_i h;obtain⟨h1,h2⟩:=HP hk (by omega);have:=Da (p:=C.o.und) (sup:=aX C.s.ps) (by omega) h2 hk.asked C.ask.length;exact⟨this.1.trans h1,this.2⟩
def Ff(C:Ck):Rn:=⟨C.p,C.ask,oK C,C.bd,none,0,none,0,none,0⟩
def wK(C:Ck):I6:=tH (gP (oK C)) (aX C.s.ps)
def kr(C:Ck):I6×Int:=tB C.o C.p (wK C)
def bE(C:Ck):Bool:=decide (wK C=z6)||(decide (C.cl.length+1>=30)||(kr C).2 !=0)
def bz(C:Ck):Ck:={ fo C with cl:=C.cl++[Ff C],ov:=bE C,p:=if bE C then C.p else (kr C).1 }
theorem GZ(s:St w0 w (Sep (bM b C++[B])))(hk:C.Ok) :
  CP 62 #[.pointer (some ⟨b,0,none⟩)] w (λ r w'=>(C.ov=true/\r=.tuple #[.bool false,iv 10]/\St w0 w' (Sep (bM b C++[B])))\/(C.ov=false/\r=.tuple #[.bool (bE C),iv 0]/\∃ C',C'.er=(bz C).er/\St w0 w' (Sep (bM b C'++[B])))):=by
 refine om ?_;unfold jC;have hl:=hk.cl; have z:=hk.s.bd.l2; have z1:=hk.ask; have z2:=hk.bd; have z3:=hk.dp;have hg:=KZ hk;have hsup:=sup_le hk.s.ps;refine⟨_,s.ag 0 rfl 18,?_⟩
 cases hov:C.ov with
 | true=>exact cT rfl (.inl ⟨rfl,rfl,s⟩)
 | false =>
 have inC:∀ {w' : World} {L:List aC} {i:Nat},St w0 w' (Sep L)->L[i]?=some (held C.In)->C.In w':=λ s e=>s.cv _ e;refine cF rfl ⟨_,_,_,s.ag 0 rfl 0,ak (lN (inC s (i:=5) rfl).s.ps (by have:=hk.s.ps.l2; omega)) ?_⟩;rintro v w1 ⟨rfl,c1⟩;refine⟨_,rfl,(s.quiet c1).ax z6.vs.toArray λ r1 w2 s2=>s2.az 0 rfl (aX C.s.ps).vs rfl (I6.one _) λ w3 s3=>?_⟩;refine⟨_,_,_,s3.ag 1 rfl 15,ak (kO (St.rd cC (s3.out 2 rfl)) (by omega)) ?_⟩;rintro v w4 ⟨g,rfl,k4⟩;have s4:St w0 w4 (Sep (vl _ _ _ :: ai r1 (aX C.s.ps).vs.toArray 44 :: (bM b C++[B]))):=s3.and k4;refine⟨_,_,_,rfl,λ a4 l4 c4 w5=>l4=(oK C).length/\St w0 w5 (Sep (vl a4 c4 (oK C) :: ai r1 (aX C.s.ps).vs.toArray 44 :: (bM b C++[B]))),?_,?_⟩
 ·rintro w5 a4 l4 c4 ⟨rfl,s5⟩ -;have s6:=s5.quiet (ay.drew w5 []);let x:Rn:={ Ff C with xa:=C.xa,xc:=C.xc,ga:=a4,gc:=c4,ba:=C.ya,bc:=C.yc };refine⟨_,_,_,s6.ag 2 rfl 8,C.p,s6.aF 2 9 rfl rfl,_,_,_,s6.ag 2 rfl 15,_,_,_,s6.ag 2 rfl 16,s6.ax x.cells.toArray λ r2 w6 s7=>⟨s7.ag 3 rfl 8,?_⟩⟩;have hx1:cG 9 Rn.cells w6 (some ⟨r2,0,none⟩) [x]:=λ i y hy=>by
   obtain⟨rfl,rfl⟩:i=0/\y=x:=by
    cases i with
    | zero=>simp at hy; exact⟨rfl,hy.symm⟩
    | succ i=>simp at hy
   exact⟨_,_,rfl,by rw[Nat.zero_mul,sy]; exact s7.cellsIn 0 rfl,rfl,rfl⟩
  refine cS RY Rn.len Rn.one (s7.out 7 rfl) (a2:=some ⟨r2,0,none⟩) (c2:=1) (l2:=[x]) hx1 (by simp; omega) (by simp; omega) λ a8 c8 w7 s8=>?_;have s9:=s8.back (show 7<10 by decide);refine s9.aK 3 rfl (j:=8) (show 8<19 by decide) rfl λ w8 s10=>?_;let D:Ck:={ C with cl:=C.cl++[x],ka:=a8,kc:=c8 };refine ak (BZ (C:=D) (St.Qh (A:=ai b D.cells.toArray 106) (B:=Jy D.za D.zc D.dp) (m:=[vl C.xa C.xc C.ask,vl a4 c4 (oK C),Jy C.ya C.yc C.bd,held C.In,Az a8 c8 (C.cl++[x]),ai r1 (aX C.s.ps).vs.toArray 44,B]) (s10.av [3,6,4,1,5,8,7,2,9])) (by show C.dp.length<=100; omega)) ?_;rintro r w9 ⟨xa,xc,ya,yc,rfl,s11⟩;have s12:=s11.dw [_,_,_,_];let D' : Ck:={ fo D with xa:=xa,xc:=xc,ya:=ya,yc:=yc };have s13:=(((s12.av [4,5,6,7,0,1,2,3,8,9,10]).qQ (bB cC) (bB cC) λ _ h1 h2=>And.intro h1 h2).qQ (aZ _) (bB iH) λ _ h1 h2=>(⟨h1.1,h1.2,h2⟩:x.In _)).qQ (aZ _) (aZ _) λ w h1 h2=>(⟨h2.s,λ y hy=>(List.mem_append.1 hy).elim (h2.cl y) λ e=>by rw[List.mem_singleton.1 e]; exact h1⟩:Qn C.s (C.cl++[x]) w);have s14:St w0 w9 (Sep (bM b D'++[ai r1 (aX C.s.ps).vs.toArray 44,B])):=s13.av [1,2,3,4,5,0,6,7];refine⟨rfl,_,s14.cellsIn 6 rfl,?_⟩;have hin:Qn C.s (C.cl++[x]) w9:=s14.cv 5 rfl;have hgr:JX w9 a4 (oK C):=(hin.cl x (by simp)).got;refine ak (KG (aX C.s.ps) (su hsup (by omega)) hgr (λ u hu=>su (hg.2 u hu) (by omega)) (by omega)) ?_;rintro v w10 ⟨rfl,c10⟩;refine⟨_,rfl,(s14.quiet c10).ax z6.vs.toArray λ r3 w11 s15=>s15.az 0 rfl (wK C).vs rfl (I6.one _) λ w12 s16=>?_⟩;let J:World->Nat->Prop:=λ w13 r4=>St w0 w13 (Sep (ai r4 (kr C).1.vs.toArray 53 :: ai r3 (wK C).vs.toArray 44 :: (bM b D'++[ai r1 (aX C.s.ps).vs.toArray 44,B])));have erD:∀ {ov:Bool} {p:I6},({ D' with ov:=ov,p:=p }:Ck).er=({ fo C with cl:=C.cl++[Ff C],ov:=ov,p:=p }:Ck).er:=by
   intro ov p;simp[D',D,fo,Ck.er,Rn.er,x,Ff]
  have lenD:(C.cl++[x]).length=C.cl.length+1:=by simp
  refine⟨λ r4 n w13=>n=(kr C).2/\J w13 r4,?_,?_⟩
  ·rintro w13 r4 n ⟨rfl,s17⟩ -;refine⟨λ x w14=>x=bE C/\J w14 r4,?_,?_⟩
   ·rintro w14 x ⟨rfl,s18⟩ -
    cases hla:bE C with
    | true =>
     refine cT rfl (St.aK s18 2 rfl (j:=18) (show 18<19 by decide) rfl λ w15 s19=>.inr ⟨rfl,rfl,{ D' with ov:=true },?_,St.av s19 [2,3,4,5,6,7,9]⟩);rw[bz,hla,if_pos rfl];exact erD (ov:=true) (p:=C.p)
    | false =>
     refine cF rfl ⟨(kr C).1,s18.cellsIn 0 rfl,s18.pE 2 9 rfl ({ D' with p:=(kr C).1 }:Ck).cells.toArray (show 15<=19 by decide) (I6.one _) rfl λ w15 s19=>.inr ⟨rfl,rfl,{ D' with p:=(kr C).1 },?_,St.av s19 [2,3,4,5,6,7,9]⟩⟩;rw[bz,hla,if_neg (by decide)];have:=erD (ov:=false) (p:=(kr C).1);rw[<- this];have e:∀ o,o=C.ov->({ D' with p:=(kr C).1 }:Ck)={ D' with ov:=o,p:=(kr C).1 }:=λ o h=>by subst h; rfl
     rw[e false hov.symm]
   ·refine⟨wK C,s17.cellsIn 1 rfl,?_⟩;rw[I6.beq_eq]
    by_cases g1:wK C=z6
    ·exact cT (dT g1) ⟨by rw[bE,dT g1,Bool.true_or],s17⟩
    refine cF (dF g1) ⟨_,_,_,s17.ag 2 rfl 8,?_⟩
    by_cases g2:C.cl.length+1>=30
    ·exact cT (dT (by show(((C.cl++[x]).length:Nat):Int)>=30; omega)) ⟨by rw[bE,dT g2,Bool.true_or,Bool.or_true],s17⟩
    exact cF (dF (by show ¬ (((C.cl++[x]).length:Nat):Int)>=30; omega)) ⟨by rw[bE,dF g1,dF g2,Bool.false_or,Bool.false_or],s17⟩
  have s17:=s16.quiet (ay.drew w12 []);refine⟨_,_,_,_,s17.aF 1 4 rfl rfl,C.p,s17.aF 1 9 rfl rfl,wK C,s17.cellsIn 0 rfl,⟨?_,?_⟩⟩
  ·refine ak (Lv _ hk.o hk.p (wK C)) ?_;rintro v w18 ⟨rfl,c18⟩;exact⟨_,_,rfl,(s17.quiet c18).ax z6.vs.toArray λ r5 w19 s18=>s18.az 0 rfl (kr C).1.vs rfl (I6.one _) λ w20 s19=>⟨rfl,s19⟩⟩
  ·refine s17.ax z6.vs.toArray λ r5 w19 s18=>⟨s18.cellsIn 1 rfl,s18.aF 2 9 rfl rfl,s18.aF 2 4 rfl rfl,ak (Lv _ hk.o hk.p (wK C)) ?_⟩;rintro v w18 ⟨rfl,c18⟩;exact⟨_,_,rfl,(s18.quiet c18).az 0 rfl (kr C).1.vs rfl (I6.one _) λ w20 s19=>⟨rfl,s19⟩⟩
 ·refine⟨_,_,_,s4.ag 2 rfl 8,?_⟩
  by_cases hn:(C.cl.length:Int)>0
  ·have s5:=s4.quiet (ay.drew w4 []);have rd5:C.Rd b w4.drew:=(s5.av [2,3,4,5,6,7]).imp mV;obtain⟨hp1,hp2⟩:=HP hk (by omega);refine cT (dT hn) ⟨_,s5.ag 2 rfl 6,_,s5.cellsIn 1 rfl,_,_,_,s5.ag 2 rfl 15,ak (F9 rd5 hk (by omega)) ?_⟩;rintro v w6 ⟨g2,rfl,k6⟩;have s6:St w0 w6 (Sep (_ :: _)):=s5.and k6;refine⟨_,_,_,rfl,s6.ag 3 rfl 15,s6.cellsIn 2 rfl,s6.ag 3 rfl 6,ak (MI s6 (by have:=hk.o; unfold Po.ok at this; omega) hsup (St.rd cC (s6.out 0 rfl)) (St.rd cC (s6.out 4 rfl)) (by rw[hp1,z1]) (by omega) hp2 hk.asked) ?_⟩;rintro v w7 ⟨a,c,rfl,s7,-⟩;have eg:oK C=Uz C.o.und (aX C.s.ps) (ia C) C.ask:=by rw[oK,if_neg (by omega)]
   refine⟨_,_,_,_,rfl,cF rfl ⟨by rw[hg.1,hp1],?_⟩⟩;rw[eg];exact St.av (l:=_ :: _ :: _ :: _ :: _) s7 [0,3,4,5,6,7,8,9,10]
  ·have eg:oK C=C.ask:=by rw[oK,if_pos (by omega)]
   exact cF (dF hn) ⟨by rw[eg],by rw[eg]; exact s4⟩
end
