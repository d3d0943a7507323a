import Derived.Test.YtpihmghnbplohaaGreatDoorM04
import Derived.Test.YtpihmghnbplohaaGreatDoorM15
set_option linter.unusedVariables false
set_option maxRecDepth 100000
namespace Go.Proofs.YtpihmghnbplohaaGreatDoor
open Go Go.Vc Tryz
abbrev i1 (x:Int):List Value:=[iv x]
theorem cR(x:Int):(i1 x).length=1:=rfl
theorem E6(x:Int):∀ v∈i1 x,v.oneCell' = true:=by intro v hv; simp at hv; subst hv; rfl
theorem N8:gL prog 319 2 (iv 0) 1 8:=gL.mk' underlying319 (by kernel_rfl) rfl (by decide)
theorem Sq:gL prog 65 3 (iv 0) 1 8:=gL.mk' underlying65 (by kernel_rfl) rfl (by decide)
theorem R2:SM prog 419 3 4 (.bool false):=⟨underlying419,by kernel_rfl⟩
theorem fK{w:World}{a:OA}{l:List Int}(h:cH 1 i1 w a l){i:Nat}{x:Int}(hi:l[i]? = some x):∃ q,a=some q/\w.cell? (Addr.add q (i*1))=some (iv x):=by
  obtain⟨q,hq,hc⟩:=h.at hi;have:=bC hc 0 _ rfl;rw[Nat.zero_add,Addr.add_add,Nat.add_zero] at this;exact⟨q,hq,this⟩
def dc(f:Nat->Int)(n:Nat):List Int:=(List.range n).map f
theorem dJ(f:Nat->Int)(n:Nat):(dc f n).length=n:=by simp[dc]
theorem De(f:Nat->Int){n i:Nat}(h:i<n):(dc f n)[i]? = some (f i):=by simp[dc,h]
theorem um:∀ (n:Nat) (l:List Nat),l.Nodup->(∀ x∈l,x<n)->l.length<=n
  | 0,[],_,_=>Nat.le_refl _
  | 0,x :: _,_,h=>absurd (h x (by simp)) (by omega)
  | n+1,l,hd,h=>by
    by_cases hm:n∈l
    · have h1:=um n (l.erase n) (hd.erase n) λ x hx=>by
        have h2:=(hd.mem_erase_iff).1 hx;have:=h x h2.2;omega
      rw[List.length_erase_of_mem hm] at h1;omega
    · have h1:=um n l hd λ x hx=>by
        have:=h x hx;have:x≠n:=λ e=>hm (e▸hx);omega
      omega
theorem sH{l:List Int}{n:Nat}(hd:l.Nodup)(h:∀ x∈l,0<=x/\x<n):l.length<=n:=by
  have h2:(l.map Int.toNat).Nodup:=by
    rw[List.nodup_iff_pairwise_ne] at *;rw[List.pairwise_map];exact hd.imp_of_mem λ {a b} ha hb hne e=>hne (by have:=h a ha; have:=h b hb; omega)
  have h3:∀ x∈l.map Int.toNat,x<n:=λ x hx=>by
    obtain⟨y,hy,rfl⟩:=List.mem_map.1 hx;have:=h y hy;omega
  have:=um n _ h2 h3;simpa using this
theorem MP{w:World}{n:Nat}(hn:n<=1000){a:OA}{c:Nat}{st:Lo}(hr:cH 1 i1 w a (dc st.f n)){G T:Int}{g:Nat->Nat->Int}(hs:Gk g n G T n n 0 st){ch:Nat}(hc:ch<n)(hl:st.lr ch=n) :
    CP 295 #[.slice a n c,iv ch] w (λ r w'=>(∃ q l c,r=.slice (some q) l c)/\az w w' []):=by
  refine sZ ?_;unfold oA;have link:∀ {w' : World} {x:Nat},az w w' []->x<n->∃ q,a=some q/\w'.cell? (Addr.add q (x*1))=some (iv (st.f x)):=λ hc hx=>fK (hr.av hc) (De _ hx);refine uk (St.start w) λ m w1 c1 s1=>?_;have s1:=St.SD s1;refine⟨λ x w2 k=>∃ (ks:List Int) (y:Nat),x=y/\y<n/\ks.Nodup/\(∀ z∈ks,0<=z/\z<n)/\k+ks.length=n+1/\n<=st.lr y+ks.length/\(∀ z:Nat,(z:Int)∈ks->st.f z=y\/st.f z∈ks)/\St w w2 (star (yR m ks) emp),
    ⟨n+1,[],ch,rfl,hc,List.nodup_nil,by simp,by simp,by rw[hl]; simp,by simp,s1⟩,?_⟩
  rintro w2 k x ⟨ks,y,rfl,hy,hd,hb,hk,hlr,hcl,s2⟩ -;refine ym R2 underlying3 s2 (y:Int) ?_
  by_cases hm:(y:Int)∈ks
  · refine cF (by rw[dT hm]; rfl) (C7 R2 s2 λ w5 c5 s5=>?_);have cl2:∀ z:Nat,(z:Int)∈ks->st.f z∈ks:=λ z hz=>(hcl z hz).elim (λ e=>by rw[e]; exact hm) id;refine⟨λ x a2 l2 c2 w6 k=>∃ (ms:List Int) (y:Nat),x=y/\(y:Int)∈ks/\ms.Nodup/\(∀ z∈ms,z∈ks)/\k+ms.length=n+1/\l2=ms.length/\St w w6 (Sep [yR m ms,bW 3 1 i1 a2 c2 ms,emp]),
      ⟨n+1,[],y,rfl,hm,List.nodup_nil,by simp,by simp,rfl,(s5.eZ (e:=3) (sz:=1) (f:=i1)).AJ.pF⟩,?_⟩
    rintro w6 k2 x a2 l2 c2 ⟨ms,z,rfl,hz,hd2,hb2,hk2,rfl,s6⟩ -;refine ym R2 underlying3 s6 (z:Int) ?_;have hms:ms.length<=n:=sH hd2 λ v hv=>hb v (hb2 v hv)
    by_cases hm2:(z:Int)∈ms
    · refine cF (by rw[dT hm2]; rfl) ?_;refine cW Sq cR (x:=0) rfl s6 (n:=ms.length) (by omega) (by omega) λ gg w11 c11 s11=>?_;refine⟨λ x w12 k=>∃ (j:Nat) (out:List Int),x=j/\j<=ms.length/\k=ms.length-j/\out.length=ms.length/\St w w12 (star (bW 3 1 i1 (some ⟨gg,0,none⟩) ms.length out) (Sep [yR m ms,bW 3 1 i1 a2 c2 ms,emp])),
        ⟨ms.length,0,_,rfl,by omega,by omega,by simp,s11⟩,?_⟩
      rintro w12 k3 x ⟨j,out,rfl,hj,hk3,ho,s12⟩ -
      by_cases hlt:(j:Int)<(ms.length:Int)
      · have hx:ms[j]? = some (ms[j]'(by omega)):=gE (by omega);generalize ms[j]'(by omega)=v at hx;have s13:St w w12 (Sep [bW 3 1 i1 (some ⟨gg,0,none⟩) ms.length out,yR m ms,bW 3 1 i1 a2 c2 ms,emp]):=s12;obtain⟨q,hq,hcq⟩:=fK (St.rd cR (s13.out 2 rfl)) hx;have e1:IntKind.i64.wrap ((IntKind.i64.wrap ((ms.length:Int)-1))-(j:Int))=((ms.length-1-j:Nat):Int):=by
          rw[aC (n:=(ms.length:Int)-1) ⟨by omega,by omega⟩,aC ⟨by omega,by omega⟩]; omega
        rw[e1];refine cT (dT hlt) (au hq ⟨by omega,by omega,v,hcq,by omega,by omega,?_⟩);rw[Int.toNat_natCast];exact St.iZ (v:=iv) rfl s12 (i:=ms.length-1-j) (by omega) λ w13 s14=>⟨ms.length-(j+1),by omega,j+1,_,aC ⟨by omega,by omega⟩,by omega,rfl,by simpa using ho,s14⟩
      · exact cF (dF hlt) ⟨⟨_,_,_,rfl⟩,s12.av⟩
    · have hks:ks.length<=n:=sH hd hb;have hd3:(ms++[(z:Int)]).Nodup:=List.nodup_append.2 ⟨hd2,by simp,λ a ha b hb e=>by simp at hb; subst hb; subst e; exact hm2 ha⟩;have hms2:(ms++[(z:Int)]).length<=n:=sH hd3 λ v hv=>by
        rcases List.mem_append.1 hv with h | h
        · exact hb v (hb2 v h)
        · simp at h; subst h; exact hb _ hz
      simp only[List.length_append,List.length_singleton] at hms2;refine cT (by rw[dF hm2]; rfl) (AB R2 underlying3 s6 (z:Int) hm2 λ w8 c8 s8=>?_);have s8' : St w w8 (star (bW 3 1 i1 a2 c2 ms) (star (yR m (ms++[(z:Int)])) (Sep [emp]))):=s8.AJ;refine iC (x:=(z:Int)) Sq cR (E6 _) s8' (by omega) (by omega) (λ a' c' w10 s10=>?_) rfl;have zr:=hb _ hz;obtain⟨q,hq,hcq⟩:=link s10.av (show z<n by omega);have hfz:=cl2 z hz;have hfr:=hb _ hfz;refine au hq ⟨by omega,by omega,_,hcq,k2-1,?_,ms++[(z:Int)],(st.f z).toNat,by omega,by rw[Int.toNat_of_nonneg hfr.1]; exact hfz,hd3,?_,?_,rfl,s10.AJ⟩
      · omega
      · intro v hv;rcases List.mem_append.1 hv with h | h
        · exact hb2 v h
        · simp at h; subst h; exact hz
      · simp only[List.length_append,List.length_singleton]; omega
  · have hd3:(ks++[(y:Int)]).Nodup:=List.nodup_append.2 ⟨hd,by simp,λ a ha b hb e=>by simp at hb; subst hb; subst e; exact hm ha⟩;have hb3:∀ z∈ks++[(y:Int)],0<=z/\z<n:=λ z hz=>by
      rcases List.mem_append.1 hz with h | h
      · exact hb z h
      · simp at h; subst h; omega
    have hms2:=sH hd3 hb3;simp only[List.length_append,List.length_singleton] at hms2;refine cT (by rw[dF hm]; rfl) (AB R2 underlying3 s2 (y:Int) hm λ w4 c4 s4=>?_);obtain⟨q,hq,hcq⟩:=link s4.av hy;rcases hs.f y hy with⟨_,h0⟩ | ⟨p,hp,hfp,h1,h2⟩
    · omega
    · refine au hq ⟨by omega,by omega,_,hcq,k-1,by omega,ks++[(y:Int)],p,hfp,hp,hd3,hb3,?_,?_,?_,s4⟩
      · simp only[List.length_append,List.length_singleton]; omega
      · simp only[List.length_append,List.length_singleton]; omega
      · intro z hz;rcases List.mem_append.1 hz with h | h
        · rcases hcl z h with e | e
          · exact .inr (by rw[e]; simp)
          · exact .inr (List.mem_append_left _ e)
        · simp at h;have h:z=y:=by omega
          subst h; exact .inl hfp
def gF(l:List Ch)(a b:Nat):Int:=xY (l.getD a A6) (l.getD b A6)
theorem M8(l:List Ch)(a:Nat):gF l a a=0:=by unfold gF xY; omega
theorem RP{l:List Ch}(h:∀ c∈l,c.Ok)(a b:Nat)(ha:a<l.length)(hb:b<l.length) : -24000000<=gF l a b/\gF l a b<=24000000:=by
  have e:∀ i,i<l.length->(l.getD i A6).Ok:=λ i hi=>by
    rw[List.getD_eq_getElem?_getD,gE hi];exact h _ (List.getElem_mem hi)
  exact M9 (e a ha) (e b hb)
def j3(l:List Ch):Lo:=sE (gF l) l.length
theorem Iq{w:World}{a:OA}{c:Nat}{l:List Ch}(hr:EE w a l)(hl:l.length<=100)(ho:∀ c∈l,c.Ok) :
    CP 268 #[.slice a l.length c] w (λ r w' =>
      ((j3 l).ch<0/\(∃ g c,r=.tuple #[.slice (some ⟨g,0,none⟩) l.length c,.slice none 0 0]/\St w w' (star (bW 2 1 i1 (some ⟨g,0,none⟩) c (dc (j3 l).v l.length)) emp)))\/(0<=(j3 l).ch/\(∃ q m c,r=.tuple #[.slice none 0 0,.slice (some q) m c])/\az w w' [])):=by
  refine pY ?_;unfold kP;generalize hn:l.length=n at *;have hG:(0:Int)<=24000000:=by omega
  have g0:=M8 l;have gb:∀ a b,a<n->b<n->-24000000<=gF l a b/\gF l a b<=24000000:=λ a b ha hb=>RP ho a b (by omega) (by omega);refine cW N8 cR (x:=0) rfl (St.start w) (n:=n) (by omega) (by omega) λ gv w1 c1 s1=>?_;refine cW Sq cR (x:=0) rfl s1 (n:=n) (by omega) (by omega) λ gf w2 c2 s2=>?_;let L:Nat->(Nat->Int)->(Nat->Int)->List aD:=λ _ v f=>[bW 3 1 i1 (some ⟨gf,0,none⟩) n (dc f n),bW 2 1 i1 (some ⟨gv,0,none⟩) n (dc v n)];have z1:List.replicate n (0:Int)=dc (λ _=>0) n:=by unfold dc; rw[List.map_const']; simp
  have z2:dc (λ i=>if i<0 then (-1:Int) else 0) n=dc (λ _=>0) n:=by simp
  rw[z1] at s1 s2;refine⟨λ x w3 k=>∃ (j:Nat),x=j/\j<=n/\k=n-j/\St w w3 (Sep (L 0 (λ _=>0) λ i=>if i<j then -1 else 0)),⟨n,0,rfl,by omega,by omega,by
    show St w w2 (Sep [bW 3 1 i1 (some ⟨gf,0,none⟩) n (dc (λ i=>if i<0 then (-1:Int) else 0) n),_]);rw[z2]; exact s2⟩,?_⟩
  rintro w3 k x ⟨j,rfl,hj,hk,s3⟩ -
  by_cases hlt:(j:Int)<((dc (λ _=>(0:Int)) n).length:Int)
  · have hjn:j<n:=by rw[dJ] at hlt; omega
    refine cT (dT (by rw[dJ] at hlt; exact hlt)) (au rfl ⟨by omega,by omega,?_⟩);rw[Int.toNat_natCast];refine St.iZ (v:=iv) (x:=-1) rfl (s3.out 0 rfl) (i:=j) (by rw[dJ]; exact hjn) λ w4 s4=>⟨n-(j+1),by omega,j+1,aC ⟨by omega,by omega⟩,by omega,rfl,?_⟩;have e:(dc (λ i=>if i<j then (-1:Int) else 0) n).set j (-1)=dc (λ i=>if i<j+1 then -1 else 0) n:=by
      unfold dc;rw[BZ]
      congr 1
      funext i
      by_cases h:i=j
      · subst h; simp[cO]
      · rw[fG _ _ h]
        by_cases h2:i<j
        · rw[if_pos h2,if_pos (by omega)]
        · rw[if_neg h2,if_neg (by omega)]
    rw[e] at s4;exact s4.back (l:=L 0 (λ _=>0) λ i=>if i<j then -1 else 0) (i:=0) (by simp[L])
  rw[dJ] at hlt;obtain rfl:n=j:=by omega
  have e1:dc (λ i=>if i<n then (-1:Int) else 0) n=dc (λ _=>-1) n:=by
    unfold dc;refine List.map_congr_left λ i hi=>?_;rw[if_pos (List.mem_range.1 hi)]
  have s3' : St w w3 (Sep (L 0 RA.v RA.f)):=by
    show St w w3 (Sep [bW 3 1 i1 (some ⟨gf,0,none⟩) n (dc (λ _=>-1) n),_]);rw[<- e1]; exact s3
  refine cF (dF hlt) ⟨λ x w5=>x=(j3 l).ch/\St w w5 (Sep (L 0 (j3 l).v (j3 l).f)),?_,?_⟩
  · rintro w5 x ⟨rfl,s5⟩ -
    by_cases hc:(j3 l).ch<0
    · refine cT (dT hc) (.inl ⟨hc,gv,n,rfl,?_⟩);have:=(s5.aq [1]).vn;exact((s5.aq [1,2]).pair)
    · refine cF (dF hc) ?_;obtain⟨r',T',hS,hrn⟩:=Ip (g:=gF l) (n:=n) hG g0 gb;have hch:0<=(j3 l).ch:=by omega
      have hst:sE (gF l) n=j3 l:=by unfold j3; rw[hn]
      rw[hst] at hS hrn;have hrn':=hrn hch;subst hrn';rcases hS.i.ch with h1 | ⟨cc,hcc,h1,h2⟩
      · omega
      · rw[h1];have rd5:=St.rd cR (s5.out 0 rfl);refine aj (MP (by omega) rd5 hS.i hcc h2) ?_;rintro v w6 ⟨⟨q,m,cap,rfl⟩,c6⟩;exact⟨_,_,_,rfl,.inr ⟨by omega,⟨q,m,cap,rfl⟩,s5.av.trans c6 (by simp)⟩⟩
  refine⟨λ ch x w7 k=>∃ (r:Nat) (T:Int) (s:Lo),x=r/\r<=n/\k=n-r/\ch=s.ch/\T=(r:Int)*n/\Qs (gF l) n (n-r) r s=j3 l/\HH (gF l) n 24000000 T r n s/\St w w7 (Sep (L 0 s.v s.f)),
    ⟨n,0,0,RA,rfl,by omega,by omega,rfl,by simp,by unfold j3 sE; rw[hn]; rfl,OW hG,s3'⟩,?_⟩
  rintro w7 k7 ch x ⟨r,T,s,rfl,hr7,hk7,rfl,hT,hfin,hS,s7⟩ -
  by_cases hlt:(r:Int)<(n:Int)
  · have hrn:r<n:=by omega
    have hnr:n-r=(n-(r+1))+1:=by omega
    have hT2:T<=10000/\0<=T:=by
      have h1:(r:Int)*n<=100*n:=Int.mul_le_mul_of_nonneg_right (by omega) (by omega);have h2:(0:Int)<=(r:Int)*n:=Int.mul_nonneg (by omega) (by omega);omega
    have hS1:HH (gF l) n 24000000 T (r+1) 0 { s with ch:=-1 }:=⟨hS.i.O6 hS.b,hS.b⟩;refine cT (dT hlt) ⟨λ ch x w8 k=>∃ (a:Nat) (t:Lo),x=a/\a<=n/\k=n-a/\ch=t.ch/\t=OX (gF l) n (r+1) a { s with ch:=-1 }/\St w w8 (Sep (L 0 t.v t.f)),⟨n,0,_,rfl,by omega,by omega,rfl,rfl,s7⟩,?_⟩;rintro w8 k8 ch x ⟨aa,t,rfl,ha8,hk8,rfl,ht,s8⟩ -;have hSa:=hS1.OX hG g0 gb (by omega) aa ha8;rw[<- ht] at hSa
    by_cases hlt8:(aa:Int)<(n:Int)
    · have han:aa<n:=by omega
      refine cT (dT hlt8) ⟨λ ch x w9 k=>∃ (b:Nat) (t' : Lo),x=b/\b<=n/\k=n-b/\ch=t'.ch/\t' = OY (gF l) (r+1) aa b t/\St w w9 (Sep (L 0 t'.v t'.f)),⟨n,0,t,rfl,by omega,by omega,rfl,rfl,s8⟩,?_⟩;rintro w9 k9 ch x ⟨bb,t',rfl,hb9,hk9,rfl,ht',s9⟩ -;have hIb:=hSa.i.OY g0 gb (by omega) han bb hb9;rw[<- ht'] at hIb
      by_cases hlt9:(bb:Int)<(n:Int)
      · have hbn:bb<n:=by omega
        have xa:l[aa]? = some (l.getD aa A6):=by rw[List.getD_eq_getElem?_getD,gE (by omega)]; rfl
        have xb:l[bb]? = some (l.getD bb A6):=by rw[List.getD_eq_getElem?_getD,gE (by omega)]; rfl
        have s10:St w w9.drew (Sep (L 0 t'.v t'.f)):=s9.quiet (az.drew w9 []);obtain⟨qa,hqa,hca⟩:=(hr.av s10.av).at xa;obtain⟨qb,hqb,hcb⟩:=(hr.av s10.av).at xb;have val:∀ {w' : World} {i:Nat},i<n->St w w' (Sep (L 0 t'.v t'.f))->w'.cell? (Addr.add ⟨gv,0,none⟩ (((i:Nat):Int).toNat*1))=some (iv (t'.v i)):=λ hi s=>by
          obtain⟨q,hq,hc⟩:=fK (St.rd cR (s.out 1 rfl)) (De t'.v hi)
          cases hq; exact hc
        refine cT (dT hlt9) ⟨λ ch w10=>ch=(Jm (gF l) (r+1) aa bb t').ch/\St w w10 (Sep (L 0 (Jm (gF l) (r+1) aa bb t').v (Jm (gF l) (r+1) aa bb t').f)),?_,?_⟩
        · rintro w10 ch ⟨rfl,s11⟩ -;refine⟨n-(bb+1),by omega,bb+1,_,aC ⟨by omega,by omega⟩,by omega,rfl,rfl,?_,s11⟩;rw[ht']; rfl
        · refine au rfl ⟨by omega,by omega,_,val han s10,au hqa ⟨by omega,by omega,(l.getD aa A6).p,(l.getD aa A6).want,hca,au hqb ⟨by omega,by omega,(l.getD bb A6).p,(l.getD bb A6).want,hcb,aj (Qg _ (ho _ (List.mem_of_getElem? xa)) (ho _ (List.mem_of_getElem? xb))) ?_⟩⟩⟩;rintro v w11 ⟨rfl,c11⟩;have s11:=s10.quiet c11;have ba:=hIb.lo aa han;have hla:=hIb.la han;have hg1:=gb aa bb han hbn;have hTa:(aa:Int)<=100:=by omega
          have ew:IntKind.i64.wrap (t'.v aa+xY (l.getD aa A6) (l.getD bb A6))=t'.v aa+gF l aa bb:=aC ⟨by show _<=t'.v aa+gF l aa bb; omega,by show t'.v aa+gF l aa bb<=_; omega⟩;refine⟨_,rfl,val han s11,au rfl ⟨by omega,by omega,_,val hbn s11,?_⟩⟩;rw[ew]
          by_cases hrl:t'.v aa+gF l aa bb<t'.v bb
          · have er:Jm (gF l) (r+1) aa bb t' = { v:=pG t'.v bb (t'.v aa+gF l aa bb),f:=pG t'.f bb aa,lr:=pG t'.lr bb (r+1),ch:=bb }:=by unfold Jm; rw[if_pos hrl]
            rw[er];refine cT (dT hrl) (au rfl ⟨by omega,by omega,?_⟩);rw[Int.toNat_natCast];refine St.iZ (v:=iv) (x:=t'.v aa+gF l aa bb) rfl (s11.out 1 rfl) (i:=bb) (by rw[dJ]; exact hbn) λ w12 s12=>?_;have e2:(dc t'.v n).set bb (t'.v aa+gF l aa bb)=dc (pG t'.v bb (t'.v aa+gF l aa bb)) n:=BZ _ _ _ _;rw[e2] at s12;have s13:St w w12 (Sep [bW 3 1 i1 (some ⟨gf,0,none⟩) n (dc t'.f n),bW 2 1 i1 (some ⟨gv,0,none⟩) n (dc (pG t'.v bb (t'.v aa+gF l aa bb)) n)]):=s12.back (l:=L 0 t'.v t'.f) (i:=1) (by simp[L]);refine au rfl ⟨by omega,by omega,?_⟩;refine St.iZ (v:=iv) (x:=(aa:Int)) rfl (s13.out 0 rfl) (i:=bb) (by rw[dJ]; exact hbn) λ w14 s14=>⟨rfl,?_⟩;have e3:(dc t'.f n).set bb (aa:Int)=dc (pG t'.f bb aa) n:=BZ _ _ _ _;rw[e3] at s14;exact s14.back (l:=[bW 3 1 i1 (some ⟨gf,0,none⟩) n (dc t'.f n),bW 2 1 i1 (some ⟨gv,0,none⟩) n (dc (pG t'.v bb (t'.v aa+gF l aa bb)) n)]) (i:=0) (by simp)
          · have er:Jm (gF l) (r+1) aa bb t' = t':=by unfold Jm; rw[if_neg hrl]
            rw[er];exact cF (dF hrl) ⟨rfl,s11⟩
      · obtain rfl:n=bb:=by omega
        refine cF (dF hlt9) ⟨n-(aa+1),by omega,aa+1,_,aC ⟨by omega,by omega⟩,by omega,rfl,rfl,?_,s9⟩;rw[ht',ht]; rfl
    · obtain rfl:n=aa:=by omega
      have eR:t=O0 (gF l) n (r+1) s:=ht;have hfin2:(if (O0 (gF l) n (r+1) s).ch<0 then O0 (gF l) n (r+1) s else Qs (gF l) n (n-(r+1)) (r+1) (O0 (gF l) n (r+1) s))=j3 l:=by
        rw[<- hfin,hnr]; rfl
      rw[<- eR] at hfin2;refine cF (dF hlt8) ?_
      by_cases hc:t.ch<0
      · rw[if_pos hc] at hfin2;refine cT (dT hc) ?_;rw[<- hfin2];exact⟨rfl,s8⟩
      · rw[if_neg hc] at hfin2;refine cF (dF hc) ⟨n-(r+1),by omega,r+1,T+n,t,aC ⟨by omega,by omega⟩,by omega,rfl,rfl,?_,hfin2,hSa,s8⟩;rw[hT,Int.natCast_add,Int.add_mul]; omega
  · obtain rfl:n=r:=by omega
    rw[Nat.sub_self] at hfin;have hfin:s=j3 l:=hfin;subst hfin;exact cF (dF hlt) ⟨rfl,s7⟩
def nN(l:List Ch):Bool:=l.all tT&&decide ((j3 l).ch<0)
theorem CL{l:List Ch}:l.all tT=true<->∀ c∈l,c.Ok:=by simp[List.all_eq_true,C5]
theorem IV{w:World}{a:OA}{c:Nat}{l:List Ch}(hr:EE w a l)(hl:l.length<=100) :
    CP 228 #[.slice a l.length c] w (λ r w'=>(∃ a1 l1 c1 a2 l2 c2,r=.tuple #[.agg #[.slice a1 l1 c1,.slice a2 l2 c2],.bool (nN l)])/\az w w' []):=by
  refine sY ?_;unfold ox;refine(St.start w).one.ax _ λ r1 w1 s1=>aj (xm (hr.av s1.av) (by omega)) ?_;rintro v w2 ⟨rfl,c2⟩;have s2:=s1.quiet c2;refine⟨_,rfl,?_⟩
  cases ha:l.all tT with
  | false =>
    refine cT rfl (s2.aA 0 rfl [.slice none 0 0,.slice none 0 0] rfl (by simp[Value.oneCell']) λ w3 s3=>⟨_,_,_,_,_,_,s3.cellsIn 0 rfl,?_⟩);exact⟨⟨_,_,_,_,_,_,by rw[nN,ha]; rfl⟩,s3.av⟩
  | true =>
    have ho:=CL.1 ha;refine cF rfl (aj (Iq (hr.av s2.av) hl ho) ?_);rintro v w4 (⟨hc,g,cc,rfl,s4⟩ | ⟨hc,⟨q,m,cc,rfl⟩,c4⟩)
    · have hcons:nN l=true:=by rw[nN,ha,dT hc]; rfl
      let L:List Int->List aD:=λ out=>[bW 2 1 i1 (some ⟨g,0,none⟩) cc out,ai r1 #[.slice none 0 0,.slice none 0 0] 351,emp];have s5:St w w4 (Sep (L (dc (j3 l).v l.length))):=(s2.and s4.first);have val:∀ {w' : World} {out:List Int} {i:Nat},out.length=l.length->i<l.length->St w w' (Sep (L out))->w'.cell? (Addr.add ⟨g,0,none⟩ (((i:Nat):Int).toNat*1))=some (iv (out.getD i 0)):=λ {w' out i} ho hi s=>by
        obtain⟨q,hq,hc⟩:=fK (St.rd cR s) (i:=i) (x:=out.getD i 0) (by rw[List.getD_eq_getElem?_getD,gE (by omega)]; rfl)
        cases hq; exact hc
      refine⟨_,_,_,_,_,_,rfl,cF rfl ⟨λ _ n w6 m=>∃ j:Nat,n=j/\j<=l.length/\m=l.length-j/\St w w6 (Sep (L (dc (j3 l).v l.length))),⟨l.length,0,rfl,by omega,by omega,s5⟩,?_⟩⟩;rintro w6 m n n2 ⟨j,rfl,hj,hm,s6⟩ -
      by_cases hlt:(j:Int)<(l.length:Int)
      · have hx:l[j]? = some (l[j]'(by omega)):=gE (by omega);generalize l[j]'(by omega)=y at hx;obtain⟨q2,hq,hcl2⟩:=(hr.av s6.av).at hx;refine cT (dT hlt) (au hq ⟨by omega,by omega,y.p,y.want,hcl2,s6.ax A6.cells.toArray λ r2 w7 s7=>s7.aA 0 rfl y.cells rfl y.one λ w8 s8=>?_⟩);have s9:=s8.quiet (az.drew w8 []);have oy:=ho _ (List.mem_of_getElem? hx);have s10:St w w8.drew (Sep (L (dc (j3 l).v l.length))):=s9.aq [1,2,3];have hjl:j<l.length:=by omega
        refine⟨_,vI s9 0 rfl,_,bZ s9 0 rfl,au rfl ⟨by omega,by omega,_,val (dJ _ _) hjl s10,aj (iJ _ oy.p oy.w) ?_⟩⟩;rintro v w11 ⟨rfl,c11⟩;have s11:=s10.quiet c11;exact⟨_,rfl,val (dJ _ _) hjl s11,l.length-(j+1),by omega,j+1,aC ⟨by omega,by omega⟩,by omega,rfl,s11⟩
      · refine cF (dF hlt) ⟨λ _ n w6 m=>∃ j:Nat,n=j/\j<=l.length/\m=l.length-j/\St w w6 (Sep (L (dc (j3 l).v l.length))),⟨l.length,0,rfl,by omega,by omega,s6⟩,?_⟩;clear s6 hlt hj hm;rintro w10 m3 n5 n6 ⟨j,rfl,hj,hm,s6⟩ -
        by_cases hlt:(j:Int)<(l.length:Int)
        · have hx:l[j]? = some (l[j]'(by omega)):=gE (by omega);generalize l[j]'(by omega)=y at hx;have hjl:j<l.length:=by omega
          obtain⟨q2,hq,hcl2⟩:=(hr.av s6.av).at hx;refine cT (dT hlt) ⟨λ _ w11=>St w w11 (Sep (L (dc (j3 l).v l.length))),λ w11 n7 s11 _=>⟨l.length-(j+1),by omega,j+1,aC ⟨by omega,by omega⟩,by omega,rfl,s11⟩,?_⟩;refine au hq ⟨by omega,by omega,y.p,y.want,hcl2,s6.ax A6.cells.toArray λ r2 w7 s7=>s7.aA 0 rfl y.cells rfl y.one λ w8 s8=>⟨_,bZ s8 0 rfl,?_⟩⟩;have s10:St w w8 (Sep (L (dc (j3 l).v l.length))):=s8.aq [1,2,3];exact cB (au rfl ⟨by omega,by omega,_,val (dJ _ _) hjl s10,s10⟩) s10
        · refine cF (dF hlt) ⟨λ n w6 m=>∃ (j:Nat) (out:List Int),n=j/\j<=l.length/\m=l.length-j/\out.length=l.length/\St w w6 (Sep (L out)),⟨l.length,0,_,rfl,by omega,by omega,dJ _ _,s6⟩,?_⟩;clear s6 hlt hj hm;rintro w14 m5 n9 ⟨j,out,rfl,hj,hm,hou,s6⟩ -
          by_cases hlt:(j:Int)<(l.length:Int)
          · have hjl:j<l.length:=by omega
            refine cT (dT hlt) (au rfl ⟨by omega,by omega,_,val hou hjl s6,au rfl ⟨by omega,by omega,?_⟩⟩);rw[Int.toNat_natCast];exact St.iZ (v:=iv) rfl s6 (i:=j) (by omega) λ w15 s15=>⟨l.length-(j+1),by omega,j+1,_,aC ⟨by omega,by omega⟩,by omega,rfl,by simpa using hou,s15⟩
          · refine cF (dF hlt) ((s6.aq [1,2]).aA 0 rfl [.slice none 0 0,.slice (some ⟨g,0,none⟩) l.length cc] rfl (by simp[Value.oneCell']) λ w3 s3=>⟨_,_,_,_,_,_,s3.cellsIn 0 rfl,⟨none,0,0,_,_,_,by rw[hcons]⟩,s3.av⟩)
    · have s4:=s2.quiet c4;refine⟨_,_,_,_,_,_,rfl,cT rfl (s4.aA 0 rfl [.slice (some q) m cc,.slice none 0 0] rfl (by simp[Value.oneCell']) λ w3 s3=>⟨_,_,_,_,_,_,s3.cellsIn 0 rfl,⟨some q,m,cc,none,0,0,by rw[nN,ha,dF (by omega)]; rfl⟩,s3.av⟩)⟩
theorem So:gL prog 239 235 A6.v 12 96:=gL.mk' underlying239 (by kernel_rfl) rfl (by decide)
theorem Ak{w:World}{s:Se}{n:Int}{a:OA}{k:Nat}{l:List Ch}(hr:EE w a l)(hk:l.length<=k)(hl:l.length+1<=100)(c:Ch) :
    CP 182 #[.agg (Ji s n a k l).toArray,c.v] w (λ r w'=>r=.bool (nN (l++[c]))/\az w w' []):=by
  refine iy ?_;unfold dS;refine(St.start w).one.ax (Ji s n a k l).toArray λ r1 w1 s1=>s1.ax c.cells.toArray λ r2 w2 s2=>⟨λ b w3=>b=nN (l++[c])/\az w w3 [],?_,?_⟩
  · rintro w3 b ⟨rfl,hc⟩;exact λ _=>⟨rfl,hc⟩
  have s3:=s2.quiet (az.drew w2 []);have app:∀ {w' : World} {r:Nat} {B:List aD} {R:Option Addr->Nat->Nat->World->Prop},St w w' (Sep (ai r c.cells.toArray 235 :: B))->(∀ a' c' w2,St w w2 (star (bW 235 12 Ch.cells a' c' (l++[c])) (Sep (ai r c.cells.toArray 235 :: B)))->R a' (l++[c]).length c' w2) ->
      aZ prog (Builtin.append_ #[239,239] 239 #[.slice (if (((l.length:Nat):Int)).toNat=0 then a else Option.map (λ x=>Addr.add x (0*12)) a) ((((l.length:Nat):Int)).toNat-0) ((((l.length:Nat):Int)).toNat-0),.slice (some ⟨r,0,none⟩) 1 1]) w' λ e w2=>∃ a l c,e=.slice a l c/\R a l c w2:=by
    intro w' r B R sB hR;rw[Int.toNat_natCast,RO,Nat.sub_zero];refine HP So Ch.len c.one sB (hr.av sB.av) (λ j u hj=>?_) (by omega) (by omega) hR;rw[sB.ag 0 rfl]; simpa using hj
  have fin:∀ {w' : World} {B:List aD} {a' : OA} {c' : Nat},St w w' (star (bW 235 12 Ch.cells a' c' (l++[c])) (Sep B)) ->
      Calls prog 228 #[.slice a' (l++[c]).length c'] w' (qw λ r w2=>(∃ a1 l1 c1 a2 l2 c2,r=.tuple #[.agg #[.slice a1 l1 c1,.slice a2 l2 c2],.bool (nN (l++[c]))])/\az w' w2 []):=λ s=>IV (St.rd Ch.len s) (by simpa using hl)
  let Wn:Array Value:=#[.slice none 0 0,.slice none 0 0];refine⟨_,_,_,s3.ag 1 rfl 5,_,_,_,s3.ag 1 rfl 5,_,_,_,s3.ag 1 rfl 5,by omega,by omega,by omega,by omega,c.p,c.want,s3.cellsIn 0 rfl,?_,?_⟩
  · refine s3.ax c.cells.toArray λ r3 w4 s4=>⟨s4.ag 2 rfl 5,s4.ag 2 rfl 5,s4.ag 2 rfl 5,app s4 λ a' c' w5 s5=>⟨aj (fin s5) ?_,?_⟩,?_⟩
    · rintro v w6 ⟨⟨a1,l1,c1,a2,l2,c2,rfl⟩,c6⟩;exact⟨_,_,_,_,_,_,_,rfl,(St.start' (s5.av.trans c6 (by simp))).one.ax Wn λ r4 w7 s7=>s7.aA 0 rfl [.slice a1 l1 c1,.slice a2 l2 c2] rfl (by simp[Value.oneCell']) λ w8 s8=>⟨rfl,s8.av⟩⟩
    · refine s5.first.one.ax Wn λ r5 w9 s9=>aj (fin (s9.aq [1,0])) ?_;rintro v w6 ⟨⟨a1,l1,c1,a2,l2,c2,rfl⟩,c6⟩;exact⟨_,_,_,_,_,_,_,rfl,(s9.quiet c6).aA 0 rfl [.slice a1 l1 c1,.slice a2 l2 c2] rfl (by simp[Value.oneCell']) λ w8 s8=>⟨rfl,s8.av⟩⟩
    · refine s4.ax Wn λ r6 w12 s12=>⟨s12.ag 3 rfl 5,s12.ag 3 rfl 5,s12.ag 3 rfl 5,app (s12.aq [1,0]) λ a' c' w13 s13=>aj (fin s13) ?_⟩;rintro v w6 ⟨⟨a1,l1,c1,a2,l2,c2,rfl⟩,c6⟩;exact⟨_,_,_,_,_,_,_,rfl,(s13.quiet c6).second.aA 1 rfl [.slice a1 l1 c1,.slice a2 l2 c2] rfl (by simp[Value.oneCell']) λ w8 s8=>⟨rfl,s8.av⟩⟩
  · refine s3.ax Wn λ r7 w16 s16=>⟨s16.cellsIn 1 rfl,s16.ag 2 rfl 5,s16.ag 2 rfl 5,s16.ag 2 rfl 5,s16.ax c.cells.toArray λ r8 w17 s17=>⟨s17.ag 3 rfl 5,s17.ag 3 rfl 5,s17.ag 3 rfl 5,app s17 λ a' c' w18 s18=>aj (fin s18) ?_⟩⟩;rintro v w6 ⟨⟨a1,l1,c1,a2,l2,c2,rfl⟩,c6⟩;exact⟨_,_,_,_,_,_,_,rfl,(s18.quiet c6).second.aA 1 rfl [.slice a1 l1 c1,.slice a2 l2 c2] rfl (by simp[Value.oneCell']) λ w8 s8=>⟨rfl,s8.av⟩⟩
theorem Ic{w:World}{s:Se}(h:Jq w s){n:Nat}{b:Br}(hb:s.bd[n]? = some b){a:OA}{k:Nat}{l:List Ch}(hr:EE w a l)(hk:l.length<=k)(hl:l.length+1<=100)(ho:∀ c∈l,c.Ok){c:Ch}(hc:c.Ok) :
    CP 183 #[.agg (Ji s n a k l).toArray,c.v] w (λ r w'=>r=.bool (Dh s b l c||nN (l++[c]))/\az w w' []):=by
  refine iz ?_;unfold dU;refine(St.start w).one.ax (Ji s n a k l).toArray λ r1 w1 s1=>s1.ax c.cells.toArray λ r2 w2 s2=>?_;refine⟨_,_,_,_,_,_,_,_,_,_,_,_,_,_,_,_,s2.cellsIn 1 rfl,c.p,c.want,s2.cellsIn 0 rfl,aj (GJ (h.av s2.av) hb (hr.av s2.av) (by omega) ho hc) ?_⟩;rintro v w3 ⟨rfl,c3⟩;have s3:=s2.quiet c3;refine⟨_,rfl,?_⟩
  cases hf:Dh s b l c with
  | true=>exact cT rfl ⟨rfl,s3.av⟩
  | false =>
    refine cF rfl ⟨_,_,_,_,_,_,_,_,_,_,_,_,_,_,_,_,s3.cellsIn 1 rfl,c.p,c.want,s3.cellsIn 0 rfl,aj (Ak (hr.av s3.av) hk hl c) ?_⟩;rintro v w4 ⟨rfl,c4⟩;exact⟨_,rfl,rfl,(s3.quiet c4).av⟩
def Hi(rule:Int)(s:Se)(b:Br)(l:List Ch)(c:Ch):Bool:=if rule=1 then Dh s b l c else if rule=2 then nN (l++[c]) else Dh s b l c||nN (l++[c])
def EJ(rule:Int)(s:Se)(b:Br)(l:List Ch)(c:Ch):Int :=
  if 1<=rule/\rule<=3 then (if (if Ah l then decide (c.want=z6) else Hi rule s b l c) then 0 else 15) else 4
theorem Jr{w:World}{s:Se}(h:Jq w s){n:Nat}{b:Br}(hb:s.bd[n]? = some b){a:OA}{k:Nat}{l:List Ch}(hr:EE w a l)(hk:l.length<=k)(hl:l.length+1<=100)(ho:∀ c∈l,c.Ok){c:Ch}(hc:c.Ok)(rule:Int) :
    CP 146 #[.agg s.arr,iv rule,iv n,.slice a l.length k,c.v] w (λ r w'=>r=iv (EJ rule s b l c)/\az w w' []):=by
  refine qx ?_;unfold mg;refine(St.start w).one.ax s.arr λ r1 w1 s1=>s1.ax c.cells.toArray λ r2 w2 s2=>⟨_,_,_,_,_,_,_,_,_,_,_,_,s2.cellsIn 1 rfl,s2.ax #[.slice none 0 0,.slice none 0 0,.slice none 0 0,.slice none 0 0,iv 0,.slice none 0 0] λ r3 w3 s3=>s3.aA 0 rfl (Ji s n a k l) rfl (by simp[Ji,Value.oneCell']) λ w4 s4=>?_⟩;have hn:n<s.bd.length:=(List.getElem?_eq_some_iff.1 hb).1;let Acc (x:Bool) (v:Value):Prop:=∀ (w' : World) (R:Ending->World->Prop),az w w' []->(∀ w'',az w' w'' []->R (.returned (.bool x)) w'')->cC prog v #[c.v] w' R;refine⟨_,_,_,_,_,_,_,_,_,_,_,_,_,_,_,_,s4.cellsIn 0 rfl,λ v w5=>(1<=rule/\rule<=3)/\Acc (Hi rule s b l c) v/\St w w5 (Sep [ai r2 c.cells.toArray 235,ai r1 s.arr 100,emp]),?_,?_⟩
  · rintro w5 v ⟨hru,hv,s5⟩ -;refine⟨_,_,_,_,_,_,_,_,_,_,_,_,s5.cellsIn 1 rfl,aj (Kp (n:Int)) ?_⟩;rintro r w6 ⟨rfl,c6⟩;have s6:=s5.quiet c6;refine⟨_,rfl,cF (by simp; omega) ⟨_,bZ s6 0 rfl,aj (cJ w6 c.want) ?_⟩⟩;rintro r w7 ⟨rfl,c7⟩;have s7:=s6.quiet c7;have h0:c.want.l.all lR=true:=by
      have:=C5.2 hc;rw[tT,Bool.and_eq_true] at this; exact this.2
    rw[h0];refine⟨_,rfl,cF rfl ⟨λ v w8=>Acc (if Ah l then decide (c.want=z6) else Hi rule s b l c) v/\St w w8 (Sep [ai r2 c.cells.toArray 235,ai r1 s.arr 100,emp]),?_,aj (Ka (hr.av s7.av) (by omega)) ?_⟩⟩
    · rintro w8 v2 ⟨hv2,s8⟩ -;refine⟨_,_,s8.cellsIn 0 rfl,hv2 _ _ s8.av λ w9 c9=>⟨_,rfl,?_⟩⟩
      cases hx:(if Ah l then decide (c.want=z6) else Hi rule s b l c) with
      | false=>exact cT rfl ⟨by rw[EJ,if_pos hru,hx]; rfl,(s8.quiet c9).av⟩
      | true=>exact cF rfl ⟨by rw[EJ,if_pos hru,hx]; rfl,(s8.quiet c9).av⟩
    · rintro r w8 ⟨rfl,rfl⟩;refine⟨_,rfl,?_⟩
      cases he:Ah l with
      | false=>exact cF rfl ⟨hv,s7⟩
      | true =>
        refine cT rfl ⟨?_,s7⟩;intro w' R _ k;refine bx (by kernel_rfl) (aj (K:=λ r w''=>r=.bool (decide (c.want=z6))/\az w' w'' []) (nC ?_) ?_)
        · unfold jq;exact(St.start w').one.ax c.cells.toArray λ r2 w2 s2=>⟨_,bZ s2 0 rfl,by rw[I6.beq_eq],s2.av⟩
        · rintro r w'' ⟨rfl,hc⟩; exact k w'' hc
  · have s5:St w w4 (Sep [ai r2 c.cells.toArray 235,ai r1 s.arr 100,emp]):=s4.aq [1,2,3]
    by_cases h1:rule=1
    · subst h1;refine cT rfl ⟨⟨by omega,by omega⟩,?_,s5⟩;intro w' R hw' k;refine bx (by kernel_rfl) (aj (GJ (h.av hw') hb (hr.av hw') (by omega) ho hc) ?_);rintro r w'' ⟨rfl,hc⟩; exact k w'' hc
    refine cF (by simpa using h1) ?_
    by_cases h2:rule=2
    · subst h2;refine cT rfl ⟨_,_,_,_,_,_,_,_,_,_,_,_,_,_,_,_,s4.cellsIn 0 rfl,⟨by omega,by omega⟩,?_,s5⟩;intro w' R hw' k;refine bx (by kernel_rfl) (aj (Ak (hr.av hw') hk hl c) ?_);rintro r w'' ⟨rfl,hc⟩; exact k w'' hc
    refine cF (by simpa using h2) ?_
    by_cases h3:rule=3
    · subst h3;refine cT rfl ⟨_,_,_,_,_,_,_,_,_,_,_,_,_,_,_,_,s4.cellsIn 0 rfl,⟨by omega,by omega⟩,?_,s5⟩;intro w' R hw' k;refine bx (by kernel_rfl) (aj (Ic (h.av hw') hb (hr.av hw') hk hl ho hc) ?_);rintro r w'' ⟨rfl,hc⟩; exact k w'' hc
    exact cF (by simpa using h3) ⟨by rw[EJ,if_neg (by omega)],s5.av⟩
end Go.Proofs.YtpihmghnbplohaaGreatDoor
