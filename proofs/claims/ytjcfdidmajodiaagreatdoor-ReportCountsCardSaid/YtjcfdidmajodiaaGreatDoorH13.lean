import Derived.Test.YtjcfdidmajodiaaGreatDoorH12
set_option linter.unusedVariables false
set_option linter.defProp false
set_option maxRecDepth 100000
namespace Go.Proofs.YtjcfdidmajodiaaGreatDoor
open Go Go.Vc _root_.Go.Proofs.Tryz
def uH(w:af)(o:Po):CP 92 #[o.v] w (λ r w'=>r=iv (ki o)/\aC w w' []):=by
 refine xM.2.2.1 ?_;refine aG o.cells.toArray λ r1 c s1=>?_;refine⟨λ b d=>b=decide (¬ o.ok)/\d=c,?_,o.step,s1.ag 0 rfl 0,?_⟩
 ·rintro d b ⟨rfl,rfl⟩ -
  by_cases h:o.ok
  ·exact cF (dF λ a=>a h) ⟨by rw[ki,ak h],s1.av⟩
  ·exact aP h ⟨by rw[ki,ah h],s1.av⟩
 have no : ¬ o.ok->true=decide (¬ o.ok)/\c=c:=λ h=>⟨(dT h).symm,rfl⟩
 by_cases g1:o.step<1
 ·exact aP g1 (no λ h=>by obtain⟨h1,_⟩:=h; omega)
 refine aU g1 ⟨o.step,s1.ag 0 rfl 0,?_⟩
 by_cases g2:o.step>1000000
 ·exact aP g2 (no λ h=>by obtain⟨_,h1,_⟩:=h; omega)
 refine aU g2 ⟨o.pct,s1.ag 0 rfl 1,?_⟩
 by_cases g3:o.pct<0
 ·exact aP g3 (no λ h=>by obtain⟨_,_,h1,_⟩:=h; omega)
 refine aU g3 ⟨o.pct,s1.ag 0 rfl 1,?_⟩
 by_cases g4:o.pct>100
 ·exact aP g4 (no λ h=>by obtain⟨_,_,_,h1,_⟩:=h; omega)
 refine aU g4 ⟨o.und,s1.ag 0 rfl 2,?_⟩
 by_cases g5:o.und<1
 ·exact aP g5 (no λ h=>by obtain⟨_,_,_,_,h1,_⟩:=h; omega)
 refine aU g5 ⟨o.und,s1.ag 0 rfl 2,?_⟩
 by_cases g6:o.und>3
 ·exact aP g6 (no λ h=>by obtain⟨_,_,_,_,_,h1,_⟩:=h; omega)
 refine aU g6 ⟨o.rule,s1.ag 0 rfl 3,?_⟩
 by_cases g7:o.rule<1
 ·exact aP g7 (no λ h=>by obtain⟨_,_,_,_,_,_,h1,_⟩:=h; omega)
 refine aU g7 ⟨o.rule,s1.ag 0 rfl 3,?_,rfl⟩
 by_cases g8:o.rule>3
 ·rw[dT g8];exact(no λ h=>by obtain⟨_,_,_,_,_,_,_,h1⟩:=h; omega).1
 ·rw[dF g8];exact(dF λ a=>a ⟨by omega,by omega,by omega,by omega,by omega,by omega,by omega,by omega⟩).symm
def L4{l:List Pr}:I6.mix l.length (gw l) z6=gw l:=I6.ext' λ j a=>by
 rw[I6.cX _ _ _ _ a]
 split
 ·rfl
 ·rw[jB,o9 _ _ a];simp only[aJ,dD];rw[cr (by omega)]; rfl
def IQ{w:af}{a:OA}{c:Nat}{l:List Pr}(h:fS w a l) :
  CP 137 #[.slice a l.length c] w (λ r w'=>r=.agg (gw l).vs.toArray/\aC w w' []):=by
 refine(p6 rC).2.2.2.1 ?_;refine aG z6.vs.toArray λ r1 y s1=>s1.aB z6.vs.toArray λ r2 z s2=>?_;refine⟨λ n o m=>∃ k:Nat,n=k/\(k<=6/\k<=l.length)/\m=6-k/\St w o (Sep [aj r2 (I6.mix k (gw l) z6).vs.toArray 57,aj r1 z6.vs.toArray 57,emp]),⟨6,0,rfl,by omega,by omega,s2⟩,?_⟩;rintro o m n ⟨k,rfl,v,hm,j⟩ -;refine⟨λ b p=>b=decide (k<l.length/\k<6)/\St w p (Sep [aj r2 (I6.mix k (gw l) z6).vs.toArray 57,aj r1 z6.vs.toArray 57,emp]),?_,?_⟩
 ·rintro p b ⟨rfl,f⟩ -
  by_cases d:k<l.length/\k<6
  ·obtain⟨x,i⟩:=bx l k (by omega);obtain⟨q,t,hc⟩:=CA (h.av f.av) i 2 _ rfl;refine aP d (aq t ⟨by omega,by omega,x.res,hc,by omega,by omega,?_⟩);rw[dM,show x.res=(gw l).at' k by rw[o9 l k d.2]; simp[dD,i]];refine f.aN 0 rfl d.2 rfl λ u e=>⟨6-(k+1),by omega,k+1,inc (by decide) d.2,by omega,rfl,?_⟩;rw[I6.gD _ _ _ d.2] at e;exact e
  ·refine aU d ⟨_,f.cellsIn 0 rfl,f.az 1 rfl (I6.mix k (gw l) z6).vs rfl (I6.one _) λ u e=>⟨_,e.cellsIn 1 rfl,?_,e.av⟩⟩
   by_cases s:k=6
   ·rw[s,I6.mD]
   ·rw[show k=l.length by omega,L4]
 ·by_cases g:k<l.length
  ·refine aP (by omega) ⟨?_,j⟩
   by_cases g2:k<6
   ·rw[dT (show(k:Int)<6 by omega),dT ⟨g,g2⟩]
   ·rw[dF (show ¬ (k:Int)<6 by omega),dF λ h=>g2 h.2]
  ·exact aU (by omega) ⟨by rw[dF λ h=>g h.1],j⟩
def v8(w:af)(p:I6):CP 188 #[.agg p.vs.toArray] w (λ r w'=>r=.bool (kA p)/\aC w w' []):=by
 refine xM.1 ?_;refine aG p.vs.toArray λ r1 f s1=>?_;refine⟨λ n d m=>∃ k:Nat,n=k/\k<=6/\m=6-k/\(p.l.take k).all kJ=true/\d=f,⟨6,0,rfl,by omega,by omega,rfl,rfl⟩,?_⟩;rintro d m n ⟨k,rfl,h,hm,ha,rfl⟩ -
 by_cases c:(k:Int)<6
 ·have a:k<6:=by omega
  refine aP c ⟨λ b e=>b = !kJ (p.at' k)/\e=d,?_,by omega,by omega,p.at' k,by rw[dM,aF s1 0 rfl a],?_⟩
  ·rintro e b ⟨rfl,rfl⟩ -
   cases hx:kJ (p.at' k) with
   | true=>exact cF rfl ⟨6-(k+1),by omega,k+1,inc (by decide) a,by omega,rfl,kI ha (p.pT k a) hx,rfl⟩
   | false=>exact cT rfl ⟨by rw[kA,mM (p.pT k a) hx],s1.av⟩
  ·by_cases g:p.at' k<0
   ·exact aP g ⟨by simp[kJ]; omega,rfl⟩
   ·refine aU g ⟨by omega,by omega,p.at' k,by rw[dM,aF s1 0 rfl a],?_,rfl⟩
    by_cases g2:p.at' k>1000000
    ·rw[dT g2]; simp[kJ]; omega
    ·rw[dF g2]; simp[kJ]; omega
 ·obtain rfl:k=6:=by omega
  refine cF (by simp) ⟨?_,s1.av⟩;rw[kA,show p.l.all kJ=true from ha]
def GP(w:af){o:Po}(f:o.ok){p:Int}(hp:0<=p/\p<=1000000):CP 189 #[o.v,iv p] w (λ r w'=>r=iv (xB o p)/\aC w w' []):=by
 refine(p6 rC).2.2.2.2.1 ?_;obtain⟨h1,h2,h3,h4,_⟩:=f;have a:0<=p*o.pct:=gS hp.1 h3;have i:p*o.pct<=1000000*100:=cM (kQ h4 hp.1) (gR hp.2 (by omega));have c:IntKind.i64.wrap (p*o.pct)=p*o.pct:=cA (by omega);have d:Int.tdiv (p*o.pct) 100=p*o.pct / 100:=De a;have e:Int.tmod (p*o.pct) 100=p*o.pct%100:=JH a;refine aG o.cells.toArray λ r1 h s1=>⟨o.pct,s1.ag 0 rfl 1,by decide,λ n b=>n=(p*o.pct+99) / 100/\b=h,?_,by decide,?_⟩
 ·rintro b n ⟨rfl,rfl⟩ -;refine⟨o.step,s1.ag 0 rfl 0,?_,s1.av⟩;rw[cW (n:=p+o.step) ⟨by omega,by omega⟩,cA (by omega)]; rfl
 ·rw[c,d,e]
  by_cases g:p*o.pct%100>0
  ·refine aP g ⟨?_,rfl⟩;rw[cW (n:=p*o.pct / 100) ⟨by omega,by omega⟩,cA (by omega)]; omega
  ·refine aU g ⟨?_,rfl⟩;rw[cA (by omega)]; omega
set_option maxHeartbeats 1000000 in
theorem Mu(w:af){o:Po}(ho:o.ok){p:I6}(hp:kA p=true)(ex:I6):CP 144 #[o.v,.agg p.vs.toArray,.agg ex.vs.toArray] w (λ r w'=>r=.tuple #[.agg (nU o p ex).1.vs.toArray,iv (nU o p ex).2]/\aC w w' []):=by
 refine xM.2.1 ?_;have hle:=o4.1 hp;refine aG o.cells.toArray λ r1 I s1=>s1.aB p.vs.toArray λ r2 J s2=>s2.aB ex.vs.toArray λ r3 K G=>G.aB z6.vs.toArray λ r4 D s=>?_;let M:I6->List aI:=λ q=>[aj r4 z6.vs.toArray 57,aj r3 ex.vs.toArray 42,aj r2 q.vs.toArray 57,aj r1 o.cells.toArray 24,emp];have s:St w D (Sep (M p)):=s;refine⟨λ b n=>b=false/\St w n (Sep (M p)),?_,_,_,_,_,s.cellsIn 3 rfl,au (uH D o) ?_⟩
 rotate_left
 ·rintro v n ⟨rfl,c5⟩;have t:St w n (Sep (M p)):=s.quiet c5;refine⟨_,rfl,cF (by rw[ki,ak ho]; rfl) ⟨p,t.cellsIn 2 rfl,au (v8 n p) ?_⟩⟩;rintro v h ⟨rfl,E⟩;exact⟨_,rfl,by rw[hp]; rfl,t.quiet E⟩
 rintro n b ⟨rfl,t⟩ -;refine cF rfl ⟨λ i h m=>∃ k:Nat,i=k/\k<=6/\m=6-k/\St w h (Sep (M (I6.mix k (cj o p ex) p))),⟨6,0,rfl,by omega,by omega,t⟩,?_⟩;rintro h m i ⟨k,rfl,H,hm,f⟩ -
 by_cases l:(k:Int)<6
 ·have a:k<6:=by omega
  have er:(cj o p ex).at' k=if ex.at' k>0 then xB o (p.at' k) else p.at' k:=I6.iG _ _ _ _ a
  refine aP l ⟨λ u=>St w u (Sep (M (I6.mix (k+1) (cj o p ex) p))),?_,by omega,by omega,ex.at' k,by rw[dM,aF f 1 rfl a],?_⟩
  ·rintro u c -;exact⟨6-(k+1),by omega,k+1,inc (by decide) a,by omega,rfl,c⟩
  by_cases g:ex.at' k>0
  ·have c:St w h.drew (Sep (M (I6.mix k (cj o p ex) p))):=f.quiet (aC.drew h []);refine aP g ⟨_,_,_,_,c.cellsIn 3 rfl,by omega,by omega,p.at' k,by rw[dM,aF c 2 rfl a,I6.cX _ _ _ _ a,ah (by omega)],au (GP _ ho (hle k a)) ?_⟩;rintro v z ⟨rfl,c8⟩;have d:St w z (Sep (M (I6.mix k (cj o p ex) p))):=c.quiet c8;refine⟨_,rfl,by omega,by omega,?_⟩;rw[dM,show xB o (p.at' k)=(cj o p ex).at' k by rw[er,ak g]];refine d.aN 2 rfl a rfl λ L C=>?_;rw[I6.gD _ _ _ a] at C;exact C
  ·refine aU g ?_;have:I6.mix (k+1) (cj o p ex) p=I6.mix k (cj o p ex) p:=I6.ext' λ j B=>by
    rw[I6.cX _ _ _ _ B,I6.cX _ _ _ _ B]
    by_cases e:j=k
    ·subst e; rw[ak (by omega),ah (by omega),er,ah g]
    ·by_cases A:j<k
     ·rw[ak A,ak (by omega)]
     ·rw[ah A,ah (by omega)]
   rw[this]; exact f
 ·obtain rfl:k=6:=by omega
  rw[I6.mD] at f;refine aU l ⟨_,f.cellsIn 2 rfl,au (v8 h _) ?_⟩;rintro v u ⟨rfl,F⟩;have c:St w u (Sep (M (cj o p ex))):=f.quiet F;refine⟨_,rfl,?_⟩
  cases hv:kA (cj o p ex) with
  | false =>
   have y:cj o p ex≠p:=λ e=>by rw[e,hp] at hv; cases hv
   have x:nU o p ex=(z6,4):=by rw[nU,ak ⟨y,hv⟩]
   rw[x];exact cT rfl (c.az 0 rfl z6.vs rfl (I6.one _) λ z d=>⟨z6,d.cellsIn 0 rfl,rfl,d.av⟩)
  | true =>
   have x:nU o p ex=(cj o p ex,0):=by rw[nU,ah (by rw[hv]; simp)]
   rw[x];exact cF rfl ⟨_,c.cellsIn 2 rfl,c.az 0 rfl _ rfl (I6.one _) λ z d=>⟨_,d.cellsIn 0 rfl,rfl,d.av⟩⟩
theorem QE(u:I6){k:Nat}(a:k<6):u.vs[k]?=some (iv (u.at' k)):=by
 have:=u.get k a;simpa using this
set_option maxHeartbeats 1000000 in
theorem GR{w:af}{a:OA}{c:Nat}{l:List I6}(hr:cP 6 I6.vs w a l)(hl:l.length<=1000)(hb:∀ u∈l,I6.Le u 1000000) :
  CP 241 #[.slice a l.length c] w (λ r w'=>r=.agg (fy l).vs.toArray/\aC w w' []):=by
 refine rC.2.2.2.2.2.1 ?_;refine aG z6.vs.toArray λ r1 J s1=>s1.aB z6.vs.toArray λ r2 E s2=>?_;have s2:St w E (Sep [aj r2 (fy ([]:List I6)).vs.toArray 42,aj r1 z6.vs.toArray 42,emp]):=s2;refine⟨λ i C m=>∃ k:Nat,i=k/\k<=l.length/\m=l.length-k/\St w C (Sep [aj r2 (fy (l.take k)).vs.toArray 42,aj r1 z6.vs.toArray 42,emp]),⟨l.length,0,rfl,by omega,by omega,s2⟩,?_⟩;rintro C m i ⟨k,rfl,H,hm,h⟩ -
 by_cases g:(k:Int)<(l.length:Int)
 ·obtain⟨y,t⟩:=bx l k (by omega);have v:=hb y (bf t);have es:fy (l.take (k+1))=(fy (l.take k)).zip (· + ·) y:=by rw[aH t,CU]
  have bd:∀ j,j<6->0<=(fy (l.take k)).at' j/\(fy (l.take k)).at' j<=1000000000:=λ j z=>by
   have:=tD (B:=1000000) (l:=l.take k) (λ u hu=>hb u (eX hu)) j z;rw[fy,I6.rP _ _ z];have h2:(l.take k).length<=1000:=by rw[di]; omega
   omega
  generalize fy (l.take k)=o at h es bd;refine aP g ⟨λ i q m=>∃ n:Nat,i=n/\n<=6/\m=6-n/\St w q (Sep [aj r2 (I6.mix n (fy (l.take (k+1))) o).vs.toArray 42,aj r1 z6.vs.toArray 42,emp]),⟨6,0,rfl,by omega,by omega,h⟩,?_⟩;rintro q m4 i ⟨n,rfl,I,D,f⟩ -
  by_cases e:(n:Int)<6
  ·have b:n<6:=by omega
   have x:=f.quiet (aC.drew q []);obtain⟨p,hp,s⟩:=(hr.av x.av).at t;have d:=aM s n _ (QE y b);rw[aL] at d;have F:=bd n b;have G:=v n b;refine aP e ⟨by omega,by omega,o.at' n,by rw[dM,aF x 0 rfl b,I6.cX _ _ _ _ b,ah (by omega)],aq hp ⟨by omega,by omega,by omega,by omega,y.at' n,?_,by omega,by omega,?_⟩⟩
   ·rw[aD,aD,gG]; exact d
   rw[dM,cW (n:=o.at' n+y.at' n) ⟨by omega,by omega⟩,show o.at' n+y.at' n=(fy (l.take (k+1))).at' n by rw[es,I6.iG _ _ _ _ b]];refine x.aN 0 rfl b rfl λ K A=>⟨6-(n+1),by omega,n+1,inc (by decide) b,by omega,rfl,?_⟩;rw[I6.gD _ _ _ b] at A;exact A
  ·obtain rfl:n=6:=by omega
   rw[I6.mD] at f;exact aU e (jZ (by omega) f)
 ·obtain rfl:k=l.length:=by omega
  rw[br] at h;exact aU g ⟨_,h.cellsIn 0 rfl,h.az 1 rfl _ rfl (I6.one _) λ q f=>⟨_,f.cellsIn 1 rfl,rfl,f.av⟩⟩
section
variable {w:af} {a:OA} {c:Nat} {l:List I6} (hr:cP 6 I6.vs w a l) (hl:l.length<=1000) (hb:∀ u∈l,I6.Le u 4) {i:Nat} {x:I6} (hx:l[i]?=some x) {sup ask:I6} (hs:I6.Le sup 4) (ha:I6.Le ask 4)
include hb in
theorem G8(b:l.length<=1000)(j:Nat)(a:j<6):0<=(fy l).at' j/\(fy l).at' j<=4000:=by
 have:=tD (B:=4) (l:=l) hb j a;rw[fy,I6.rP _ _ a];omega
include hr hx in
theorem H6{w':af}(hc:aC w w' [])(j:Nat)(c:j<6):∃ q,a=some q/\w'.cell? (Addr.add (Addr.add q (((i:Nat):Int).toNat*6)) (((j:Nat):Int).toNat*1))=some (iv (x.at' j)):=by
 obtain⟨p,hp,b⟩:=(hr.av hc).at hx;have:=aM b j _ (QE x c);rw[aL] at this;exact⟨p,hp,by rw[aD,aD,gG]; exact this⟩
include hr hl hb hx hs ha in
theorem Eu:CP 186 #[.agg sup.vs.toArray,.slice a l.length c,iv i,.agg ask.vs.toArray] w (λ r w'=>r=.bool (iz sup (fy l) x ask)/\aC w w' []):=by
 refine(p6 rC).1 ?_;have hi:=(aR.1 hx).1;have y:=hb x (bf hx);refine aG sup.vs.toArray λ r1 O s1=>s1.aB ask.vs.toArray λ r2 P s2=>au (GR (hr.av s2.av) hl (λ u hu=>qg (hb u hu) (by omega))) ?_;rintro v Q ⟨rfl,c3⟩;have h:=G8 hb hl;generalize fy l=tot at h;refine⟨_,rfl,(s2.quiet c3).aB z6.vs.toArray λ r3 R G=>G.az 0 rfl tot.vs rfl (I6.one _) λ H z=>?_⟩;let M:List aI:=[aj r3 tot.vs.toArray 42,aj r2 ask.vs.toArray 42,aj r1 sup.vs.toArray 42,emp];have z:St w H (Sep M):=z;refine⟨λ j o m=>∃ k:Nat,j=k/\k<=6/\m=6-k/\(∀ j,j<k->AN sup tot x ask j=false)/\St w o (Sep M),⟨6,0,rfl,by omega,by omega,λ j t=>by omega,z⟩,?_⟩;rintro o m j ⟨k,rfl,N,hm,e,C⟩ -
 by_cases f:(k:Int)<6
 ·have d:k<6:=by omega
  have A:St w o.drew (Sep M):=C.quiet (aC.drew o []);have p:St w o.drew.drew (Sep M):=A.quiet (aC.drew _ []);obtain⟨q,F,s⟩:=H6 hr hx A.av k d;have I:=y k d; have J:=ha k d; have K:=h k d; have L:=hs k d;refine aP f (aq F ⟨by omega,by omega,by omega,by omega,x.at' k,s,by omega,by omega,ask.at' k,by rw[dM,aF A 1 rfl d],λ b E=>b=AN sup tot x ask k/\St w E (Sep M),?_,?_⟩)
  ·rintro E b ⟨rfl,D⟩ -
   cases hrf:AN sup tot x ask k with
   | true=>exact cT rfl ⟨by rw[iz,yN.2 ⟨k,iH.2 d,hrf⟩],D.av⟩
   | false =>
    refine cF rfl ⟨6-(k+1),by omega,k+1,inc (by decide) d,by omega,rfl,λ j t=>?_,D⟩;rcases bw j k with B | B
    ·exact e j B
    ·obtain rfl:j=k:=by omega
     exact hrf
  rw[cW (n:=x.at' k-ask.at' k) ⟨by omega,by omega⟩]
  by_cases g:x.at' k-ask.at' k>0
  ·refine aP g ⟨by omega,by omega,tot.at' k,by rw[dM,aF p 0 rfl d],by omega,by omega,sup.at' k,by rw[dM,aF p 2 rfl d],?_,p⟩;rw[cA (by omega),AN,dT (show ask.at' k<x.at' k by omega),bt]
   by_cases g2:tot.at' k-x.at' k+ask.at' k<sup.at' k
   ·rw[dT g2,dT (by omega)]
   ·rw[dF g2,dF (by omega)]
  ·exact aU g ⟨by rw[AN,dF (show ¬ ask.at' k<x.at' k by omega),Dg],p⟩
 ·obtain rfl:k=6:=by omega
  refine aU f ⟨?_,C.av⟩;have:iz sup tot x ask=false:=by
   rw[iz,tY];intro j t;rw[e j (iH.1 t)]; simp
  rw[this]
theorem Iz{s t n a v:Int}(h1:a<=v)(h2:v<=oX s t n a):(v<n/\t-(n-v)<s)<->v<oX s t n a:=by
 unfold oX at h2 ⊢
 by_cases g:a<n
 ·rw[ak g] at h2 ⊢
  by_cases g1:0>t-s
  ·rw[ak g1] at h2 ⊢
   split at h2
   ·rename_i g2; rw[ak g2]; omega
   ·rename_i g2; rw[ah g2]; omega
  ·rw[ah g1] at h2 ⊢
   split at h2
   ·rename_i g2; rw[ak g2]; omega
   ·rename_i g2; rw[ah g2]; omega
 ·rw[ah g] at h2 ⊢; omega
theorem Pm{s t n a:Int}:a<=oX s t n a:=by
 unfold oX
 split
 ·split<;>split<;>omega
 ·omega
include hr hl hb hx hs ha in
set_option maxHeartbeats 1000000 in
theorem GN:CP 187 #[.agg sup.vs.toArray,.slice a l.length c,iv i,.agg ask.vs.toArray] w (λ r w'=>r=.agg (nX sup (fy l) x ask).vs.toArray/\aC w w' []):=by
 refine(p6 rC).2.1 ?_;have hi:=(aR.1 hx).1;have H:=hb x (bf hx);refine aG sup.vs.toArray λ r1 w1 s1=>s1.aB ask.vs.toArray λ r2 w2 s2=>s2.aB z6.vs.toArray λ r3 w3 R=>au (GR (hr.av R.av) hl (λ u hu=>qg (hb u hu) (by omega))) ?_;rintro v w4 ⟨rfl,c4⟩;have E:=G8 hb hl;generalize fy l=tot at E;refine⟨_,rfl,(R.quiet c4).aB z6.vs.toArray λ r4 w5 Z=>Z.az 0 rfl tot.vs rfl (I6.one _) λ w6 S=>⟨ask,S.cellsIn 2 rfl,S.aB z6.vs.toArray λ r5 w7 s7=>s7.az 0 rfl ask.vs rfl (I6.one _) λ w8 J=>?_⟩⟩;let M:I6->List aI:=λ u=>[aj r5 u.vs.toArray 42,aj r4 tot.vs.toArray 42,aj r3 z6.vs.toArray 42,aj r2 ask.vs.toArray 42,aj r1 sup.vs.toArray 42,emp];have J:St w w8 (Sep (M ask)):=J;generalize X:nX sup tot x ask=P;have W:∀ k,k<6->P.at' k=oX (sup.at' k) (tot.at' k) (x.at' k) (ask.at' k):=λ k N=>by rw[<- X,nX,I6.rP _ _ N]
 refine⟨λ j T m=>∃ k:Nat,j=k/\k<=6/\m=6-k/\St w T (Sep (M (I6.mix k P ask))),⟨6,0,rfl,by omega,by omega,J⟩,?_⟩;rintro T m j ⟨k,rfl,N,hm,G⟩ -
 by_cases D:(k:Int)<6
 ·have d:k<6:=by omega
  have U:=H k d; have V:=ha k d; have b3:=E k d; have b4:=hs k d;have p1:=Pm (s:=sup.at' k) (t:=tot.at' k) (n:=x.at' k) (a:=ask.at' k);have p2:=As (s:=sup.at' k) (t:=tot.at' k) U V;have L:=W k d;refine aP D ⟨λ o m=>∃ v:Int,ask.at' k<=v/\v<=P.at' k/\m=(P.at' k-v).toNat/\St w o (Sep (M ((I6.mix k P ask).put k v))),⟨_,ask.at' k,by omega,by omega,rfl,?_⟩,?_⟩
  ·have:(I6.mix k P ask).put k (ask.at' k)=I6.mix k P ask:=I6.ext' λ j p=>by
    rw[I6.ie _ _ _ _ d p]
    split
    ·rename_i e; subst e; rw[I6.cX _ _ _ _ p,ah (by omega)]
    ·rfl
   rw[this]; exact G
  rintro o m3 ⟨v,v1,v2,Y,z⟩ -;have y:=Iz (s:=sup.at' k) (t:=tot.at' k) (n:=x.at' k) v1 (by rw[<- L]; exact v2);have I:∀ {u:I6},(u.put k v).at' k=v:=λ {u}=>by rw[I6.ie _ _ _ _ d d,ak rfl]
  have f:St w o.drew (Sep (M ((I6.mix k P ask).put k v))):=z.quiet (aC.drew o []);obtain⟨q,O,C⟩:=H6 hr hx f.av k d;refine⟨λ b F=>b=decide (v<P.at' k)/\St w F (Sep (M ((I6.mix k P ask).put k v))),?_,by omega,by omega,v,by rw[dM,aF f 0 rfl d,I],aq O ⟨by omega,by omega,by omega,by omega,x.at' k,C,?_⟩⟩
  ·rintro F b ⟨rfl,A⟩ -
   by_cases Q:v<P.at' k
   ·refine aP Q ⟨by omega,by omega,v,by rw[dM,aF A 0 rfl d,I],by omega,by omega,?_⟩;rw[dM,cA (by omega)];refine A.aN 0 rfl d rfl λ w13 B=>⟨(P.at' k-(v+1)).toNat,by omega,v+1,by omega,by omega,rfl,?_⟩;rw[I6.jf _ _ _ d] at B;have:((I6.mix k P ask).put k v).put k (v+1)=(I6.mix k P ask).put k (v+1):=I6.ext' λ j p=>by
     rw[I6.ie _ _ _ _ d p,I6.ie _ _ _ _ d p,I6.ie _ _ _ _ d p]
     split<;>rfl
    rw[this] at B;exact B
   ·refine aU Q ⟨6-(k+1),by omega,k+1,inc (by decide) d,by omega,rfl,?_⟩;have:(I6.mix k P ask).put k v=I6.mix (k+1) P ask:=I6.ext' λ j p=>by
     rw[I6.ie _ _ _ _ d p,I6.cX _ _ _ _ p,I6.cX _ _ _ _ p]
     by_cases e:j=k
     ·subst e; rw[ak rfl,ak (by omega)]; omega
     ·rw[ah e]
      by_cases K:j<k
      ·rw[ak K,ak (by omega)]
      ·rw[ah K,ah (by omega)]
    rw[this] at A;exact A
  rw[<- L] at y
  by_cases g:v<x.at' k
  ·refine aP g ⟨by omega,by omega,tot.at' k,by rw[dM,aF f 1 rfl d],aq O ⟨by omega,by omega,by omega,by omega,x.at' k,C,by omega,by omega,v,by rw[dM,aF f 0 rfl d,I],by omega,by omega,sup.at' k,by rw[dM,aF f 4 rfl d],?_,f⟩⟩;rw[cW (n:=x.at' k-v) ⟨by omega,by omega⟩,cA (by omega)]
   by_cases g2:tot.at' k-(x.at' k-v)<sup.at' k
   ·rw[dT g2,dT (y.1 ⟨g,g2⟩)]
   ·rw[dF g2,dF λ h=>g2 (y.2 h).2]
  ·exact aU g ⟨(dF λ h=>g (y.2 h).1).symm,f⟩
 ·obtain rfl:k=6:=by omega
  rw[I6.mD] at G;exact aU D ⟨_,G.cellsIn 0 rfl,G.az 2 rfl _ rfl (I6.one _) λ o z=>⟨_,z.cellsIn 2 rfl,rfl,z.av⟩⟩
end
section
variable {w0 w:af} {B:aI} {a:OA} {c:Nat} {l:List I6}
def Fc{r k:Nat}(s:St w0 w (star (eV (qs r) 0 []) B))(d:cP 6 I6.vs w a l)(g:l.length<=1000){R:Option Addr->Nat->Nat->af->Prop}(kk:∀ a' c' w',St w0 w' (star (eV a' c' l) B)->R a' l.length c' w') :
  gi prog (Builtin.append_ #[77,77] 77 #[.slice (qs r) 0 0,.slice a l.length k]) w λ e f=>∃ a l c,e=.slice a l c/\R a l c f :=
 bQ (l2:=l) yB bE I6.one s d (by simp only[eY]; omega) (by simp only[eY]; omega) λ a' c' w' b=>by
  rw[lC] at b ⊢;exact kk a' c' w' b
end
set_option maxHeartbeats 1000000 in
theorem IE{w:af}{p:Int}(hp:1<=p/\p<=3){sup:I6}(hs:I6.Le sup 4){a1 a2:OA}{c1 c2:Nat}{l1 l2:List I6}(h1:cP 6 I6.vs w a1 l1)(h2:cP 6 I6.vs w a2 l2)(hl:l2.length=l1.length)(h8:l1.length<=8)(b1:∀ u∈l1,I6.Le u 4)(b2:∀ u∈l2,I6.Le u 4) :
  CP 143 #[iv p,.agg sup.vs.toArray,.slice a1 l1.length c1,.slice a2 l2.length c2] w (λ r w'=>∃ a c,r=.tuple #[.slice a (UF p sup l1 l2).length c,iv 0]/\St w w' (eV a c (UF p sup l1 l2))):=by
 refine(p6 rC).2.2.1 ?_;refine aG sup.vs.toArray λ r1 w1 s1=>?_;have s1:St w w1 (Sep [aj r1 sup.vs.toArray 42,emp]):=s1;refine⟨λ b w2=>b=false/\w2=w1,?_,aU (by omega) ⟨dF (by omega),rfl⟩⟩;rintro w2 b ⟨rfl,rfl⟩ -;refine cF rfl ⟨λ b w3=>b=false/\w3=w2,?_,cF (by rw[hl]; simp) ⟨dF (by omega),rfl⟩⟩;rintro w3 b ⟨rfl,rfl⟩ -;refine cF rfl ⟨sup,s1.cellsIn 0 rfl,s1.aB sup.vs.toArray λ r2 w4 P=>?_⟩;have P:St w w4 (star (eV (qs r2) 1 [sup]) (Sep [aj r1 sup.vs.toArray 42,emp])):=St.weak P (bz.left (dO (n:=1) (sz:=6) rfl (by decide)));refine bQ (l:=[sup]) (l2:=l1) yB bE I6.one P (h1.av P.av) (by simp only[bS]; omega) (by simp only[bS]; omega) λ a3 c3 w5 s5=>?_;refine bQ (l:=[sup]++l1) (l2:=l2) yB bE I6.one s5 (h2.av s5.av) (by rw[aY]; simp only[bS]; omega) (by rw[aY]; simp only[bS]; omega) λ a4 c4 w6 Q=>?_;have D:∀ u∈[sup]++l1++l2,I6.Le u 4:=λ u hu=>by
  rcases aV.1 hu with hu|hu
  ·rcases aV.1 hu with hu|hu
   ·cases bp.1 hu; exact hs
   ·exact b1 u hu
  ·exact b2 u hu
 have hlen:([sup]++l1++l2).length<=100:=by simp only[aY,bS]; omega
 generalize[sup]++l1++l2=all at Q D hlen;have Q:St w w6 (Sep [eV a4 c4 all,aj r1 sup.vs.toArray 42,emp]):=Q;refine⟨λ i w7 m=>∃ k:Nat,i=k/\k<=all.length/\m=all.length-k/\St w w7 (Sep [eV a4 c4 all,aj r1 sup.vs.toArray 42,emp]),⟨all.length,0,rfl,by omega,by omega,Q⟩,?_⟩;rintro w7 m i ⟨k,rfl,hk,hm,R⟩ -
 by_cases f:(k:Int)<(all.length:Int)
 ·obtain⟨y,hx⟩:=bx all k (by omega);obtain⟨q,H,T⟩:=(St.rd bE (R.out 0 rfl)).at hx;refine aP f (aq H ⟨by omega,by omega,y,T,au (ig w7 y) ?_⟩);rintro v w8 ⟨rfl,c8⟩;exact⟨_,rfl,cF (by rw[leq (D y (bf hx))]; rfl) (jZ (by omega) (R.quiet c8))⟩
 refine aU f ((R.ay [1,2]).aB #[] λ r3 w9 S=>?_);have S:St w w9 (star (eV (qs r3) 0 []) (Sep [aj r1 sup.vs.toArray 42,emp])):=St.weak S (bz.left (dO (n:=0) (sz:=6) rfl (by decide)));refine Fc S (h1.av S.av) (by omega) λ a5 c5 Z C=>?_;have C:St w Z (Sep [eV a5 c5 (qO p sup l1 l2 0),aj r1 sup.vs.toArray 42,emp]):=C;have len:∀ k,(qO p sup l1 l2 k).length=l1.length:=λ k=>(xG (B:=4) (by omega) b1 b2 k).1;have X:∀ k,∀ u∈qO p sup l1 l2 k,I6.Le u 4:=λ k=>(xG (B:=4) (by omega) b1 b2 k).2;refine⟨λ i G m=>∃ k:Nat,i=k/\k<=l1.length/\m=l1.length-k/\St w G (Sep [eV a5 c5 (qO p sup l1 l2 k),aj r1 sup.vs.toArray 42,emp]),⟨l1.length,0,rfl,by omega,by omega,C⟩,?_⟩;clear f hm hk R C;rintro G m i ⟨k,rfl,hk,hm,h⟩ -
 by_cases f:(k:Int)<(l1.length:Int)
 rotate_left
 ·obtain rfl:k=l1.length:=by omega
  have e1:UF p sup l1 l2=qO p sup l1 l2 l1.length:=by rw[UF,hl]
  refine aU f ⟨a5,c5,by rw[e1,len],?_⟩;rw[e1]; exact h.first
 have s:l2[k]?=some (l2[k]'(by omega)):=gE (by omega);have I:qO p sup l1 l2 (k+1)=jQ p sup (qO p sup l1 l2 k) k (l2.getD k z6):=rfl;rw[show l2.getD k z6=l2[k]'(by omega) by rw[aJ,s]; rfl] at I;generalize l2[k]'(by omega)=y at s I;have M:=b2 y (bf s);have lk:=len k;have W:=X k;generalize hUk:qO p sup l1 l2 k=U at h I lk W;have A:U[k]?=some (U[k]'(by omega)):=gE (by omega);have o:U.getD k z6=U[k]'(by omega):=by rw[aJ,A]; rfl
 generalize U[k]'(by omega)=x at A o;obtain⟨g,rfl⟩:=St.iS (h.out 0 rfl) (by omega);have st:∀ {w':af} {z:I6},St w w' (Sep [eV (qs g) c5 U,aj r1 sup.vs.toArray 42,emp])->jQ p sup U k y=U.set k z->uP (Addr.add ⟨g,0,none⟩ (((k:Nat):Int).toNat*6)) 0 z.vs w' λ O=>St w O (Sep [eV (qs g) c5 (qO p sup l1 l2 (k+1)),aj r1 sup.vs.toArray 42,emp]):=λ {w' z} t e=>by
  rw[aD];refine St.su bE (I6.one z) (t.out 0 rfl) (by omega) λ O t13=>?_;rw[I,e]; exact t13
 refine aP f ⟨λ N=>St w N (Sep [eV (qs g) c5 (qO p sup l1 l2 (k+1)),aj r1 sup.vs.toArray 42,emp]),?_,?_⟩
 ·rintro N d -;exact jZ (by omega) d
 rw[<- lk];have K:U.length<=1000:=by omega
 have Y:∀ {w'},aC w w' []->∃ q,a2=some q/\aA w' (Addr.add q (((k:Nat):Int).toNat*6)) 0 y.vs:=λ hc=>by rw[aD]; exact(h2.av hc).at s
 by_cases p1:p=1
 ·obtain⟨q,H,j⟩:=Y h.av;exact cT (by simpa using p1) (aq H ⟨by omega,by omega,y,j,aq rfl ⟨by omega,by omega,st h (by rw[jQ,ah (by omega),ah (by omega)])⟩⟩)
 refine cF (by simpa using p1) ?_;have d:=h.quiet (aC.drew G []);obtain⟨q,H,j⟩:=Y d.av;have L:∀ {w'},St w w' (Sep [eV (qs g) c5 U,aj r1 sup.vs.toArray 42,emp])->cP 6 I6.vs w' (qs g) U:=λ t=>St.rd bE (t.out 0 rfl)
 by_cases p2:p=2
 ·refine cT (by simpa using p2) ⟨sup,d.cellsIn 1 rfl,aq H ⟨by omega,by omega,y,j,au (Eu (L d) K W A hs M) ?_⟩⟩;rintro v w14 ⟨rfl,E⟩;have F:=d.quiet E;obtain⟨q2,V,J⟩:=Y F.av;refine⟨_,rfl,?_⟩
  cases hrf:iz sup (fy U) x y with
  | true =>
   refine cF rfl ?_;rw[I,jQ,ak p2,o,ak hrf]; exact F
  | false=>exact cT rfl (aq V ⟨by omega,by omega,y,J,aq rfl ⟨by omega,by omega,st F (by rw[jQ,ak p2,o,ah (by rw[hrf]; decide)])⟩⟩)
 ·have p3:p=3:=by omega
  refine cF (by simpa using p2) (cT (by simpa using p3) ⟨sup,d.cellsIn 1 rfl,aq H ⟨by omega,by omega,y,j,au (GN (L d) K W A hs M) ?_⟩⟩);rintro v w14 ⟨rfl,E⟩;exact⟨_,rfl,aq rfl ⟨by omega,by omega,st (d.quiet E) (by rw[jQ,ah p2,ak p3,o])⟩⟩
structure Ck.bF (C:Ck) (w:af):Prop where
 ask:cP 6 I6.vs w C.xa C.ask
 bd:cP 1 bl w C.ya C.bd
 dp:cP 1 bl w C.za C.dp
 cl:cP 9 Rn.cells w C.ka C.cl
 i:oH C.cl w
 k:C.cl.length<=C.kc
def Ck.bF.av{C:Ck}{w w':af}(h:C.bF w)(hc:aC w w' []):C.bF w':=⟨h.ask.av hc,h.bd.av hc,h.dp.av hc,h.cl.av hc,λ x a=>(h.i x a).av hc,h.k⟩
set_option maxHeartbeats 1000000 in
theorem we{w:af}{C:Ck}(h:C.bF w)(hk:C.Ok)(n:Int) :
  CP 141 #[.agg C.cells.toArray,iv n] w (λ r w'=>∃ a c,r=.slice a (ju C n).length c/\St w w' (uL a c (ju C n))):=by
 refine xM.2.2.2.2.1 ?_;have hd:=hk.dp; have V:=hk.cl;refine aG C.cells.toArray λ r1 U s1=>?_;have s1:St w U (Sep [aj r1 C.cells.toArray 87,emp]):=s1;have S:(ju C n).length<=C.cl.length:=NL C n;refine⟨λ a l c i O m=>∃ k:Nat,i=k/\k<=(ju C n).length/\m=(ju C n).length-k/\l=((ju C n).take k).length/\St w O (Sep [uL a c ((ju C n).take k),aj r1 C.cells.toArray 87,emp]),⟨(ju C n).length,0,rfl,by omega,by omega,rfl,s1.dy⟩,?_⟩;rintro O m a l c i ⟨k,rfl,T,hm,rfl,s2⟩ -;have inr:k<(ju C n).length->(0<=n/\n<(C.s.bd.length:Int))/\ju C n=sZ C n.toNat:=λ H=>by
  unfold ju at H ⊢
  split at H
  ·simp at H
  ·rename_i g; rw[ah g]; exact⟨by omega,rfl⟩
 refine⟨λ b B=>b=decide (k<(ju C n).length)/\St w B (Sep [uL a c ((ju C n).take k),aj r1 C.cells.toArray 87,emp]),?_,_,_,_,s2.ag 1 rfl 8,?_⟩
 rotate_left
 ·by_cases g:(k:Int)<(C.cl.length:Int)
  ·refine aP g ?_
   by_cases g1:n>=0
   ·refine aP g1 ⟨_,_,_,s2.ag 1 rfl 17,?_,s2⟩
    by_cases g2:n<(C.dp.length:Int)
    ·have e:(ju C n).length=C.cl.length:=by unfold ju; rw[ah (by omega)]; simp[sZ]
     rw[dT g2,dT (by omega)]
    ·have e:ju C n=[]:=by unfold ju; rw[ak (by omega)]
     rw[dF g2,e]; rfl
   ·have e:ju C n=[]:=by unfold ju; rw[ak (by omega)]
    exact aU g1 ⟨by rw[e]; rfl,s2⟩
  ·exact aU g ⟨by rw[dF (by omega)],s2⟩
 rintro B b ⟨rfl,K⟩ -
 by_cases o:k<(ju C n).length
 ·obtain⟨W,ec⟩:=inr o;have f:k<C.cl.length:=by omega
  have D:C.cl[k]?=some (C.cl[k]'f):=gE f;generalize C.cl[k]'f=x at D;have z:=bf D;have y:(ju C n)[k]?=some ⟨x.p,x.ask.getD n.toNat z6⟩:=by rw[ec,sZ,dD,D]; rfl
  have R:x.ask.length=C.s.bd.length:=(hk.cz x z).ask;have M:x.ask[n.toNat]?=some (x.ask.getD n.toNat z6):=by rw[aJ,gE (show n.toNat<x.ask.length by omega)]; rfl
  generalize x.ask.getD n.toNat z6=u at y M;have A:=K.quiet (aC.drew B []);obtain⟨q,L,t⟩:=(h.cl.av A.av).at D;obtain⟨X,J,G⟩:=(((h.i x z).ask).av A.av).at M;have hp:aA B.drew (Addr.add q (k*9)) 0 x.p.vs:=bM _ 0 λ j v d=>by
   have Q:j<6:=(aR.1 d).1;exact aM t j v (by
    match j,Q,d with
    | 0,_,d|1,_,d|2,_,d|3,_,d|4,_,d|5,_,d=>simpa[Rn.cells,I6.on,I6.vs] using d)
  have F:B.drew.cell? (Addr.add (Addr.add q (k*9)) 6)=some (.slice x.xa x.ask.length x.xc):=by
   have:=aM t 6 _ rfl
   rwa [aL] at this
  have I:((ju C n).take k).length<=100:=by rw[di]; omega
  refine aP o ⟨_,_,_,A.ag 1 rfl 8,aq L ⟨by omega,by omega,x.p,hp,_,_,_,A.ag 1 rfl 8,aq L ⟨by omega,by omega,x.xa,x.ask.length,x.xc,F,aq J ⟨by omega,by omega,u,G,A.aB (⟨x.p,u⟩:Ch).cells.toArray λ r2 Y N=>?_⟩⟩⟩⟩;refine JW (x:=⟨x.p,u⟩) (N.out 1 rfl) (N.cellsIn 0 rfl) (by omega) λ a' c' Z E=>?_;have E:=E.back (i:=1) (by show 1<4; decide);have P:(ju C n).take k++[⟨x.p,u⟩]=(ju C n).take (k+1):=by rw[aH y]
  rw[P] at E ⊢;exact jZ (by omega) ⟨rfl,E.ay [1,2,3]⟩
 ·obtain rfl:k=(ju C n).length:=by omega
  rw[br] at K ⊢;exact aU o ⟨_,_,rfl,K.first⟩
def St.gN{w0 w:af}{l:List aI}{B:aI}(i:Nat)(s:St w0 w (Sep l))(e:l[i]?=some B):St w0 w B:=(s.out i e).first
def cH:Array Value:=#[.slice none 0 0,.slice none 0 0,.slice none 0 0,.slice none 0 0,iv 0,iv 0,iv 0,iv 0,.slice none 0 0,iv 0,iv 0,iv 0,iv 0,iv 0,iv 0,.slice none 0 0,.slice none 0 0,.slice none 0 0,.bool false]
set_option maxHeartbeats 1000000 in
theorem wg{w0 w:af}{B:aI}{C:Ck}(s:St w0 w (Sep [held C.bF,B]))(h8:C.dp.length<=1000) :
  CP 145 #[.agg C.cells.toArray] w (λ r w'=>∃ a:Ck,a.er=(hJ C).er/\a.s=C.s/\r=.agg a.cells.toArray/\St w0 w' (Sep [held a.bF,B])):=by
 refine xM.2.2.2.2.2.1 ?_;have fin:∀ {g1 g2:Nat},(((C.cells.toArray.setIfInBounds 15 (.slice (qs g1) C.dp.length C.dp.length)).setIfInBounds 16 (.slice (qs g2) C.dp.length C.dp.length))=({ hJ C with xa:=qs g1,xc:=C.dp.length,ya:=qs g2,yc:=C.dp.length }:Ck).cells.toArray):=by
  intro g1 g2;have e:(hJ C).ask.length=C.dp.length:=by simp[hJ]
  have f:(hJ C).bd.length=C.dp.length:=by simp[hJ]
  show _=(Ck.cells _).toArray;simp only[Ck.cells];rw[e,f]; rfl
 refine s.aB C.cells.toArray λ r1 u s1=>s1.aB cH λ r2 v s2=>⟨_,_,_,s2.ag 1 rfl 17,?_⟩;refine cZ (x:=z6) yB bE rfl s2 (n:=C.dp.length) (by omega) (by omega) λ g1 y c3 g=>?_;refine St.aN (l:=[_,_,_,_,_]) g 2 rfl (j:=15) (show 15<19 by decide) rfl λ z c=>⟨_,_,_,c.ag 2 rfl 17,?_⟩;refine cZ (x:=false) tS dj rfl c (n:=C.dp.length) (by omega) (by omega) λ g2 A c5 h=>?_;refine St.aN (l:=[_,_,_,_,_,_]) h 3 rfl (j:=16) (show 16<19 by decide) rfl λ q b=>?_;let a:Ck:={ hJ C with xa:=qs g1,xc:=C.dp.length,ya:=qs g2,yc:=C.dp.length };have b:St w0 q (Sep [gO (qs g2) C.dp.length (List.replicate C.dp.length false),eV (qs g1) C.dp.length (List.replicate C.dp.length z6),aj r2 cH 87,aj r1 ((C.cells.toArray.setIfInBounds 15 (.slice (qs g1) C.dp.length C.dp.length)).setIfInBounds 16 (.slice (qs g2) C.dp.length C.dp.length)) 87,held C.bF,B]):=b;rw[fin] at b;refine Ex8<|Ex8<|⟨_,_,_,a.p,Ex8 ⟨_,_,b.cellsIn 3 rfl,b.az 2 rfl a.cells rfl a.one λ t d=>(Ex8<|Ex8<|⟨_,_,_,a.p,Ex8 ⟨_,_,d.cellsIn 2 rfl,a,rfl,rfl,rfl,?_⟩⟩)⟩⟩;have m:St w0 t (Sep [gO (qs g2) C.dp.length (List.replicate C.dp.length false),eV (qs g1) C.dp.length (List.replicate C.dp.length z6),held C.bF,B]):=d.ay [0,1,4,5];have o:=St.fX m (bn dj) (bn bE) (S:=λ w=>cP 1 bl w a.ya a.bd/\cP 6 I6.vs w a.xa a.ask) λ w h1 h2=>⟨h1,h2⟩;exact St.fX o (aW _) (aW _) λ w h1 h2=>(⟨h1.2,h1.1,h2.dp,h2.cl,h2.i,h2.k⟩:a.bF w)
set_option maxHeartbeats 4000000 in
theorem Px{w0 w:af}{B:aI}{C:Ck}(s:St w0 w (Sep [held C.bF,B]))(hk:C.Ok)(hS:∀ {w'},St w0 w' B->C.s.In w'){n:Nat}{y:Br}(hy:C.s.bd[n]?=some y)(u:I6) :
  CP 95 #[.agg C.cells.toArray,iv n,.agg u.vs.toArray] w (λ r w'=>∃ f:Ck,f.er=(if gX C n y u=0 then oK C n u else C).er/\f.s=C.s/\(gX C n y u≠0->f=C)/\r=.tuple #[.agg f.cells.toArray,iv (gX C n y u)]/\St w0 w' (Sep [held f.bF,B])):=by
 refine(p6 xM).1 ?_;have hn:=(aR.1 hy).1;have hdl:=hk.dp; have hal:=hk.ask; have hbl:=hk.bd; have h30:=hk.cl; have h8:=hk.s.bd.l2;refine s.aB C.cells.toArray λ r1 w1 s1=>s1.aB u.vs.toArray λ r2 w2 s2=>s2.aB cH λ r3 w3 g=>?_;have g:St w0 w3 (Sep [aj r3 cH 87,aj r2 u.vs.toArray 42,aj r1 C.cells.toArray 87,held C.bF,B]):=g;refine⟨C.ov,g.ag 2 rfl 18,?_⟩
 by_cases m:C.ov=true
 ·have e:gX C n y u=10:=by rw[gX,m]; rfl
  exact cT m (Ex8<|Ex8<|⟨_,_,_,C.p,Ex8 ⟨_,_,g.cellsIn 2 rfl,g.az 0 rfl C.cells rfl C.one λ w6 I=>(Ex8<|Ex8<|⟨_,_,_,C.p,Ex8 ⟨_,_,I.cellsIn 0 rfl,C,by rw[e,ah (by decide)],rfl,λ _=>rfl,by rw[e]; rfl,I.ay [3,4]⟩⟩)⟩⟩)
 have m:C.ov=false:=by simpa using m
 refine cF m ⟨λ b w5=>b=false/\w5=w3,?_,aU (by omega) ⟨_,_,_,g.ag 2 rfl 17,dF (by omega),rfl⟩⟩;rintro w5 b ⟨rfl,rfl⟩ -;have hx:C.dp[n]?=some (C.dp[n]'(by omega)):=gE (by omega);have J:C.dp.getD n false=C.dp[n]'(by omega):=by rw[aJ,hx]; rfl
 generalize C.dp[n]'(by omega)=x at hx J;have W:∀ {w':af} {L:List aI} {i:Nat},St w0 w' (Sep L)->L[i]?=some (held C.bF)->C.bF w':=λ s e=>s.bC _ e;obtain⟨q,hq,Z⟩:=((W g (i:=3) rfl).dp).at hx;refine cF rfl ⟨_,_,_,g.ag 2 rfl 17,aq hq ⟨by omega,by omega,x,Z.1,?_⟩⟩
 cases x with
 | true =>
  have e:gX C n y u=10:=by rw[gX,J]; simp
  exact cT rfl (Ex8<|Ex8<|⟨_,_,_,C.p,Ex8 ⟨_,_,g.cellsIn 2 rfl,g.az 0 rfl C.cells rfl C.one λ w6 I=>(Ex8<|Ex8<|⟨_,_,_,C.p,Ex8 ⟨_,_,I.cellsIn 0 rfl,C,by rw[e,ah (by decide)],rfl,λ _=>rfl,by rw[e]; rfl,I.ay [3,4]⟩⟩)⟩⟩)
 | false =>
 have e0:gX C n y u=if fP C.s n y u≠0 then fP C.s n y u else if tJ y ⟨C.p,u⟩≠0 then tJ y ⟨C.p,u⟩ else yf C.o.rule C.s y (sZ C n) ⟨C.p,u⟩:=by rw[gX,m,J]; rfl
 refine cF rfl (Ex8<|Ex4<|⟨g.aQ 2 0 rfl rfl,u,g.cellsIn 1 rfl,au (v7 (hS (by first|exact St.gN 1 g rfl|exact St.gN 2 g rfl|exact St.gN 3 g rfl|exact St.gN 4 g rfl|exact St.gN 5 g rfl|exact St.gN 6 g rfl|exact St.gN 7 g rfl|exact St.gN 8 g rfl|exact St.gN 9 g rfl|exact St.gN 10 g rfl)) hk.s hy u) ?_⟩);rintro v w8 ⟨rfl,c8⟩;have s8:=g.quiet c8;refine⟨_,rfl,C.p,s8.aQ 2 9 rfl rfl,u,s8.cellsIn 1 rfl,s8.aB nt.cells.toArray λ r4 w9 s9=>s9.az 0 rfl (Ch.mk C.p u).cells rfl (Ch.one _) λ w10 a=>?_⟩;have a:St w0 w10 (Sep [aj r4 (Ch.mk C.p u).cells.toArray 218,aj r3 cH 87,aj r2 u.vs.toArray 42,aj r1 C.cells.toArray 87,held C.bF,B]):=a;let M:List aI:=[aj r4 (Ch.mk C.p u).cells.toArray 218,aj r3 cH 87,aj r2 u.vs.toArray 42,aj r1 C.cells.toArray 87,held C.bF,B];have hu:fP C.s n y u=0->I6.Le u 4:=λ h1=>by
  unfold fP at h1
  split at h1
  ·rename_i h; exact Bl h
  ·cases h1
 refine⟨λ k G=>k=(if fP C.s n y u≠0 then fP C.s n y u else tJ y ⟨C.p,u⟩)/\St w0 G (Sep M),?_,?_⟩
 rotate_left
 ·by_cases h1:fP C.s n y u=0
  ·have hc:(Ch.mk C.p u).Ok:=⟨zn hk.p,hu h1⟩;refine cT (by rw[h1]; rfl) (Ex8<|Ex4<|⟨a.aQ 3 0 rfl rfl,C.p,u,a.cellsIn 0 rfl,au (GB (c:=⟨C.p,u⟩) ⟨(hS (by first|exact St.gN 1 a rfl|exact St.gN 2 a rfl|exact St.gN 3 a rfl|exact St.gN 4 a rfl|exact St.gN 5 a rfl|exact St.gN 6 a rfl|exact St.gN 7 a rfl|exact St.gN 8 a rfl|exact St.gN 9 a rfl|exact St.gN 10 a rfl)),hk.s⟩ hy hc) ?_⟩);rintro v G ⟨rfl,X⟩;exact⟨_,rfl,by rw[ah (by simpa using h1)],a.quiet X⟩
  ·exact cF (by simpa using h1) ⟨by rw[ak h1],a⟩
 rintro G k ⟨D,Q⟩ -;refine⟨λ k2 U=>k2=gX C n y u/\St w0 U (Sep M),?_,?_⟩
 rotate_left
 ·by_cases K:k=0
  ·have h1:fP C.s n y u=0:=by
    by_cases h1:fP C.s n y u=0
    ·exact h1
    ·rw[ak h1] at D; omega
   have h2:tJ y ⟨C.p,u⟩=0:=by rw[ah (by simpa using h1)] at D; omega
   have hc:(Ch.mk C.p u).Ok:=⟨zn hk.p,hu h1⟩;have l:St w0 G.drew (Sep M):=Q.quiet (aC.drew G []);refine cT (by rw[K]; rfl) (Ex8<|Ex4<|⟨l.aQ 3 0 rfl rfl,C.o.rule,l.ag 3 rfl 7,Ex8<|Ex8<|⟨_,_,_,C.p,Ex8 ⟨_,_,l.cellsIn 3 rfl,C.p,u,l.cellsIn 0 rfl,au (we (W l (i:=4) rfl) hk n) ?_⟩⟩⟩);rintro v w23 ⟨a',c',rfl,P⟩;have ec:ju C n=sZ C n:=by unfold ju; rw[ah (by omega),aD]
   rw[ec] at P ⊢;have d:St w0 w23 (Sep (_ :: _)):=l.and P;have hlen:(sZ C n).length=C.cl.length:=by simp[sZ]
   refine⟨_,_,_,rfl,d.cellsIn 1 rfl,d.ag 4 rfl 7,d.aQ 4 0 rfl rfl,au (GA ⟨(hS (by first|exact St.gN 1 d rfl|exact St.gN 2 d rfl|exact St.gN 3 d rfl|exact St.gN 4 d rfl|exact St.gN 5 d rfl|exact St.gN 6 d rfl|exact St.gN 7 d rfl|exact St.gN 8 d rfl|exact St.gN 9 d rfl|exact St.gN 10 d rfl)),hk.s⟩ hy (St.rd Ch.len d) (by omega) (JY hk) hc C.o.rule) ?_⟩;rintro v w24 ⟨rfl,Y⟩;refine⟨_,rfl,?_,(d.quiet Y).ay [1,2,3,4,5,6]⟩;rw[e0,ah (by simpa using h1),ah (by simpa using h2)]
  ·refine cF (by simpa using K) ⟨?_,Q⟩;rw[D,e0]
   by_cases h1:fP C.s n y u=0
   ·rw[ah (by simpa using h1),ah (by simpa using h1)];rw[ah (by simpa using h1)] at D;rw[ak (by rw[<- D]; exact K)]
   ·rw[ak h1,ak h1]
 rintro U k2 ⟨rfl,l⟩ -
 by_cases O:gX C n y u=0
 rotate_left
 ·have e:gX C n y u=gX C n y u:=rfl;exact cT (by simpa using O) (Ex8<|Ex8<|⟨_,_,_,C.p,Ex8 ⟨_,_,l.cellsIn 3 rfl,l.az 1 rfl C.cells rfl C.one λ w6 I=>(Ex8<|Ex8<|⟨_,_,_,C.p,Ex8 ⟨_,_,I.cellsIn 1 rfl,C,by rw[ah O],rfl,λ _=>rfl,rfl,I.ay [4,5]⟩⟩)⟩⟩)
 refine cF (by rw[O]; rfl) (l.aB #[] λ r5 w14 E=>⟨_,_,_,E.ag 4 rfl 15,?_⟩);have E:St w0 w14 (star (eV (qs r5) 0 []) (Sep M)):=St.weak E (bz.left (dO (n:=0) (sz:=6) rfl (by decide)));refine Fc E (W (L:=_ :: M) E (i:=5) rfl).ask (by omega) λ a1 c1 w15 N=>?_;have N:St w0 w15 (Sep (eV a1 c1 C.ask :: M)):=N;refine N.aN 4 rfl (j:=15) (by show 15<19; decide) rfl λ w16 s16=>s16.aB #[] λ r6 V F=>⟨_,_,_,F.ag 5 rfl 16,?_⟩;have F:St w0 V (Sep [aj r6 #[] 4,eV a1 c1 C.ask,aj r4 (Ch.mk C.p u).cells.toArray 218,aj r3 cH 87,aj r2 u.vs.toArray 42,aj r1 (C.cells.toArray.setIfInBounds 15 (.slice a1 C.ask.length c1)) 87,held C.bF,B]):=F;have R:St w0 V (star (gO (qs r6) 0 []) (Sep [eV a1 c1 C.ask,aj r4 (Ch.mk C.p u).cells.toArray 218,aj r3 cH 87,aj r2 u.vs.toArray 42,aj r1 (C.cells.toArray.setIfInBounds 15 (.slice a1 C.ask.length c1)) 87,held C.bF,B])):=St.weak F (bz.left (dO (n:=0) (sz:=1) rfl (by decide)));refine bQ (l2:=C.bd) tS dj wO R (W F (i:=6) rfl).bd (by simp only[eY]; omega) (by simp only[eY]; omega) λ a2 c2 w18 t=>?_;rw[lC] at t ⊢;have t:St w0 w18 (Sep [gO a2 c2 C.bd,eV a1 c1 C.ask,aj r4 (Ch.mk C.p u).cells.toArray 218,aj r3 cH 87,aj r2 u.vs.toArray 42,aj r1 (C.cells.toArray.setIfInBounds 15 (.slice a1 C.ask.length c1)) 87,held C.bF,B]):=t;obtain⟨g1,rfl⟩:=(t.out 1 rfl).iS (by omega);obtain⟨g2,rfl⟩:=(t.out 0 rfl).iS (by omega);let f:Ck:={ oK C n u with xa:=qs g1,xc:=c1,ya:=qs g2,yc:=c2 };have fin:((C.cells.toArray.setIfInBounds 15 (.slice (qs g1) C.ask.length c1)).setIfInBounds 16 (.slice (qs g2) C.bd.length c2))=f.cells.toArray:=by
  have e1:f.ask.length=C.ask.length:=by show(C.ask.set n u).length=_; rw[dN]
  have e2:f.bd.length=C.bd.length:=by show(C.bd.set n true).length=_; rw[dN]
  show _=(Ck.cells _).toArray;simp only[Ck.cells];rw[e1,e2]; rfl
 refine t.aN 5 rfl (j:=16) (by show 16<19; decide) rfl λ w19 z=>?_;have z:St w0 w19 (Sep [gO (qs g2) c2 C.bd,eV (qs g1) c1 C.ask,aj r4 (Ch.mk C.p u).cells.toArray 218,aj r3 cH 87,aj r2 u.vs.toArray 42,aj r1 ((C.cells.toArray.setIfInBounds 15 (.slice (qs g1) C.ask.length c1)).setIfInBounds 16 (.slice (qs g2) C.bd.length c2)) 87,held C.bF,B]):=z;rw[fin] at z;have ea:f.ask.length=C.ask.length:=by show(C.ask.set n u).length=_; rw[dN]
 have eb:f.bd.length=C.bd.length:=by show(C.bd.set n true).length=_; rw[dN]
 refine⟨_,_,_,z.ag 5 rfl 15,u,z.cellsIn 4 rfl,aq rfl ⟨by omega,by omega,?_⟩⟩;rw[aD];refine St.su bE (x:=u) u.one (z.out 1 rfl) (i:=n) (by omega) λ w20 A=>?_;have A:=A.back (i:=1) (by show 1<8; decide);have A:St w0 w20 (Sep [gO (qs g2) c2 C.bd,eV (qs g1) c1 (C.ask.set n u),aj r4 (Ch.mk C.p u).cells.toArray 218,aj r3 cH 87,aj r2 u.vs.toArray 42,aj r1 f.cells.toArray 87,held C.bF,B]):=A;refine⟨_,_,_,A.ag 5 rfl 16,aq rfl ⟨by omega,by omega,?_⟩⟩;refine St.gu (v:=.bool) (x:=true) rfl (A.out 0 rfl) (i:=n) (by omega) λ w21 H=>?_;have H:St w0 w21 (Sep [gO (qs g2) c2 (C.bd.set n true),eV (qs g1) c1 (C.ask.set n u),aj r4 (Ch.mk C.p u).cells.toArray 218,aj r3 cH 87,aj r2 u.vs.toArray 42,aj r1 f.cells.toArray 87,held C.bF,B]):=H;refine Ex8<|Ex8<|⟨_,_,_,f.p,Ex8 ⟨_,_,H.cellsIn 5 rfl,H.az 3 rfl f.cells rfl f.one λ w22 T=>(Ex8<|Ex8<|⟨_,_,_,f.p,Ex8 ⟨_,_,T.cellsIn 3 rfl,f,?_,rfl,λ h=>absurd O h,by rw[O]; rfl,?_⟩⟩)⟩⟩
 ·rw[ak O]; rfl
 have s23:St w0 w22 (Sep [gO (qs g2) c2 (C.bd.set n true),eV (qs g1) c1 (C.ask.set n u),held C.bF,B]):=T.ay [0,1,6,7];have s24:=St.fX s23 (bn dj) (bn bE) (S:=λ w=>cP 1 bl w f.ya f.bd/\cP 6 I6.vs w f.xa f.ask) λ w h1 h2=>⟨h1,h2⟩;exact St.fX s24 (aW _) (aW _) λ w h1 h2=>(⟨h1.2,h1.1,h2.dp,h2.cl,h2.i,h2.k⟩:f.bF w)
def LI{w0 w:af}{X:aI}(h:St w0 w X):St w0 w (star emp X):=(h.eqv (bX.unit X)).swap
def St.Yg{w0 w:af}{A:aI}{L:List aI}(h:St w0 w (star A (Sep L))):St w0 w (Sep (A :: L)):=h
set_option maxHeartbeats 8000000 in
theorem Py{w:af}{S:Se}(h:S.In w)(o:Po) :
  CP 94 #[.agg S.arr,o.v] w (λ r w'=>(Am S o≠0/\r=.tuple #[.agg cH,iv (Am S o)]/\aC w w' [])\/(Am S o=0/\S.Ok/\o.ok/\∃ i:Ck,i.er=(kg S o).er/\i.s=S/\r=.tuple #[.agg i.cells.toArray,iv 0]/\St w w' (held i.bF))):=by
 refine xM.2.2.2.1 ?_;refine aG S.arr λ r1 F s1=>s1.aB o.cells.toArray λ r2 G s2=>s2.aB cH λ r3 H p=>(Ex8<|Ex4<|⟨p.cellsIn 2 rfl,au (nY (h.av p.av)) ?_⟩);rintro v A ⟨⟨rfl,he⟩,c4⟩;have q:St w A (Sep [aj r3 cH 87,aj r2 o.cells.toArray 24,aj r1 S.arr 73,emp]):=p.quiet c4;refine⟨_,rfl,λ e j=>e=Am S o/\St w j (Sep [aj r3 cH 87,aj r2 o.cells.toArray 24,aj r1 S.arr 73,emp]),?_,?_⟩
 rotate_left
 ·by_cases g:tv S=0
  ·refine cT (by rw[g]; rfl) ⟨_,_,_,_,q.cellsIn 1 rfl,au (uH A o) ?_⟩;rintro v j ⟨rfl,c5⟩;exact⟨_,rfl,by rw[Am,ah (λ h=>h g)],q.quiet c5⟩
  ·exact cF (by simpa using g) ⟨by rw[Am,ak g],q⟩
 rintro j e ⟨rfl,t⟩ -
 by_cases d:Am S o=0
 rotate_left
 ·exact cT (by simpa using d) (t.az 0 rfl cH.toList rfl (by simp[cH,Value.oneCell']) λ I y=>(Ex8<|Ex8<|⟨_,_,_,z6,Ex8 ⟨_,_,y.cellsIn 0 rfl,.inl ⟨d,rfl,y.av⟩⟩⟩))
 have g:tv S=0:=by
  unfold Am at d
  split at d
  ·rename_i k; exact absurd d k
  ·rename_i k; exact Decidable.not_not.1 k
 have l:S.Ok:=he.1 g;have u:o.ok:=by
  rw[Am,ah (λ h=>h g),ki] at d
  split at d
  ·assumption
  ·exact absurd d (by decide)
 have z:=l.bd.l2;let CC (a b c:Nat):Ck:={ kg S o with xa:=qs a,xc:=S.bd.length,ya:=qs b,yc:=S.bd.length,za:=qs c,zc:=S.bd.length };have B:∀ (a b c:Nat),(CC a b c).cells=((.slice S.a1 S.ps.length S.c1) :: ((.slice S.a2 S.bd.length S.c2) :: ((.slice S.a3 S.cp.length S.c3) :: ((.slice S.a4 S.sa.length S.c4) :: ((iv o.step) :: ((iv o.pct) :: ((iv o.und) :: ((iv o.rule) :: ((.slice none 0 0) :: ((gw S.ps).on [.slice (qs a) S.bd.length S.bd.length,.slice (qs b) S.bd.length S.bd.length,.slice (qs c) S.bd.length S.bd.length,.bool false]))))))))):List Value):=λ a b c=>by
  simp only[CC,kg,Ck.cells,j6,eY]
 have fin:∀ {a b c:Nat} {w':af},St w w' (Sep [eV (qs a) S.bd.length (List.replicate S.bd.length z6),gO (qs b) S.bd.length (List.replicate S.bd.length false),gO (qs c) S.bd.length (List.replicate S.bd.length false)])->St w w' (held (CC a b c).bF):=λ {a b c w'} s =>
  (s.held ((bn bE).cons ((bn dj).cons ((bn dj).cons js.nil)))).weak (eI λ D ⟨i1,i2,i3,_⟩=>⟨i1,i2,i3,BM.nil,λ x C=>by simp[CC,kg] at C,aO 0⟩)
 refine cF (by rw[d]; rfl) ⟨_,_,_,t.ag 2 rfl 1,?_⟩;have s:=St.Yg (LI (St.Yg (LI (St.Yg (LI (t.quiet (aC.drew j [])))))));refine Ex8<|Ex4<|⟨s.cellsIn 5 rfl,_,_,_,_,s.cellsIn 4 rfl,_,_,_,s.ag 5 rfl 0,?_⟩
 repeat' first
  | with_reducible refine And.intro ?_ ?_
  | ((with_reducible refine au (IQ (h.av s.av).ps) ?_); rintro v w ⟨rfl,c⟩; replace s:=s.quiet c; refine⟨_,rfl,?_⟩)
  | ((with_reducible refine cZ (x:=z6) yB bE ?_ s (n:=S.bd.length) ?_ ?_ λ g w c m=>?_); rfl; omega; omega; replace s:=(St.Yg m).ay [0,2,3,4,5,6,7])
  | ((with_reducible refine cZ (x:=false) tS dj ?_ s (n:=S.bd.length) ?_ ?_ λ g w c m=>?_); rfl; omega; omega; replace s:=(St.Yg m).ay [1,0,2,4,5,6,7])
  | (rw[<- B]; first|exact s.az 3 rfl _ rfl (CC _ _ _).one λ E f=>(Ex8<|Ex8<|⟨_,_,_,gw S.ps,Ex8 ⟨_,_,f.cellsIn 3 rfl,.inr ⟨d,l,u,CC _ _ _,rfl,rfl,rfl,fin (f.ay [0,1,2])⟩⟩⟩)|exact s.az 3 rfl _ rfl (CC _ _ _).one λ E f=>(Ex8<|Ex8<|⟨_,_,_,gw S.ps,Ex8 ⟨_,_,f.cellsIn 3 rfl,.inr ⟨d,l,u,CC _ _ _,rfl,rfl,rfl,fin (f.ay [0,2,1])⟩⟩⟩))
  | exact s.ag 5 rfl 0
  | exact s.cellsIn 4 rfl
  | exact s.cellsIn 5 rfl
end Go.Proofs.YtjcfdidmajodiaaGreatDoor
set_option maxHeartbeats 4000000
namespace Go.Proofs.YtjcfdidmajodiaaGreatDoor
open Go Go.Vc Go.Vt _root_.Go.Proofs.Tryz
def nO:=many uj [en func130 [] [],en func89 [] [(7,[]),(15,[]),(122,[(15,.s .bool)])],en func131 [] [],en func91 [] [(7,[(3,.s .str)]),(15,[(3,.s .str)]),(122,[(18,.s .bool)]),(7866,[(3,.s .str),(4,.s (.int .i64))])],en func55 [] [(6,[(16,.s .bool)]),(14,[(40,.s .bool)])],en func58 [] [],en func133 [] [],en func132 [] [],en func59 [] [],en func102 [] [(58,[(3,.s (.int .u64)),(4,.s (.int .i64))])],en func103 [] [(58,[(0,.s (.int .u64)),(5,.s .str),(6,.s (.int .i64))])],en func134 [] [(58,[(5,.s .slice),(6,.s (.int .i64))]),(233,[(5,.s .slice)])],en func238 [] [(6,[(18,.s .bool)]),(58,[(4,.s (.int .i64))]),(932,[(34,.s .bool)]),(506,[(5,.s (.int .i64)),(6,.s (.int .i64))])],en func177 [] [(58,[(6,.s .slice),(7,.s (.int .i64))])]] (by conv=>lhs;reduce) (by kernel_rfl) λ x=>by
 dsimp only[fj,fh,ff,fe,fk,fm,fq,tF,iP,en,sV,wrap,dc,dn,qA,gU,tW,U.I,U.B,U.S,U.N,U.A,U.O,U.W,U.V,U.L,U.U6,U.C,U.M,U.F,U.E,tP,tN,tI,oo,jU,gJ,kr,jq,TJ,Nat.reduceSub,Nat.reduceAdd,Int.reduceOfNat,Int.reduceNeg,UInt8.reduceOfNat] at x
 exact x
def Aw:=(p6 nO).1
def oQ:=many uj [en func135 [] [(7,[(6,.s (.int .i64))]),(63,[(7,.s (.int .i64))]),(511,[]),(506,[(32,.s .bool)]),(64882,[(7,.s (.int .i64)),(8,.s (.int .i64))]),(259528,[(51,.s .bool)]),(259529,[(7,.s (.int .i64))]),(16221,[(72,.s .bool)]),(943,[(21,.s .bool)])],en func93 [] [(250,[(7,.s (.int .i64))]),(1001,[]),(8009,[(8,.s .blk),(9,.s (.int .i64))])],en func176 [] [(26,[(6,.s (.int .i64))])],en func243 [(0,.k (.s .blk))] [(6,[(15,.s .bool)])],en func305 [(0,.k (.s .blk))] [(7,[]),(14,[(18,.s .bool)])],en func246 [(0,.k (.s .blk))] [],en func304 [(0,.k (.s .blk))] [(1,[])],en func248 [(0,.k (.s .blk))] [(14,[(16,.s .bool)])],en func247 [(0,.k (.s .blk))] [],en func245 [(0,.k (.s .blk))] [],en func249 [(0,.k (.s .blk))] [(30,[(21,.s .bool)])],en func192 [(0,.k (.s .blk))] [(6,[(15,.s .bool)])],en func190 [] [(124,[(4,.s .slice),(5,.s (.int .i64))])]] (by conv=>lhs;reduce) (by kernel_rfl) λ x=>by
 dsimp only[fj,fh,ff,fe,fk,fm,fq,tF,iP,en,sV,wrap,dc,dn,qA,gU,tW,U.I,U.B,U.S,U.N,U.A,U.O,U.W,U.V,U.L,U.U6,U.C,U.M,U.F,U.E,tP,tN,tI,oo,jU,gJ,kr,jq,TJ,Nat.reduceSub,Nat.reduceAdd,Int.reduceOfNat,Int.reduceNeg,UInt8.reduceOfNat] at x
 exact x
end Go.Proofs.YtjcfdidmajodiaaGreatDoor
namespace Go.Proofs.YtjcfdidmajodiaaGreatDoor
open Go Go.Vc _root_.Go.Proofs.Tryz
def Mo(w:af)(l:List UInt8)(d:l.length<=9223372036854775807):CP 102 #[sv l] w (λ r w'=>r=.int .u64 (FL l:Nat)/\w'=w):=by
 refine(p6 nO).2.2.2.1 ?_;refine⟨λ n1 n2 c m=>∃ i:Nat,n2=(i:Int)/\i<=l.length/\m=l.length-i/\c=w/\n1=(((l.take i).foldl kf 14695981039346656037:Nat):Int)/\(l.take i).foldl kf 14695981039346656037<18446744073709551616,⟨l.length,0,rfl,by omega,by omega,rfl,by rw[zL,mh]; rfl,by rw[zL,mh]; omega⟩,?_⟩
 rintro c m n1 n2 ⟨i,rfl,hi,rfl,rfl,rfl,b⟩ -;rw[dX]
 by_cases a:i<l.length
 ·refine aP (by omega) ⟨by omega,?_⟩;rw[aD,gK,gE a];refine⟨l.length-(i+1),by omega,i+1,inc d a,by omega,rfl,rfl,?_,?_⟩
  ·rw[xO _ b,zF (by omega),iJ,fM,mh]
  ·rw[zF (by omega),iJ,fM,mh]; exact rG _ _
 ·refine aU (by omega) ⟨?_,rfl⟩;rw[fN (by omega)]; rfl
def Az(w:af)(x k:Nat)(c:x<18446744073709551616)(d:k<=8):CP 103 #[.int .u64 (x:Int),iv k] w (λ r w'=>r=sv (Cj k x)/\aC w w' []):=by
 refine(p6 nO).2.2.2.2.1 ?_;have hm:IntKind.i64.max=9223372036854775807:=rfl;refine⟨λ n3 s n4 a m=>∃ i:Nat,n4=(i:Int)/\i<=k/\m=k-i/\n3=((x / 256 ^ i:Nat):Int)/\s=bs (Cj i x)/\aC w a [],⟨k,0,rfl,by omega,by omega,by simp,rfl,aC.refl _ _⟩,?_⟩;rintro a m n3 s n4 ⟨i,rfl,hi,rfl,rfl,rfl,hc⟩ -
 by_cases b:i<k
 ·have hd:x / 256 ^ i<18446744073709551616:=JD (Nat.div_le_self _ _) c;have h1:IntKind.u8.wrap (Int.tmod ((x / 256 ^ i:Nat):Int) 256)=((UInt8.ofNat (x / 256 ^ i%256)).toNat:Int):=by
   rw[show Int.tmod ((x / 256 ^ i:Nat):Int) 256=((x / 256 ^ i%256:Nat):Int) from rfl,ET,Nat.mod_mod]
  refine aP (by omega) ⟨by decide,bg (mI underlying99 underlying5 underlying9 h1 ⟨_,rfl,?_,by decide,k-(i+1),by omega,i+1,?_,by omega,rfl,?_,?_,?_⟩)⟩
  ·have h2:(⟨#[UInt8.ofNat (x / 256 ^ i%256)]⟩:ByteArray).size=1:=rfl;rw[dX,bG,h2,hm]; omega
  ·rw[IntWalk.i64_in _ (by omega)]; omega
  ·rw[zI,<- Nf];generalize x / 256 ^ i=q at hd;rw[IntWalk.u64_quo _ _ (by omega)]; omega
  ·rw[FX]; exact gY _ [_]
  ·exact hc.trans (aC.new _ _ []) (by simp)
 ·obtain rfl:i=k:=by omega
  exact aU (by omega) ⟨rfl,hc⟩
def IF(w:af)(x:Nat)(a:x<18446744073709551616)(l:List UInt8)(d:l.length<=4611686018427387904):CP 59 #[.int .u64 (x:Int),sv l] w (λ r w'=>r=.int .u64 (jo x l:Nat)/\aC w w' []):=by
 refine(p6 nO).2.2.1 ?_;have hm:IntKind.i64.max=9223372036854775807:=rfl;refine au (Az w x 8 a (by decide)) ?_;rintro v b ⟨rfl,c1⟩;refine⟨_,rfl,?_⟩;rw[dX,Qy (by omega)];refine au (Az b _ 8 (by omega) (by decide)) ?_;rintro v c ⟨rfl,c2⟩;refine⟨_,rfl,by rw[dX,dX,bG,bG,hm]; omega,?_⟩;rw[gY,gY,dX,aY,bG,bG];refine⟨by rw[hm]; omega,au (Mo c _ (by simp only[aY,bG]; omega)) ?_⟩;rintro v e ⟨rfl,rfl⟩;exact⟨_,rfl,rfl,c1.trans c2 (by simp)⟩
def PF:∀ (k x:Nat) (w:af),x<128 ^ (k+1)->x<18446744073709551616->k<=9->CP 133 #[.int .u64 (x:Int)] w (λ r w'=>r=sv (lV k x)/\aC w w' []):=by
 intro k
 induction k with
 | zero =>
  intro x w m p _;refine Aw ?_;exact aP (by omega) (bg (mI underlying99 underlying5 underlying9 (ET x) ⟨_,rfl,rfl,aC.new _ _ _⟩))
 | succ k q =>
  intro x w m p n;refine Aw ?_
  by_cases c:x<128
  ·refine aP (by omega) (bg (mI underlying99 underlying5 underlying9 (ET x) ⟨_,rfl,?_,aC.new _ _ _⟩));unfold lV; rw[ak c]; rfl
  ·have o:IntKind.u64.wrap (Int.tdiv (x:Int) (128:Int))=((x / 128:Nat):Int):=by
    rw[IntWalk.u64_quo _ _ (by omega)]; omega
   have f:IntKind.u8.wrap (IntKind.u64.wrap ((Int.tmod (x:Int) (128:Int))+(128:Int)))=((UInt8.ofNat (x%128+128)).toNat:Int):=by
    rw[show Int.tmod (x:Int) 128=((x%128:Nat):Int) from rfl,IntWalk.u64_in _ (by omega),IntWalk.u8_in _ (by omega),HA];omega
   have hp:x / 128<128 ^ (k+1):=by rw[zI] at m; omega
   have h:=λ w=>q (x / 128) w hp (by omega) (by omega);have he:lV (k+1) x=UInt8.ofNat (x%128+128) :: lV k (x / 128):=by
    conv=>lhs; unfold lV
    rw[ah c]
   have s:=xF k (x / 128);have hm:IntKind.i64.max=9223372036854775807:=rfl;have h1:(⟨#[UInt8.ofNat (x%128+128)]⟩:ByteArray).size=1:=rfl;have b:((((⟨#[UInt8.ofNat (x%128+128)]⟩:ByteArray).size+(bs (lV k (x / 128))).size:Nat)):Int)<=IntKind.i64.max:=by
    rw[hm,h1,dX]; omega
   have i:Value.string ((⟨#[UInt8.ofNat (x%128+128)]⟩:ByteArray)++bs (lV k (x / 128)))=sv (lV (k+1) x):=by
    rw[he]; exact congrArg Value.string (gY [_] _)
   rw[o];have hd:aC w w.drew []:=aC.drew _ _;refine aU (by omega) ⟨by decide,by decide,⟨bg ⟨?_,?_⟩,?_⟩,?_⟩
   ·refine mI underlying99 underlying5 underlying9 f ⟨_,rfl,au (h _) ?_⟩;rintro v j ⟨rfl,a⟩;exact⟨_,rfl,b,i,(hd.trans (aC.new _ _ []) (by simp)).trans a (by simp)⟩
   ·refine au (h _) ?_;rintro v j ⟨rfl,a⟩;refine⟨_,rfl,?_⟩;have own:=(xp (w:=w.drew.alloc (.cells #[.int .u8 (IntKind.u8.wrap (IntKind.u64.wrap ((Int.tmod (x:Int) (128:Int))+(128:Int))))] 5)) (g:=w.drew.heap.size) (e:=5) (l:=[UInt8.ofNat (x%128+128)]) (by rw[iw,ak rfl,f]; rfl) (by simp));have d:=xR own a (by simp);exact zw (l:=[UInt8.ofNat (x%128+128)]) underlying99 underlying5 underlying9 d ⟨_,rfl,b,i,(hd.trans (aC.new _ _ []) (by simp)).trans a (by simp)⟩
   ·refine au (h _) ?_;rintro v j ⟨rfl,a⟩;exact⟨_,rfl,bg (mI underlying99 underlying5 underlying9 f ⟨_,rfl,b,i,(hd.trans a (by simp)).trans (aC.new _ _ []) (by simp)⟩)⟩
   ·refine au (h _) ?_;rintro v j ⟨rfl,a⟩;exact⟨_,rfl,bg (mI underlying99 underlying5 underlying9 f ⟨_,rfl,b,i,(hd.trans a (by simp)).trans (aC.new _ _ []) (by simp)⟩)⟩
def CH(w:af)(x:Nat)(a:x<18446744073709551616):CP 133 #[.int .u64 (x:Int)] w (λ r w'=>r=sv (sJ x)/\aC w w' []) :=
 PF 9 x w (by omega) a (by decide)
def AL(w:af)(n:Int)(h:0<=n/\n<=9223372036854775807):CP 133 #[.int .u64 (IntKind.u64.wrap n)] w (λ r w'=>r=sv (sJ n.toNat)/\aC w w' []):=by
 have e:IntKind.u64.wrap n=((n.toNat:Nat):Int):=by rw[IntWalk.u64_in _ (by omega)]; omega
 rw[e];exact CH w _ (by omega)
def Mx(w:af)(l:List UInt8)(a:l.length<=4611686018427387904):CP 132 #[sv l] w (λ r w'=>r=sv (sH l)/\aC w w' []):=by
 refine(p6 nO).2.1 ?_;have hm:IntKind.i64.max=9223372036854775807:=rfl;rw[dX];refine au (AL w _ (by omega)) ?_;rintro v b ⟨rfl,c1⟩;have:=kO l.length;refine⟨_,rfl,by rw[dX,hm,aD]; omega,?_,c1⟩;rw[aD]; exact congrArg Value.string (gY _ _)
def GJ(w:af)(k:Int):CP 130 #[iv k] w (λ r w'=>r=.bool (fB k)/\w'=w):=by
 refine nO.1 ?_
 by_cases h2:k=2
 ·exact cT (by simp[h2]) ⟨by simp[fB,h2],rfl⟩
 refine cF (by simpa using h2) ?_
 by_cases a:k=5
 ·exact cT (by simp[a]) ⟨by simp[fB,a],rfl⟩
 refine cF (by simpa using a) ?_
 by_cases b:k=6
 ·exact cT (by simp[b]) ⟨by simp[fB,b],rfl⟩
 refine cF (by simpa using b) ⟨?_,rfl⟩
 by_cases c:k=7<;>simp[fB,h2,a,b,c]
def nZ(w:af)(n:Int)(h:0<=n/\n<=9223372036854775807):CP 131 #[iv n] w (λ r w'=>r=sv (nB n)/\aC w w' []):=by
 refine nO.2.2.1 ?_;refine au (AL w n h) ?_;rintro v a ⟨rfl,c1⟩;exact⟨_,rfl,rfl,c1⟩
def JU{e:Ev}(h:fT e.kind=true):bZ e=(nB e.kind++if fB e.kind then nB e.bidder else [])++sH e.text:=by
 have a:e.kind=1\/e.kind=5:=by simpa[fT] using h
 unfold bZ;rcases a with a | a <;> rw[a]<;>simp[fB,fR,fW,fT,fD]
def Rk{e:Ev}(h:e.kind=2):bZ e=(nB e.kind++if fB e.kind then nB e.bidder else [])++e.want.l.flatMap nB:=by
 unfold bZ; rw[h]; simp[fB,fR,fW,fT,fD]
def Rj{e:Ev}(h:e.kind=8):bZ e=(nB e.kind++if fB e.kind then nB e.bidder else [])++nB e.round:=by
 unfold bZ; rw[h]; simp[fB,fR,fW,fT,fD]
def Ri{e:Ev}(h:e.kind=10):bZ e=(nB e.kind++if fB e.kind then nB e.bidder else [])++nB e.digest:=by
 unfold bZ; rw[h]; simp[fB,fR,fW,fT,fD]
def Rh{e:Ev}(h1:fT e.kind=false)(h2:e.kind≠2)(b:e.kind≠8)(a:e.kind≠10):bZ e=nB e.kind++if fB e.kind then nB e.bidder else []:=by
 unfold bZ; simp[fR,fW,fD,h1,h2,b,a]
def CF(w:af){e:Ev}(K:0<=e.kind/\e.kind<=10)(J:0<=e.bidder/\e.bidder<8)(L:0<=e.round/\e.round<30)(hw:I6.Le e.want 4)(M:e.text.length<=1000000000000)(hd:0<=e.digest/\e.digest<18446744073709551616) :
  CP 91 #[e.v] w (λ r w'=>r=sv (bZ e)/\aC w w' []):=by
 refine nO.2.2.2.1 ?_;have hm:IntKind.i64.max=9223372036854775807:=rfl;have N:=pU e.kind; have l1:=pU e.bidder; have l2:=pU e.round; have l3:=pU e.digest;refine aG e.cells.toArray λ r1 G s1=>?_;refine⟨_,s1.ag 0 rfl 0,au (nZ G e.kind (by omega)) ?_⟩;rintro v H ⟨rfl,c2⟩;have s2:=s1.quiet c2;refine⟨_,rfl,λ s w'=>s=bs (nB e.kind++if fB e.kind then nB e.bidder else [])/\St w w' (Sep [aj r1 e.cells.toArray 45,emp]),?_,_,s2.ag 0 rfl 0,au (GJ H e.kind) ?_⟩
 rotate_left
 ·rintro v o ⟨rfl,rfl⟩;refine⟨_,rfl,?_⟩
  cases hf:fB e.kind with
  | true =>
   refine cT rfl ⟨_,s2.ag 0 rfl 1,au (nZ o e.bidder (by omega)) ?_⟩;rintro v I ⟨rfl,c4⟩;exact⟨_,rfl,by rw[dX,dX,hm]; omega,gY _ _,s2.quiet c4⟩
  | false=>exact cF rfl ⟨by simp,s2⟩
 rintro o s ⟨rfl,d⟩ -;have O:(nB e.kind++if fB e.kind then nB e.bidder else []).length<=20:=by
  have h1:(if fB e.kind then nB e.bidder else []).length<=10:=by
   split
   ·exact l1
   ·exact jJ _
  rw[aY]; omega
 have A:=JU (e:=e); have B:=Rk (e:=e); have z:=Rj (e:=e); have y:=Ri (e:=e); have u:=Rh (e:=e);generalize(nB e.kind++if fB e.kind then nB e.bidder else [])=l at *;refine⟨λ s w'=>s=bs (bZ e)/\aC w w' [],?_,_,d.ag 0 rfl 0,λ b w'=>b=fT e.kind/\w'=o,?_,?_⟩
 ·rintro I s ⟨rfl,c4⟩ -;exact⟨rfl,c4⟩
 rotate_left
 ·by_cases h1:e.kind=1
  ·exact cT (by simp[h1]) ⟨by simp[fT,h1],rfl⟩
  ·refine cF (by simpa using h1) ⟨?_,rfl⟩
   by_cases C:e.kind=5<;>simp[fT,h1,C]
 rintro p b ⟨rfl,rfl⟩ -
 cases hf:fT e.kind with
 | true =>
  refine cT rfl ⟨_,d.ag 0 rfl 9,au (Mx p e.text (by omega)) ?_⟩;rintro v f ⟨rfl,g⟩;have q:=kO e.text.length;have F:(sH e.text).length<=1000000000010:=by unfold sH; rw[aY]; omega
  exact⟨_,rfl,by rw[dX,dX,hm]; omega,(gY _ _).trans (by rw[A hf]),(d.quiet g).av⟩
 | false =>
 refine cF rfl ?_
 by_cases h2:e.kind=2
 ·refine cT (by simp[h2]) ⟨λ s n f m=>∃ k:Nat,n=k/\k<=6/\m=6-k/\s=bs (l++(e.want.l.take k).flatMap nB)/\St w f (Sep [aj r1 e.cells.toArray 45,emp]),⟨6,0,rfl,by omega,by omega,by simp,d⟩,?_⟩;rintro f m s n ⟨k,rfl,D,E,rfl,j⟩ -
  by_cases i:(k:Int)<6
  ·have c:k<6:=by omega
   have hw:=hw k c;refine aP i ⟨by omega,by omega,e.want.at' k,?_,au (nZ f _ (by omega)) ?_⟩
   ·rw[bY,aD,gG,j.ag 0 rfl]
    match k,c with
    | 0,_|1,_|2,_|3,_|4,_|5,_=>rfl
   rintro v R ⟨rfl,t⟩;have P:=DY (e.want.l.take k);have F:(e.want.l.take k).length<=6:=by simp[I6.len]; omega
   have Q:=pU (e.want.at' k);refine⟨_,rfl,by rw[dX,dX,aY,hm]; omega,6-(k+1),by omega,k+1,inc (by decide) c,by omega,rfl,?_,j.quiet t⟩;rw[gY,aH (e.want.pT k c),uo,<- mJ]; simp
  ·obtain rfl:k=6:=by omega
   exact cF (by simp) ⟨by rw[B h2]; rfl,j.av⟩
 refine cF (by simpa using h2) ?_
 by_cases h:e.kind=8
 ·refine cT (by simp[h]) ⟨_,d.ag 0 rfl 2,au (nZ p e.round (by omega)) ?_⟩;rintro v f ⟨rfl,g⟩;exact⟨_,rfl,by rw[dX,dX,hm]; omega,(gY _ _).trans (by rw[z h]),(d.quiet g).av⟩
 refine cF (by simpa using h) ?_
 by_cases a:e.kind=10
 ·refine cT (by simp[a]) ⟨_,d.ag 0 rfl 10,?_⟩;have x:e.digest=((e.digest.toNat:Nat):Int):=by omega
  rw[x];refine au (CH p e.digest.toNat (by omega)) ?_;rintro v f ⟨rfl,g⟩;have:(sJ e.digest.toNat)=nB e.digest:=rfl;rw[this];exact⟨_,rfl,by rw[dX,dX,hm]; omega,(gY _ _).trans (by rw[y a]),(d.quiet g).av⟩
 exact cF (by simpa using a) ⟨by rw[u hf h2 h a],d.av⟩
def Mj(w:af)(e:Ev):CP 89 #[e.v] w (λ r w'=>r=(cD e).v/\aC w w' []):=by
 refine nO.2.1 ?_;let z:Ev:=⟨0,0,0,z6,[],0⟩;refine aG e.cells.toArray λ r1 C s1=>s1.aB z.cells.toArray λ r2 D s2=>?_;refine⟨_,s2.ag 1 rfl 0,s2.aB z.cells.toArray λ r3 E B=>?_⟩;refine B.az 0 rfl ({ z with kind:=e.kind }:Ev).cells rfl (Ev.one _) λ t p=>?_;let P:Ev->af->Prop:=λ x w'=>St w w' (Sep [aj r3 x.cells.toArray 45,aj r2 z.cells.toArray 45,aj r1 e.cells.toArray 45,emp]);let a:Ev:={ z with kind:=e.kind,bidder:=if fB e.kind then e.bidder else 0 };refine⟨P a,?_,_,p.ag 2 rfl 0,au (GJ t e.kind) ?_⟩
 rotate_left
 ·rintro v l ⟨rfl,rfl⟩;refine⟨_,rfl,?_⟩
  cases h:fB e.kind with
  | true =>
   refine cT rfl ⟨_,p.ag 2 rfl 1,p.aN 0 rfl (by show 1<11; decide) rfl λ l c=>?_⟩;show P a l;have:a={ z with kind:=e.kind,bidder:=e.bidder }:=by simp[a,h]
   rw[this]; exact c
  | false =>
   refine cF rfl ?_;have:a={ z with kind:=e.kind }:=by simp[a,h,z]
   show P a l;rw[this]; exact p
 rintro l c -;refine⟨P (cD e),?_,_,St.ag c 2 rfl 0,λ b w'=>b=fT e.kind/\w'=l,?_,?_⟩
 ·rintro u s -;refine⟨_,_,_,(cD e).want,_,_,St.cellsIn s 0 rfl,St.az s 1 rfl (cD e).cells rfl (Ev.one _) λ i d=>⟨_,_,_,(cD e).want,_,_,d.cellsIn 1 rfl,rfl,d.av⟩⟩
 rotate_left
 ·by_cases h1:e.kind=1
  ·exact cT (by simp[h1]) ⟨by simp[fT,h1],rfl⟩
  ·refine cF (by simpa using h1) ⟨?_,rfl⟩
   by_cases y:e.kind=5<;>simp[fT,h1,y]
 rintro u b ⟨rfl,rfl⟩ -
 cases hf:fT e.kind with
 | true =>
  refine cT rfl ⟨_,St.ag c 2 rfl 9,St.aN c 0 rfl (by show 9<11; decide) rfl λ i d=>?_⟩;have n:e.kind=1\/e.kind=5:=by simpa[fT] using hf
  have:cD e={ a with text:=e.text }:=by unfold cD; rcases n with n | n <;> simp[a,z,n,fB,fR,fW,fT,fD]
  show P (cD e) i;rw[this]; exact d
 | false =>
 refine cF rfl ?_
 by_cases h2:e.kind=2
 ·refine cT (by simp[h2]) ⟨e.want,?_,?_⟩
  ·exact bM _ 0 λ j v g=>by
    have q:=(aR.1 g).1;have A:j<6:=q;rw[bY,aL,St.ag c 2 rfl]
    match j,A,g with
    | 0,_,g|1,_,g|2,_,g|3,_,g|4,_,g|5,_,g=>simpa[Ev.cells,I6.on,I6.vs] using g
  ·have a3:∀ {w':af} {R:af->Prop} {x:Ev},P x w'->(∀ m,P { x with want:=e.want } m->R m)->uP ⟨r3,3,none⟩ 0 e.want.vs w' R:=λ {w' R x} hp k=>by
    refine St.aN hp 0 rfl (by show 3<11; decide) rfl λ C t1=>t1.aN 0 rfl (by show 4<11; decide) rfl λ D t2=>t2.aN 0 rfl (by show 5<11; decide) rfl λ F t3=>t3.aN 0 rfl (by show 6<11; decide) rfl λ E t4=>t4.aN 0 rfl (by show 7<11; decide) rfl λ t t5=>t5.aN 0 rfl (by show 8<11; decide) rfl λ l t6=>k l t6
   refine a3 c λ i d=>?_;have:cD e={ a with want:=e.want }:=by unfold cD; simp[a,z,h2,fB,fR,fW,fT,fD]
   show P (cD e) i;rw[this]; exact d
 refine cF (by simpa using h2) ?_
 by_cases o:e.kind=8
 ·refine cT (by simp[o]) ⟨_,St.ag c 2 rfl 2,St.aN c 0 rfl (by show 2<11; decide) rfl λ i d=>?_⟩;have:cD e={ a with round:=e.round }:=by unfold cD; simp[a,z,o,fB,fR,fW,fT,fD]
  show P (cD e) i;rw[this]; exact d
 refine cF (by simpa using o) ?_
 by_cases f:e.kind=10
 ·refine cT (by simp[f]) ⟨_,St.ag c 2 rfl 10,St.aN c 0 rfl (by show 10<11; decide) rfl λ i d=>?_⟩;have:cD e={ a with digest:=e.digest }:=by unfold cD; simp[a,z,f,fB,fR,fW,fT,fD]
  show P (cD e) i;rw[this]; exact d
 refine cF (by simpa using f) ?_;have:cD e=a:=by unfold cD; simp[a,z,h2,o,f,hf,fR,fW,fD]
 show P (cD e) u;rw[this]; exact c
def AB(w:af){e:Ev}(hi:e.In)(H:e.text.length<=1000000000000):CP 55 #[e.v] w (λ r w'=>r=iv (fE e)/\aC w w' []):=by
 refine nO.2.2.2.2.1 ?_;refine aG e.cells.toArray λ r1 g s1=>?_;let s:Prop:=¬ (1<=e.kind/\e.kind<=10)\/e≠cD e;let t:Prop:=e.bidder<0\/8<=e.bidder\/e.round<0\/30<=e.round\/e.want.l.all iy=false;let I:Prop:=4000<e.text.length\/4000<(bZ e).length;refine⟨λ b p=>(b=true<->s)/\aC g p [],?_,?_⟩
 ·rintro p b ⟨i,c2⟩ -;have s2:=s1.quiet c2
  cases b with
  | true=>exact cT rfl ⟨by unfold fE; rw[ak (i.1 rfl)],s2.av⟩
  | false =>
   have n1 : ¬ s:=λ h=>by have:=i.2 h; cases this
   refine cF rfl ⟨λ b q=>(b=true<->t)/\aC g q [],?_,?_⟩
   ·rintro q b ⟨i,c3⟩ -;have n:=s1.quiet c3
    cases b with
    | true=>exact cT rfl ⟨by unfold fE; rw[ah n1,ak (i.1 rfl)],n.av⟩
    | false =>
     have n2 : ¬ t:=λ h=>by have:=i.2 h; cases this
     have hw:e.want.l.all iy=true:=by
      cases hq:e.want.l.all iy with
      | true=>rfl
      | false=>exact absurd (.inr (.inr (.inr (.inr hq)))) n2
     refine cF rfl ⟨_,_,_,e.want,_,_,n.cellsIn 0 rfl,au (CF q (e:=e) (by omega) (by omega) (by omega) (Bl hw) H hi.d) ?_⟩;rintro v J ⟨rfl,c5⟩;have u:1<=e.kind/\e.kind<=10:=iK λ h=>n1 (.inl h);have o:e=cD e:=iK λ h=>n1 (.inr h);have G:4000<e.text.length->4000<(bZ e).length:=λ h=>by
      cases hf:fT e.kind with
      | true=>rw[JU hf]; unfold sH; simp only[aY]; omega
      | false =>
       have:e.text=[]:=by
        have h2:e.text=(cD e).text:=congrArg Ev.text o;rw[h2]; simp[cD,hf]
       rw[this] at h; simp at h
     have E:(fE e:Int)=if 4000<(bZ e).length then 3 else 0:=by
      unfold fE; rw[ah n1,ah n2]
      by_cases h3:4000<(bZ e).length
      ·rw[ak (.inr h3),ak h3]
      ·rw[ah (λ h=>by rcases h with h|h; exact h3 (G h); exact h3 h),ah h3]
     refine⟨_,rfl,?_⟩;rw[dX,E]
     by_cases h3:4000<(bZ e).length
     ·exact aP (by omega) ⟨by rw[ak h3],(n.quiet c5).av⟩
     ·exact aU (by omega) ⟨by rw[ah h3],(n.quiet c5).av⟩
   ·refine⟨_,s2.ag 0 rfl 1,?_⟩
    by_cases g1:e.bidder<0
    ·exact aP g1 ⟨⟨λ _=>.inl g1,λ _=>rfl⟩,c2⟩
    refine aU g1 ⟨_,s2.ag 0 rfl 1,?_⟩
    by_cases g2:e.bidder>7
    ·exact aP g2 ⟨⟨λ _=>.inr (.inl (by omega)),λ _=>rfl⟩,c2⟩
    refine aU g2 ⟨_,s2.ag 0 rfl 2,?_⟩
    by_cases g3:e.round<0
    ·exact aP g3 ⟨⟨λ _=>.inr (.inr (.inl g3)),λ _=>rfl⟩,c2⟩
    refine aU g3 ⟨_,s2.ag 0 rfl 2,?_⟩
    by_cases g4:e.round>29
    ·exact aP g4 ⟨⟨λ _=>.inr (.inr (.inr (.inl (by omega)))),λ _=>rfl⟩,c2⟩
    refine aU g4 ⟨e.want,?_,au (ig p e.want) ?_⟩
    ·exact bM _ 0 λ j v c=>by
      have F:j<6:=(aR.1 c).1;rw[bY,aL,s2.ag 0 rfl]
      match j,F,c with
      | 0,_,c|1,_,c|2,_,c|3,_,c|4,_,c|5,_,c=>simpa[Ev.cells,I6.on,I6.vs] using c
    ·rintro v K ⟨rfl,D⟩;refine⟨_,rfl,?_,c2.trans D (by simp)⟩
     cases hq:e.want.l.all iy with
     | true=>exact⟨λ h=>by simp at h,λ h=>by rcases h with h|h|h|h|h<;>first|omega|(rw[hq] at h; cases h)⟩
     | false=>exact⟨λ _=>.inr (.inr (.inr (.inr hq))),λ _=>by simp⟩
 ·have a:=s1.quiet (aC.drew g []);refine⟨_,a.ag 0 rfl 0,?_⟩;have f:aC g g.drew []:=aC.drew g []
  by_cases k:e.kind<1
  ·exact aP k ⟨⟨λ _=>.inl (by omega),λ _=>rfl⟩,f⟩
  refine aU k ⟨_,a.ag 0 rfl 0,?_⟩
  by_cases m:e.kind>10
  ·exact aP m ⟨⟨λ _=>.inl (by omega),λ _=>rfl⟩,f⟩
  refine aU m ⟨_,_,_,e.want,_,_,a.cellsIn 0 rfl,_,_,_,e.want,_,_,a.cellsIn 0 rfl,au (Mj _ e) ?_⟩;rintro v L ⟨rfl,c8⟩;have u:1<=e.kind/\e.kind<=10:=by omega
  refine⟨_,_,_,(cD e).want,_,_,rfl,(a.quiet c8).cellsIn 0 rfl,?_,f.trans c8 (by simp)⟩;simp only[I6.beq_eq,NH,yM,Dl,pH,aS,ne_eq,iY];constructor
  ·intro h;refine .inr λ he=>?_;rcases h with h|h|h|h|h|h<;>apply h<;>rw[<- he]
  ·intro h;rcases h with h|h
   ·exact absurd u h
   ·by_cases x:e.kind=(cD e).kind
    ·by_cases y:e.bidder=(cD e).bidder
     ·by_cases z:e.round=(cD e).round
      ·by_cases A:e.want=(cD e).want
       ·by_cases B:e.text=(cD e).text
        ·by_cases C:e.digest=(cD e).digest
         ·exact absurd (Ev.ext' x y z A B C) h
         ·exact .inr (.inr (.inr (.inr (.inr C))))
        ·exact .inr (.inr (.inr (.inr (.inl B))))
       ·exact .inr (.inr (.inr (.inl A)))
      ·exact .inr (.inr (.inl z))
     ·exact .inr (.inl y)
    ·exact .inl x
def GG(w:af){e:Ev}(hi:e.In)(f:e.text.length<=1000000000000):CP 58 #[e.v] w (λ r w'=>r=.tuple #[sv (if fE e=0 then bZ e else []),iv (fE e)]/\aC w w' []):=by
 refine nO.2.2.2.2.2.1 ?_;refine aG e.cells.toArray λ r1 g s1=>?_;refine⟨_,_,_,e.want,_,_,s1.cellsIn 0 rfl,au (AB g hi f) ?_⟩;rintro v h ⟨rfl,c2⟩;refine⟨_,rfl,?_⟩;have s2:=s1.quiet c2
 by_cases a:fE e=0
 ·have c:=eH a hi.d;refine cF (by simpa using a) ⟨_,_,_,e.want,_,_,s2.cellsIn 0 rfl,au (CF h c.k c.b c.r c.w f c.d) ?_⟩;rintro v i ⟨rfl,c3⟩;exact⟨_,rfl,by rw[ak a,a],(s2.quiet c3).av⟩
 ·exact cT (by simpa using a) ⟨by rw[ah a],s2.av⟩
theorem A3(c:UInt8)(s:List UInt8):bD c s=Lib.splitK [c] 0 (s.count c) s:=by
 have h1:=Lib.splitB_data (bs [c]) 0 (Lib.countB (bs s) (bs [c])) (bs s);have a:(bs [c]).data.toList=[c]:=by simp[bs]
 have b:(bs s).data.toList=s:=by simp[bs]
 have d:Lib.countB (bs s) (bs [c])=s.count c:=by
  show Lib.count (bs s).data.toList (bs [c]).data.toList=_;rw[a,b,Lib.count_one]
 rw[a,b,d] at h1;unfold bD;rw[d,h1]
theorem MP{c:UInt8}{x:List UInt8}(h:c∉x):bD c x=[x]:=by rw[A3,JI.2 h]; rfl
theorem Ov(c:UInt8):∀ (x s:List UInt8),c∉x->Lib.index (x++c :: s) [c]=x.length
 | [],s,_=>by simp[Lib.index,List.isPrefixOf]
 | b :: x,s,h=>by
  have f:=Ov c x s λ a=>h (by simp[a]);have d : ¬ c=b:=λ e=>h (by simp[e]);show Lib.index (b :: (x++c :: s)) [c]=_;rw[Lib.index,f];have h1:[c].isPrefixOf (b :: (x++c :: s))=false:=by simp[List.isPrefixOf,d]
  rw[h1,ah (by decide),ah (by simp)]
  simp
theorem MO{c:UInt8}{x:List UInt8}(s:List UInt8)(h:c∉x):bD c (x++c :: s)=x :: bD c s:=by
 rw[A3,A3];have e:(x++c :: s).count c=s.count c+1:=by rw[List.count_append,JI.2 h,List.count_cons]; simp
 rw[e,Lib.splitK,Ov c x s h,ah (by simp)]
 simp
section
variable {S:Se} (h:S.Ok)
include h
end
def CG{w:af}{a:OA}{c:Nat}{l:List Pr}(h:fS w a l)(o:l.length<=100000)(nm:List UInt8) :
  CP 176 #[.slice a l.length c,sv nm] w (λ r w'=>r=.tuple #[iv (cO l nm).1,.bool (cO l nm).2]/\w'=w):=by
 refine oQ.2.2.1 ?_;refine⟨λ n g m=>∃ k:Nat,n=k/\k<=l.length/\m=l.length-k/\(l.take k).any (λ p=>p.nm==nm)=false/\g=w,⟨l.length,0,rfl,by omega,by omega,rfl,rfl⟩,?_⟩;rintro g m n ⟨k,rfl,j,hm,ha,rfl⟩ -
 by_cases b:(k:Int)<(l.length:Int)
 ·obtain⟨x,e⟩:=bx l k (by omega);obtain⟨_,q,i,f⟩:=h k x e;refine cT (by simpa using b) (aq i ⟨by omega,by omega,bs x.nm,by have:=f.1; rwa [Addr.add_add] at this,?_⟩)
  by_cases d:x.nm=nm
  ·refine cT (by rw[d]; simp) ⟨?_,rfl⟩;have hp:(λ p:Pr=>p.nm==nm) x=true:=by simpa using d
   rw[cO,kY e hp ha,eZ e hp]; rfl
  ·exact cF (by rw[fG,fG]; simpa using d) ⟨l.length-(k+1),by omega,k+1,by rw[cA (by omega)]; rfl,by omega,rfl,dY ha e (by simpa using d),rfl⟩
 ·refine cF (by simpa using b) ⟨?_,rfl⟩;rw[fN (by omega)] at ha;rw[cO,mB ha,ha]; rfl
def P4{α:Type}(l:List α)(x y:α):(l++[x]).set l.length y=l++[y]:=by simp
def Zr{s:List UInt8}{i:Nat}{b:UInt8}(h:s[i]?=some b):(bs s).extract i (i+1)=bs [b]:=by
 apply HD;obtain⟨hi,rfl⟩:=aR.1 h;simp only[Nk,bs];apply Array.ext';simp only[Nl];rw[No,jC hi,show i+1-i=1 by omega];rfl
def uK(w:af)(b:UInt8)(s:List UInt8)(M:s.length<=1000000) :
  CP 134 #[sv s,.int .u8 (b.toNat:Int)] w (λ r w'=>∃ g c,r=.slice (qs g) (bD b s).length c/\St w w' (Sep [dK 9 1 sF (qs g) c (bD b s)])):=by
 refine(p6 nO).2.2.2.2.2.1 ?_;have l:IntKind.i64.max=9223372036854775807:=rfl;refine bg ?_;have K:St w (w.alloc (.cells #[sv []] 9)) (Sep [dK 9 1 sF (qs w.heap.size) 1 [[]]]):=by
  have s1:=(St.start w).one.fu #[sv []] 9;refine(s1.ay [0]).weak (bz.left ?_);rintro w' F ⟨h,E⟩;exact⟨F,⟨vX sg h rfl (by decide),by rw[E]; simp[Value.ownBlock]⟩,λ _ h=>h⟩
 refine⟨λ a n c i t m=>∃ (k g:Nat) (d:List (List UInt8)) (x:List UInt8),i=(k:Int)/\k<=s.length/\m=s.length-k/\a=qs g/\n=(d++[x]).length/\b∉x/\x.length<=k/\d.length<=k/\d++bD b (x++s.drop k)=bD b s/\St w t (Sep [dK 9 1 sF a c (d++[x])]),⟨s.length,0,_,[],[],rfl,by omega,by omega,rfl,rfl,by simp,by simp,by simp,by simp,K⟩,?_⟩
 rintro t m a n c i ⟨k,g,d,x,rfl,L,rfl,rfl,rfl,j,J,H,he,s1⟩ -;rw[dX]
 by_cases f:k<s.length
 ·have p:s[k]?=some (s[k]'f):=gE f;have hd:s.drop k=s[k]'f :: s.drop (k+1):=jC f;generalize s[k]'f=y at p hd;refine aP (by omega) ⟨λ a n c A=>∃ (g:Nat) (d:List (List UInt8)) (x:List UInt8),a=qs g/\n=(d++[x]).length/\b∉x/\x.length<=k+1/\d.length<=k+1/\d++bD b (x++s.drop (k+1))=bD b s/\St w A (Sep [dK 9 1 sF a c (d++[x])]),?_,by omega,?_⟩
  ·rintro A a n c ⟨g,d,x,rfl,rfl,h1,h2,h3,h4,D⟩ -;exact⟨s.length-(k+1),by omega,k+1,g,d,x,by rw[cA (by omega)]; rfl,by omega,rfl,rfl,rfl,h1,h2,h3,h4,D⟩
  ·rw[aD,gK,p];have e:(d++[x]).length=d.length+1:=by simp
   by_cases o:y=b
   ·refine cT (by rw[o]; simp) ?_;refine dw (x:=([]:List UInt8)) slS sg (Wj _) s1 (by rw[e]; omega) (by rw[e]; omega) (λ a' c' w' u=>?_) rfl;obtain⟨C,G⟩:=u.iS (by simp);refine⟨C,d++[x],[],G,rfl,by simp,by simp,by simp; omega,?_,u⟩;rw[<- he,hd,o,MO _ j]; simp
   ·refine cF (aS.2 λ h=>o (nI.1 (by omega))) ?_;have s2:=s1.quiet (aC.drew t []);have ei:IntKind.i64.wrap ((((d++[x]).length:Nat):Int)-1)=((d.length:Nat):Int):=by rw[cW ⟨by rw[e]; omega,by rw[e]; omega⟩,e]; omega
    have B:IntKind.i64.wrap ((k:Int)+1)=((k+1:Nat):Int):=by rw[cA (by omega)]; rfl
    rw[ei,B,aD,aD,Zr p,e];obtain⟨q,I,hc⟩:=uM (St.rd sg s2) (i:=d.length) (x:=x) (by simp)
    cases I
    refine aq rfl ⟨by omega,by omega,_,hc,by omega,by omega,by omega,by omega,by rw[dX,dX,l]; simp; omega,aq rfl ⟨by omega,by omega,?_⟩⟩;rw[gY];refine St.gu (v:=sv) (x:=x++[y]) rfl s2 (i:=d.length) (by rw[e]; omega) λ N z=>?_;rw[P4] at z;refine⟨g,d,x++[y],rfl,by simp,?_,by simp; omega,by omega,?_,z⟩
    ·intro h;rcases aV.1 h with h|h
     ·exact j h
     ·exact o (bp.1 h).symm
    ·rw[<- he,hd]; simp
 ·obtain rfl:k=s.length:=by omega
  refine aU (by omega) ?_;rw[pE,zK,MP j] at he;rw[<- he];exact⟨g,c,rfl,s1⟩
def rq(l:List UInt8):Nat:=l.foldl (λ n c=>10*n+(c.toNat-48)) 0
def HU(l:List UInt8)(c:UInt8):rq (l++[c])=10*rq l+(c.toNat-48):=by simp[rq]
def NU{l:List UInt8}(h:∀ c∈l,48<=c.toNat/\c.toNat<=57):rq l<10 ^ l.length:=by
 suffices H:∀ (l:List UInt8) (a k:Nat),(∀ c∈l,48<=c.toNat/\c.toNat<=57)->a<10 ^ k->l.foldl (λ n c=>10*n+(c.toNat-48)) a<10 ^ (k+l.length) by
  have:=H l 0 0 h (by decide); rwa [aL] at this
 intro l
 induction l with
 | nil=>exact λ _ _ _ h=>h
 | cons c l e =>
  intro a k b ha;have hc:=b c (by simp);have:=e (10*a+(c.toNat-48)) (k+1) (λ d hd=>b d (by simp[hd])) (by rw[zI]; omega);rw[gm,show k+(l.length+1)=k+1+l.length by omega];exact this
theorem vw:∀ (l:List UInt8) (a:Nat),ur l=true->Lib.decFrom a l=some (l.foldl (λ n c=>10*n+(c.toNat-48)) a)
 | [],a,_=>rfl
 | b :: l,a,h=>by
  unfold ur at h;rw[og,aX] at h;have h1:48<=b.toNat/\b.toNat<=57:=by
   have h2:48<=un b/\un b<=57:=by simpa[lz] using h.1
   unfold un at h2;omega
  rw[Lib.decFrom,Lib.digitVal,ak h1];show Lib.decFrom _ l=_;rw[vw l _ h.2,fM,Ds a 10]
def MH{l:List UInt8}(h:ur l=true)(c:l≠[]):GY l=((rq l:Nat):Int):=by
 cases l with
 | nil=>exact absurd rfl c
 | cons b l =>
  have e:=vw (b :: l) 0 h;unfold ur at h;rw[og,aX] at h;have h1:48<=un b/\un b<=57:=by simpa[lz] using h.1
  have d:(b==45)=false:=by rw[aS]; rintro rfl; revert h1; decide
  have a:(b==43)=false:=by rw[aS]; rintro rfl; revert h1; decide
  have hd:Lib.decNat (b :: l)=some (rq (b :: l)):=by rw[Lib.decNat]; exact e
  rw[GY,Lib.atoi,d,a,hd];rfl
def Es(w:af){l:List UInt8}(y:l.length<=1000000):CP 238 #[sv l] w (λ r w'=>r=.tuple #[iv (fc l).1,iv (fc l).2]/\w'=w):=by
 refine(p6 (p6 nO)).1 ?_;refine⟨λ b j=>b=decide (l=[]\/(l.head? = some 48/\1<l.length))/\j=w,?_,?_⟩
 ·rintro j b ⟨rfl,rfl⟩ -
  by_cases g:l=[]\/(l.head? = some 48/\1<l.length)
  ·exact aP g ⟨by rw[fc,ak (.inr g)],rfl⟩
  refine aU g ⟨λ i o m=>∃ k:Nat,i=k/\k<=l.length/\m=l.length-k/\ur (l.take k)=true/\o=j,⟨l.length,0,rfl,by omega,by omega,rfl,rfl⟩,?_⟩;rintro o m i ⟨k,rfl,x,hm,ha,rfl⟩ -
  by_cases a:k<l.length
  ·have d:l[k]?=some (l[k]'a):=gE a;generalize l[k]'a=c at d;refine cT (by rw[dX]; exact dT (by omega)) ⟨λ b j=>b = !lz (un c)/\j=o,?_,by omega,?_⟩
   ·rintro j b ⟨rfl,rfl⟩ -
    cases hd:lz (un c) with
    | false =>
     have:ur l=false:=nG.2 ⟨c,bf d,by simp[hd]⟩;exact cT rfl ⟨by rw[fc,ak (.inl this)],rfl⟩
    | true =>
     refine cF rfl (jZ (by omega) ⟨?_,rfl⟩);unfold ur at ha ⊢;rw[aH d,lZ,ha]; simp[hd]
   ·rw[aD,gK,d];have v:=c.toNat_lt
    by_cases h1:(c.toNat:Int)<48
    ·exact aP h1 ⟨by rw[lz,un,dF (by omega)]; rfl,rfl⟩
    ·refine aU h1 ⟨by omega,?_,rfl⟩
     by_cases h2:(c.toNat:Int)>57
     ·rw[dT h2,lz,un,dT (show(48:Int)<=(c.toNat:Int) by omega),dF (show ¬ (c.toNat:Int)<=57 by omega)]; rfl
     ·rw[dF h2,lz,un,dT (show(48:Int)<=(c.toNat:Int) by omega),dT (show(c.toNat:Int)<=57 by omega)]; rfl
  ·obtain rfl:k=l.length:=by omega
   rw[br] at ha;have q:fc l=if 9<l.length then (0,4) else (GY l,0):=by
    rw[fc,ah];rintro(h|h)
    ·rw[ha] at h; cases h
    ·exact g h
   refine cF (by rw[dX]; exact dF (by omega)) ?_
   by_cases u:9<l.length
   ·exact cT (by rw[dX]; exact dT (by omega)) ⟨by rw[q,ak u],rfl⟩
   ·rw[ah u] at q;obtain⟨n,z⟩:=Fb ha (λ h=>g (.inl h));have e:∀ c∈l,48<=c.toNat/\c.toNat<=57:=λ c hc=>by
     have h2:48<=un c/\un c<=57:=by simpa[lz] using dS.1 ha c hc
     unfold un at h2; omega
    refine cF (by rw[dX]; exact dF (by omega)) ⟨λ n i t m=>∃ k:Nat,i=k/\k<=l.length/\m=l.length-k/\n=((rq (l.take k):Nat):Int)/\t=o,⟨l.length,0,rfl,by omega,by omega,by simp[rq],rfl⟩,?_⟩;rintro A m n i ⟨k,rfl,x,hm,rfl,rfl⟩ -;have s:=NU (l:=l.take k) (λ c hc=>e c (eX hc))
    by_cases a:k<l.length
    ·have d:l[k]?=some (l[k]'a):=gE a;generalize l[k]'a=c at d;have hc:=e c (bf d);have hp:rq (l.take k)<1000000000:=zE s (cC (Nat.pow_le_pow_right (by decide) (show(l.take k).length<=9 by rw[di]; omega)) (by decide));refine cT (by rw[dX]; exact dT (by omega)) ⟨by omega,?_⟩;rw[aD,gK,d];refine jZ (by omega) ⟨?_,rfl⟩;have g1:IntKind.i64.wrap (10*((rq (l.take k):Nat):Int))=10*((rq (l.take k):Nat):Int):=cA (by omega);have g2:IntKind.i64.wrap ((c.toNat:Int)-48)=(c.toNat:Int)-48:=cA (by omega);rw[IntWalk.u8_in _ (by omega),g1,g2,cA (by omega),aH d,HU];omega
    ·obtain rfl:k=l.length:=by omega
     rw[br] at *;refine cF (by rw[dX]; exact dF (by omega)) ⟨?_,rfl⟩;rw[q,MH ha (λ h=>g (.inl h))]
 ·cases l with
  | nil=>exact cT (by rw[fG]; rfl) ⟨by decide,rfl⟩
  | cons c l =>
   refine cF (by rw[fG,fG]; rfl) ?_;rw[dX]
   by_cases h1:1<(c :: l:List UInt8).length
   ·refine aP (by omega) ⟨by decide,?_⟩;show _=_/\_;refine⟨?_,rfl⟩
    by_cases f:c=48
    ·subst f; rw[dT (Or.inr ⟨rfl,h1⟩)]; rfl
    ·rw[dF (p:=(c :: l:List UInt8)=[]\/_) (by rintro(h|h); cases h; exact f (by simpa using h.1))];show((c.toNat:Int)==48)=false;exact aS.2 λ h=>f (nI.1 (by show c.toNat=48; omega))
   ·exact aU (by omega) ⟨by rw[dF]; rintro(h|h); cases h; exact h1 h.2,rfl⟩
def Et{w:af}{a:OA}{c:Nat}{ws l:List (List UInt8)}(A:cP 1 sF w a ws)(he:ws.drop 2=l)(F:ws.length<=100000)(h2:2<=ws.length)(B:∀ x∈ws,x.length<=1000000) :
  CP 177 #[.slice a ws.length c,iv 2] w (λ r w'=>(mW l≠0/\r=.tuple #[.slice none 0 0,iv (mW l)]/\aC w w' [])\/(mW l=0/\∃ a' c',r=.tuple #[.slice a' l.length c',iv 0]/\St w w' (Sep [dK 2 1 i1 a' c' (l.map λ x=>(fc x).1)]))):=by
 refine(p6 (p6 nO)).2.1 ?_;have u:l.length+2=ws.length:=by rw[<- he,gH]; omega
 refine⟨λ a2 n2 c2 i s m=>∃ k:Nat,i=((k+2:Nat):Int)/\k<=l.length/\m=l.length-k/\n2=k/\(∀ y∈l.take k,(fc y).2=0)/\St w s (Sep [dK 2 1 i1 a2 c2 ((l.take k).map λ x=>(fc x).1)]),⟨l.length,0,rfl,by omega,by omega,rfl,by simp,(St.start w).dy⟩,?_⟩;rintro s m a2 n2 c2 i ⟨k,rfl,E,hm,o,ha,s1⟩ -;have p:=o.symm;subst p
 by_cases e:k<l.length
 ·have b:l[k]?=some (l[k]'e):=gE e;generalize l[k]'e=x at b;have j:ws[k+2]?=some x:=by rw[<- he,lW,vh] at b; exact b
  obtain⟨q,z,hc⟩:=uM (A.av s1.av) j;have n:=Ar ha b;refine aP (by omega) (aq z ⟨by omega,by omega,_,hc,au (Es s (B x (bf j))) ?_⟩);rintro v G ⟨rfl,rfl⟩;refine⟨_,_,rfl,?_⟩
  by_cases h:(fc x).2=0
  ·refine cF (by simpa using h) ?_;have t:(l.take (k+1)).map (λ x=>(fc x).1)=(l.take k).map (λ x=>(fc x).1)++[(fc x).1]:=by rw[aH b,bP]; rfl
   have d:((l.take k).map λ x=>(fc x).1).length=k:=by rw[dU,di]; omega
   have:=dw (ty:=249) (x:=(fc x).1) (l:=(l.take k).map λ x=>(fc x).1) G5 bV (pQ _) s1 (by rw[d]; omega) (by rw[d]; omega) (R:=λ a3 l3 c3 D=>∃ m2,m2<l.length-k/\∃ g:Nat,IntKind.i64.wrap (((k+2:Nat):Int)+1)=((g+2:Nat):Int)/\g<=l.length/\m2=l.length-g/\l3=g/\(∀ y∈l.take g,(fc y).2=0)/\St w D (Sep [dK 2 1 i1 a3 c3 ((l.take g).map λ x=>(fc x).1)])) (λ a' c' w' C=>⟨l.length-(k+1),by omega,k+1,(cA (by omega)).trans (by omega),by omega,rfl,by rw[aY,d]; rfl,λ y f=>?_,by rw[t]; exact C⟩) rfl
   ·rw[d] at this;rw[hm];exact this
   ·rw[aH b] at f;rcases aV.1 f with f|f
    ·exact ha y f
    ·rw[bp.1 f]; exact h
  ·rw[ak h] at n;refine cT (by simpa using h) (.inl ⟨by rw[n]; exact h,by rw[n],s1.av⟩)
 ·obtain rfl:k=l.length:=by omega
  rw[br] at ha s1;exact aU (by omega) (.inr ⟨xo ha,a2,c2,rfl,s1⟩)
abbrev Bi (S:Se) (M:List aI):List aI:=dK 134 5 Pr.cells S.a1 S.c1 S.ps :: dK 82 4 Br.cells S.a2 S.c2 S.bd :: dK 138 3 T3.cells S.a3 S.c3 S.cp :: dK 141 3 T3.cells S.a4 S.c4 S.sa :: M
def OE{w0 w:af}{n:Nat}{S:Se}{M:List aI}(s:St w0 w (Sep (Bi S M)))(h:qS S n):S.In w :=
 ⟨fS.of (St.rd Pr.len (s.out 0 rfl)) h.ps,mj.of (St.rd Br.len (s.out 1 rfl)) h.bd,Bp.of (St.rd T3.len (s.out 2 rfl)),Bp.of (St.rd T3.len (s.out 3 rfl)),(St.lQ (s.out 0 rfl)).1,(St.lQ (s.out 1 rfl)).1,(St.lQ (s.out 2 rfl)).1,(St.lQ (s.out 3 rfl)).1⟩
def CZ{h:List UInt8}(k:kP h≠0):h=Li\/h=Jg\/h=Jh\/h=Jf:=by
 unfold kP at k
 split at k
 ·exact .inl ‹_›
 ·split at k
  ·exact .inr (.inl ‹_›)
  ·split at k
   ·rename_i h; rcases h with h|h
    ·exact .inr (.inr (.inl h))
    ·exact .inr (.inr (.inr h))
   ·exact absurd rfl k
def Se.one(S:Se):∀ v∈S.arr.toList,v.oneCell'=true:=by intro v a; simp[Se.arr] at a; rcases a with rfl|rfl|rfl|rfl<;>rfl
def Mq{w0 w:af}{n c:Nat}{S:Se}{M:List aI}{B:aI}{a:OA}{ws:List (List UInt8)}(s:St w0 w (Sep (Bi S (B :: M))))(hB:js B λ w=>cP 1 sF w a ws)(h1:1<=ws.length)(hl:ws.length<=100000)(Q:∀ x∈ws,x.length<=1000000)(hg:qS S n)(A:n<=90000)(hst:∀ p∈S.bd,p.nm≠[42]) :
  CP 135 #[.agg S.arr,.slice a ws.length c] w (λ r w'=>∃ d:Se,r=.tuple #[.agg d.arr,iv (qH S ws)]/\d.er=(if qH S ws=0 then qL S ws else S).er/\St w0 w' (Sep (Bi d (B :: M)))):=by
 refine oQ.1 ?_;refine s.aB S.arr λ r1 w1 s1=>s1.aB dL.arr λ r2 w2 s2=>?_;have ret:∀ {k:Int} {w':af} {d:Se},St w0 w' (Sep (aj r2 dL.arr 73 :: aj r1 d.arr 73 :: Bi d (B :: M)))->qH S ws=k->d.er=(if k=0 then qL S ws else S).er ->
   ∃ (a6:OA) (l6 c6:Nat) (a7:OA) (l7 c7:Nat) (O:OA) (l8 c8:Nat) (a9:OA) (l9 c9:Nat),aA w' ⟨r1,0,none⟩ 0 [.slice a6 l6 c6,.slice a7 l7 c7,.slice O l8 c8,.slice a9 l9 c9] /\
   uP ⟨r2,0,none⟩ 0 [.slice a6 l6 c6,.slice a7 l7 c7,.slice O l8 c8,.slice a9 l9 c9] w' λ R=>∃ (a1:OA) (l1 c1:Nat) (a2:OA) (l2 c2:Nat) (a3:OA) (l3 c3:Nat) (a4:OA) (l4 c4:Nat),aA R ⟨r2,0,none⟩ 0 [.slice a1 l1 c1,.slice a2 l2 c2,.slice a3 l3 c3,.slice a4 l4 c4] /\
    ∃ d:Se,Value.tuple #[.agg #[.slice a1 l1 c1,.slice a2 l2 c2,.slice a3 l3 c3,.slice a4 l4 c4],iv k]=.tuple #[.agg d.arr,iv (qH S ws)]/\d.er=(if qH S ws=0 then qL S ws else S).er/\St w0 R (Sep (Bi d (B :: M))):=λ {k w' d} t U e2 =>
  (Ex8<|Ex4<|⟨t.cellsIn 1 rfl,t.az 0 rfl d.arr.toList rfl d.one λ R t3=>(Ex8<|Ex4<|⟨t3.cellsIn 0 rfl,d,by rw[U]; rfl,by rw[U]; exact e2,t3.second.second⟩)⟩)
 have wc:∀ {w':af} {l:List aI} {i:Nat},St w0 w' (Sep l)->l[i]?=some B->∀ (j:Nat),j<ws.length->∃ q,a=some q/\w'.cell? (Addr.add q (j*1))=some (sv (ws.getD j [])):=λ s e j hj =>
  uM ((s.out _ e).first.imp hB) (by rw[aJ,gE hj]; rfl)
 obtain⟨q,P,c0⟩:=wc s2 (i:=6) rfl 0 (by omega);have I:∀ {w':af} {l:List aI} {i:Nat},St w0 w' (Sep l)->l[i]?=some B->∀ (j:Nat),j<ws.length->w'.cell? (Addr.add q (j*1))=some (sv (ws.getD j [])):=λ s e j hj=>by
  obtain⟨q',J,h⟩:=wc s e j hj;rw[P] at J; cases J; exact h
 have z1:=hg.l1; have z2:=hg.l2; have z3:=hg.l3; have z4:=hg.l4;refine⟨λ k R=>k=kP (ws.getD 0 [])/\k≠0/\R=w2,?_,aq P ⟨by omega,by omega,_,c0,?_⟩⟩
 rotate_left
 ·rw[fG,fG,fG,fG,fG]
  by_cases g1:ws.getD 0 []=Li
  ·exact cT (bH.2 g1) ⟨by rw[kP,ak g1],by decide,rfl⟩
  refine cF (aS.2 g1) ?_
  by_cases g2:ws.getD 0 []=Jg
  ·exact cT (bH.2 g2) ⟨by rw[kP,ah g1,ak g2],by decide,rfl⟩
  refine cF (aS.2 g2) ⟨λ b R=>b=decide (ws.getD 0 []=Jh\/ws.getD 0 []=Jf)/\R=w2,?_,?_⟩
  ·rintro R b ⟨rfl,rfl⟩ -
   by_cases g3:ws.getD 0 []=Jh\/ws.getD 0 []=Jf
   ·exact aP g3 ⟨by rw[kP,ah g1,ah g2,ak g3],by decide,rfl⟩
   ·refine aU g3 (ret s2 (k:=22) ?_ rfl);rw[qH,ak]; rw[kP,ah g1,ah g2,ah g3]
  ·by_cases g3:ws.getD 0 []=Jh
   ·exact cT (bH.2 g3) ⟨by rw[dT (Or.inl g3)]; exact bH.2 g3,rfl⟩
   ·refine cF (aS.2 g3) ⟨?_,rfl⟩
    by_cases g4:ws.getD 0 []=Jf
    ·rw[dT (Or.inr g4)]; exact bH.2 g4
    ·rw[dF (by rintro(h|h); exact g3 h; exact g4 h)]; exact aS.2 g4
 rintro R k ⟨rfl,W,rfl⟩ -
 by_cases h2:kP (ws.getD 0 [])=(ws.length:Int)
 rotate_left
 ·exact cT (yL.2 λ h=>h2 h.symm) (ret s2 (k:=2) (by rw[qH,ah W,ak h2]) rfl)
 have hw4:4<=ws.length:=by
  unfold kP at W h2
  split at h2
  ·omega
  ·rename_i g1
   split at h2
   ·omega
   ·rename_i g2
    split at h2
    ·omega
    ·rename_i g3; rw[ah g1,ah g2,ah g3] at W; exact absurd rfl W
 have U:qH S ws=if (ic S (ws.getD 0 []) (ws.getD 1 [])).2≠0 then (ic S (ws.getD 0 []) (ws.getD 1 [])).2 else mW (ws.drop 2):=by rw[qH,ah W,ah (λ h=>h h2)]
 have K:∀ {k:Int} {w':af},St w0 w' (Sep (aj r2 dL.arr 73 :: aj r1 S.arr 73 :: Bi S (B :: M)))->(ic S (ws.getD 0 []) (ws.getD 1 [])).2=k->k≠0->_:=λ {k w'} t e T=>ret t (k:=k) (by rw[U,e,ak T]) (by rw[ah T]);refine cF (by rw[h2]; simp) ⟨λ k w5=>(ic S (ws.getD 0 []) (ws.getD 1 [])).2=0/\(ws.getD 0 []=Jh\/ws.getD 0 []=Jf->(ic S (ws.getD 0 []) (ws.getD 1 [])).1=k)/\St w0 w5 (Sep (aj r2 dL.arr 73 :: aj r1 S.arr 73 :: Bi S (B :: M))),?_,aq P ⟨by omega,by omega,_,c0,λ b w'=>b=decide (ws.getD 0 []=Li\/ws.getD 0 []=Jg)/\w'=R,?_,?_⟩⟩
 rotate_left
 ·rintro w5 b ⟨rfl,rfl⟩ -;rw[fG,fG,fG,fG]
  by_cases g1:ws.getD 0 []=Li\/ws.getD 0 []=Jg
  ·have en:ic S (ws.getD 0 []) (ws.getD 1 [])=(0,if cY (ws.getD 1 []) then 0 else 5):=by rw[ic,ak g1]
   refine aP g1 (aq P ⟨by omega,by omega,_,I s2 (i:=6) rfl 1 (by omega),au (Ae w5 _) ?_⟩);rintro v w6 ⟨rfl,rfl⟩;refine⟨_,rfl,?_⟩
   cases A:cY (ws.getD 1 []) with
   | true=>exact cF rfl ⟨by rw[en,A]; rfl,λ h=>(by rcases g1 with g|g<;>rcases h with h|h<;>rw[g] at h<;>cases h),s2⟩
   | false=>exact cT rfl (K s2 (k:=5) (by rw[en,A]; rfl) (by decide))
  refine aU g1 ?_
  by_cases g3:ws.getD 0 []=Jh
  ·have en:ic S (ws.getD 0 []) (ws.getD 1 [])=if ws.getD 1 []=[42] then (-1,0) else if (nN S.bd (ws.getD 1 [])).2 then ((nN S.bd (ws.getD 1 [])).1,0) else (0,6):=by rw[ic,ah g1,ak g3]
   refine cT (bH.2 g3) ?_;generalize hnm:ws.getD 1 []=nm at *;refine⟨λ u n16 w25 m=>∃ i:Nat,n16=i/\i<=S.bd.length/\m=S.bd.length-i/\aC w5 w25 []/\((u=-1/\(S.bd.take i).any (λ p=>p.nm==nm)=false)\/∃ (j:Nat) (x:Br),u=j/\S.bd[j]?=some x/\x.nm=nm/\(S.bd.take j).any (λ p=>p.nm==nm)=false),⟨S.bd.length,0,rfl,by omega,by omega,aC.refl _ _,.inl ⟨rfl,rfl⟩⟩,?_⟩
   rintro w25 m u n16 ⟨i,rfl,hi,hm,cc,T⟩ -;have H:=s2.quiet cc;refine⟨λ b G=>b=(decide (i<S.bd.length)&&decide (u<0))/\G=w25,?_,_,_,_,H.ag 1 rfl 1,?_⟩
   rotate_left
   ·by_cases C:i<S.bd.length
    ·exact aP (by omega) ⟨by rw[dT C]; rfl,rfl⟩
    ·exact aU (by omega) ⟨by rw[dF C]; rfl,rfl⟩
   rintro G b ⟨rfl,rfl⟩ -
   by_cases C:i<S.bd.length/\u<0
   ·have Q:S.bd[i]?=some (S.bd[i]'C.1):=gE C.1;generalize S.bd[i]'C.1=x at Q;obtain⟨y,ha⟩:u=-1/\(S.bd.take i).any (λ p=>p.nm==nm)=false:=by
     rcases T with T|⟨j,x,hj,_⟩
     ·exact T
     ·omega
    subst y;have Y:=H.quiet (aC.drew G []);have c26:aC w5 G.drew []:=cc.trans (aC.drew G []) (by simp);obtain⟨_,q2,hq2,hcl⟩:=(OE Y.second.second hg).bd i x Q;refine cT (by rw[dT C.1]; rfl) ⟨λ n17 w27=>w27=G.drew/\n17=if x.nm=nm then (i:Int) else -1,?_,_,_,_,Y.ag 1 rfl 1,aq hq2 ⟨by omega,by omega,bs x.nm,by have:=hcl.1; rwa [Addr.add_add] at this,aq P ⟨by omega,by omega,bs nm,by rw[<- hnm]; exact I Y (i:=6) rfl 1 (by omega),?_⟩⟩⟩
    ·rintro w27 n17 ⟨rfl,rfl⟩ -;refine jZ (by omega) ⟨c26,?_⟩
     by_cases A:x.nm=nm
     ·exact .inr ⟨i,x,by rw[ak A],Q,A,ha⟩
     ·exact .inl ⟨by rw[ah A],dY ha Q (by simpa using A)⟩
    ·rw[fG,fG]
     by_cases A:x.nm=nm
     ·exact cT (bH.2 A) ⟨rfl,by rw[ak A]⟩
     ·exact cF (aS.2 A) ⟨rfl,by rw[ah A]⟩
   ·refine cF (by rw[pH,iY,iY]; omega) ⟨λ b w28=>b=(decide (u<0)&&!(nm==[42]))/\w28=G,?_,?_⟩
    ·rintro w28 b ⟨rfl,rfl⟩ -
     by_cases y:u<0
     ·have ha:S.bd.any (λ p=>p.nm==nm)=false:=by
       rcases T with⟨_,ha⟩|⟨j,x,hj,_⟩
       ·rw[fN (by omega)] at ha; exact ha
       ·omega
      by_cases z:nm=[42]
      ·refine cF (by rw[z]; simp) ⟨by rw[en,ak z],λ _=>?_,H⟩;rw[en,ak z];rcases T with⟨h,_⟩|⟨j,x,hj,_⟩
       ·exact h.symm
       ·omega
      ·have hf:(nN S.bd nm).2=false:=ha;refine cT (by rw[dT y,aS.2 z]; rfl) (K H (k:=6) (by rw[en,ah z,hf]; rfl) (by decide))
     ·obtain⟨j,x,rfl,Q,A,ha⟩:∃ (j:Nat) (x:Br),u=j/\S.bd[j]?=some x/\x.nm=nm/\(S.bd.take j).any (λ p=>p.nm==nm)=false:=by
       rcases T with⟨h,_⟩|h
       ·omega
       ·exact h
      have z:nm≠[42]:=λ h=>hst x (bf Q) (A.trans h);have hp:(λ p:Br=>p.nm==nm) x=true:=by simpa using A
      have e2:nN S.bd nm=((j:Int),true):=by rw[nN,kY Q hp ha,eZ Q hp]; rfl
      refine cF (by rw[dF y]; rfl) ⟨by rw[en,ah z,e2]; rfl,λ _=>by rw[en,ah z,e2]; rfl,H⟩
    ·by_cases y:u<0
     ·refine aP y (aq P ⟨by omega,by omega,bs nm,by rw[<- hnm]; exact I H (i:=6) rfl 1 (by omega),?_,rfl⟩);rw[fG,dT y,bt]
     ·exact aU y ⟨by rw[dF y]; rfl,rfl⟩
  refine cF (aS.2 g3) ?_;have g4:ws.getD 0 []=Jf:=by
   rcases CZ W with h|h|h|h
   ·exact absurd (.inl h) g1
   ·exact absurd (.inr h) g1
   ·exact absurd h g3
   ·exact h
  have en:ic S (ws.getD 0 []) (ws.getD 1 [])=if (cO S.ps (ws.getD 1 [])).2 then (((cO S.ps (ws.getD 1 [])).1:Int),0) else (0,6):=by rw[ic,ah g1,ah g3,ak g4]
  have L:=s2.quiet (aC.drew w5 []);refine cT (bH.2 g4) ⟨_,_,_,L.ag 1 rfl 0,aq P ⟨by omega,by omega,_,I L (i:=6) rfl 1 (by omega),au (CG (OE L.second.second hg).ps (by omega) _) ?_⟩⟩;rintro v w30 ⟨rfl,rfl⟩;refine⟨_,_,rfl,?_⟩
  cases hf:(cO S.ps (ws.getD 1 [])).2 with
  | true=>exact cF rfl ⟨by rw[en,hf]; rfl,λ _=>by rw[en,hf]; rfl,L⟩
  | false=>exact cT rfl (K L (k:=6) (by rw[en,hf]; rfl) (by decide))
 ·rw[fG,fG,fG]
  by_cases g1:ws.getD 0 []=Li
  ·exact cT (bH.2 g1) ⟨by rw[dT (Or.inl g1)]; exact bH.2 g1,rfl⟩
  ·refine cF (aS.2 g1) ⟨?_,rfl⟩
   by_cases g2:ws.getD 0 []=Jg
   ·rw[dT (Or.inr g2)]; exact bH.2 g2
   ·rw[dF (by rintro(h|h); exact g1 h; exact g2 h)]; exact aS.2 g2
 rintro w5 ix ⟨h3,hix,s5⟩ -;rw[h3,ah (λ h=>h rfl)] at U;refine au (Et (c:=c) ((s5.out 6 rfl).first.imp hB) rfl hl (by omega) Q) ?_;rintro v w6 (⟨hne,rfl,c6⟩|⟨he,a6,c6,rfl,k6⟩)
 ·exact⟨_,_,_,_,rfl,cT (by simpa using hne) (ret (s5.quiet c6) U (by rw[ah hne]))⟩
 rw[he] at U;have s6:St w0 w6 (Sep (dK 2 1 i1 a6 c6 ((ws.drop 2).map λ x=>(fc x).1) :: aj r2 dL.arr 73 :: aj r1 S.arr 73 :: Bi S (B :: M))):=s5.and k6.single;refine⟨_,_,_,_,rfl,cF rfl ⟨λ w8=>∃ d:Se,d.er=(qL S ws).er/\St w0 w8 (Sep (aj r2 dL.arr 73 :: aj r1 d.arr 73 :: Bi d (B :: M))),λ w8 h _=>?_,aq P ⟨by omega,by omega,_,I s6 (i:=7) rfl 0 (by omega),?_⟩⟩⟩
 ·obtain⟨d,h,h'⟩:=h;exact ret h' U h
 have N:=s6.quiet (aC.drew w6 []);obtain⟨q6,o,_⟩:=dA (St.rd bV N) (Ea (ws:=ws) (i:=0) (by omega));have nc:∀ i,i+2<ws.length->w6.drew.cell? (Addr.add q6 (i*1))=some (iv (nV ws i)):=λ i hi=>by
  obtain⟨q',J,hc'⟩:=dA (St.rd bV N) (Ea (ws:=ws) hi);rw[o] at J; cases J; exact hc'
 have w1c:=I N (i:=7) rfl 1 (by omega);have ln:((ws.drop 2).map λ x=>(fc x).1).length=ws.length-2:=by rw[dU,gH]
 have ln':(ws.drop 2).length=ws.length-2:=gH ..;rw[fG,fG,fG,fG]
 by_cases g1:ws.getD 0 []=Li
 ·have X:ws.length=6:=by unfold kP at h2; rw[ak g1] at h2; omega
  let d:Se:={ S with ps:=S.ps++[⟨ws.getD 1 [],nV ws 0,nV ws 1,nV ws 2,nV ws 3⟩] };have V:qL S ws=d:=by rw[qL,ak g1]
  refine cT (bH.2 g1) ⟨_,_,_,N.ag 2 rfl 0,aq P ⟨by omega,by omega,_,w1c,aq o ⟨by omega,by omega,_,nc 0 (by omega),aq o ⟨by omega,by omega,_,nc 1 (by omega),aq o ⟨by omega,by omega,_,nc 2 (by omega),aq o ⟨by omega,by omega,_,nc 3 (by omega),?_⟩⟩⟩⟩⟩⟩;refine N.aB (⟨ws.getD 1 [],nV ws 0,nV ws 1,nV ws 2,nV ws 3⟩:Pr).cells.toArray λ r3 Z f=>⟨f.ag 3 rfl 0,?_⟩;refine bQ (l2:=[(⟨ws.getD 1 [],nV ws 0,nV ws 1,nV ws 2,nV ws 3⟩:Pr)]) Wz Pr.len Pr.one (f.out 4 rfl) (jK (f.cellsIn 0 rfl) rfl) (by simp; omega) (by simp; omega) λ O c8 w11 D=>?_;have E:=D.back (i:=4) (by show 4<M.length+9; omega);refine E.aN 3 rfl (j:=0) (by show 0<4; decide) rfl λ w12 F=>⟨{ d with a1:=O,c1:=c8 },by rw[V]; rfl,?_⟩;exact St.second (St.second F)
 refine cF (aS.2 g1) ?_
 by_cases g2:ws.getD 0 []=Jg
 ·have X:ws.length=5:=by unfold kP at h2; rw[ah g1,ak g2] at h2; omega
  let d:Se:={ S with bd:=S.bd++[⟨ws.getD 1 [],nV ws 0,nV ws 1,nV ws 2⟩] };have V:qL S ws=d:=by rw[qL,ah g1,ak g2]
  refine cT (bH.2 g2) ⟨_,_,_,N.ag 2 rfl 1,aq P ⟨by omega,by omega,_,w1c,aq o ⟨by omega,by omega,_,nc 0 (by omega),aq o ⟨by omega,by omega,_,nc 1 (by omega),aq o ⟨by omega,by omega,_,nc 2 (by omega),?_⟩⟩⟩⟩⟩;refine N.aB (⟨ws.getD 1 [],nV ws 0,nV ws 1,nV ws 2⟩:Br).cells.toArray λ r3 Z f=>⟨f.ag 3 rfl 1,?_⟩;refine bQ (l2:=[(⟨ws.getD 1 [],nV ws 0,nV ws 1,nV ws 2⟩:Br)]) Wx Br.len Br.one (f.out 5 rfl) (jK (f.cellsIn 0 rfl) rfl) (by simp; omega) (by simp; omega) λ O c8 w11 D=>?_;have E:=D.back (i:=5) (by show 5<M.length+9; omega);refine E.aN 3 rfl (j:=1) (by show 1<4; decide) rfl λ w12 F=>⟨{ d with a2:=O,c2:=c8 },by rw[V]; rfl,?_⟩;exact St.second (St.second F)
 refine cF (aS.2 g2) ?_
 by_cases g3:ws.getD 0 []=Jh
 ·have X:ws.length=4:=by unfold kP at h2; rw[ah g1,ah g2,ak (.inl g3)] at h2; omega
  have ei:=hix (.inl g3);let d:Se:={ S with cp:=S.cp++[⟨ix,nV ws 0,nV ws 1⟩] };have V:qL S ws=d:=by rw[qL,ah g1,ah g2,ak g3,ei]
  refine cT (bH.2 g3) ⟨_,_,_,N.ag 2 rfl 2,aq o ⟨by omega,by omega,_,nc 0 (by omega),aq o ⟨by omega,by omega,_,nc 1 (by omega),?_⟩⟩⟩;refine N.aB (⟨ix,nV ws 0,nV ws 1⟩:T3).cells.toArray λ r3 Z f=>⟨f.ag 3 rfl 2,?_⟩;refine bQ (l2:=[(⟨ix,nV ws 0,nV ws 1⟩:T3)]) Wy T3.len T3.one (f.out 6 rfl) (jK (f.cellsIn 0 rfl) rfl) (by simp; omega) (by simp; omega) λ O c8 w11 D=>?_;have E:=D.back (i:=6) (by show 6<M.length+9; omega);refine E.aN 3 rfl (j:=2) (by show 2<4; decide) rfl λ w12 F=>⟨{ d with a3:=O,c3:=c8 },by rw[V]; rfl,?_⟩;exact St.second (St.second F)
 refine cF (aS.2 g3) ?_;have g4:ws.getD 0 []=Jf:=by
  rcases CZ W with h|h|h|h
  ·exact absurd h g1
  ·exact absurd h g2
  ·exact absurd h g3
  ·exact h
 have X:ws.length=4:=by unfold kP at h2; rw[ah g1,ah g2,ak (.inr g4)] at h2; omega
 have ei:=hix (.inr g4);let d:Se:={ S with sa:=S.sa++[⟨ix,nV ws 0,nV ws 1⟩] };have V:qL S ws=d:=by rw[qL,ah g1,ah g2,ah g3,ak g4,ei]
 refine⟨_,_,_,N.ag 2 rfl 3,aq o ⟨by omega,by omega,_,nc 0 (by omega),aq o ⟨by omega,by omega,_,nc 1 (by omega),?_⟩⟩⟩;refine N.aB (⟨ix,nV ws 0,nV ws 1⟩:T3).cells.toArray λ r3 Z f=>⟨f.ag 3 rfl 3,?_⟩;refine bQ (l2:=[(⟨ix,nV ws 0,nV ws 1⟩:T3)]) Ww T3.len T3.one (f.out 7 rfl) (jK (f.cellsIn 0 rfl) rfl) (by simp; omega) (by simp; omega) λ O c8 w11 D=>?_;have E:=D.back (i:=7) (by show 7<M.length+9; omega);refine E.aN 3 rfl (j:=3) (by show 3<4; decide) rfl λ w12 F=>⟨{ d with a4:=O,c4:=c8 },by rw[V]; rfl,?_⟩;exact St.second (St.second F)
