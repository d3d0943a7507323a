import Derived.Test.YtjcfdidmajodiaaGreatDoorH05
set_option linter.unusedVariables false
set_option linter.defProp false
set_option maxRecDepth 100000
set_option maxHeartbeats 4000000
namespace Go.Proofs.YtjcfdidmajodiaaGreatDoor
open Go Go.Vc Go.Vt _root_.Go.Proofs.Tryz
def rE:=many uj [en func167 [] [],en func222 [] [(58,[(7,.s (.int .i64))]),(467,[])],en func223 [] [(58,[(9,.s (.int .i64))]),(14950,[(13,.s (.int .i64))])],en func115 [] [(6,[(40,.s .bool)])],en func158 [] [(58,[(12,.s (.int .i64))])],en func162 [] [(29,[(28,.s .bool)])],en func163 [] [(15,[(12,.s .raw)]),(127,[(12,.s .raw)])],en func165 [] [(122,[(27,.s (.int .i64))]),(979,[]),(15667,[])],en func168 [] [(7,[(9,.s .raw),(10,.s .blk)]),(122,[(23,.s (.int .i64))]),(979,[]),(7833,[(32,.s .bool)]),(62,[(53,.s .bool)])],en func210 [] [],en func212 [] [],en func213 [] [(3,[(6,.s .bool)])],en func214 [] [],en func215 [] [],en func216 [] [],en func217 [] [(12,[(13,.s .bool)]),(51,[(20,.s .bool)]),(58,[(38,.s (.int .i64))]),(14950,[(43,.s (.int .i64))])],en func219 [] []] (by conv=>lhs;reduce) (by kernel_rfl) λ x=>by
 dsimp only[fj,fh,ff,fe,fk,fm,fq,tF,iP,en,sV,wrap,dc,dn,qA,gU,tW,U.I,U.B,U.S,U.N,U.A,U.O,U.W,U.V,U.L,U.U6,U.C,U.M,U.F,U.E,tP,tN,tI,oo,jU,gJ,kr,jq,TJ,Nat.reduceSub,Nat.reduceAdd,Int.reduceOfNat,Int.reduceNeg,UInt8.reduceOfNat] at x
 exact x
def vL:=many uj [en func220 [] [(26,[(10,.s (.int .i64))]),(1689,[(36,.s .bool)])],en func221 [] [(26,[(10,.s (.int .i64))]),(211,[])],en func224 [] [],en func225 [] [(26,[(6,.s (.int .i64))])],en func270 [] [],en func271 [] [(122,[(8,.s (.int .i64)),(28,.s (.int .i64))])],en func272 [] [(506,[(6,.s (.int .i64)),(27,.s (.int .i64))]),(1018,[(6,.s (.int .i64)),(47,.s (.int .i64))]),(8147,[(6,.s (.int .i64))]),(2042,[(64,.s (.int .i64))])],en func273 [(1,.k (.s .blk))] [],en func274 [] [],en func298 [] [(506,[(5,.s (.int .i64)),(27,.s (.int .i64))])],en func321 [] [(26,[(7,.s (.int .i64))])],en func322 [] [(218,[(19,.s (.int .i64))]),(223,[(7,.s (.int .i64))]),(1786,[(7,.s (.int .i64)),(28,.s (.int .i64))]),(914634,[(7,.s (.int .i64)),(32,.s (.int .i64))]),(234146406,[(7,.s (.int .i64)),(37,.s (.int .i64))]),(1873171251,[(7,.s (.int .i64))])],en func323 [] [],en func338 [] [(6,[(24,.s .bool)]),(58,[(28,.s (.int .i64))]),(3737,[(39,.s .bool)]),(122,[(44,.s (.int .i64))]),(7833,[(53,.s .bool)])]] (by conv=>lhs;reduce) (by kernel_rfl) λ x=>by
 dsimp only[fj,fh,ff,fe,fk,fm,fq,tF,iP,en,sV,wrap,dc,dn,qA,gU,tW,U.I,U.B,U.S,U.N,U.A,U.O,U.W,U.V,U.L,U.U6,U.C,U.M,U.F,U.E,tP,tN,tI,oo,jU,gJ,kr,jq,TJ,Nat.reduceSub,Nat.reduceAdd,Int.reduceOfNat,Int.reduceNeg,UInt8.reduceOfNat] at x
 exact x
def kX:=vL.2.2.1
def R6:=many uj [en func339 [] [(58,[(16,.s (.int .i64))]),(7474,[(43,.s .bool)]),(29902,[(46,.s (.int .i64))])],en func340 [] [],en func351 [] [(26,[(7,.s (.int .i64))]),(1689,[(15,.s .bool)])],en func352 [] [(28,[(1,.s (.int .i64))]),(252,[(1,.s (.int .i64)),(6,.s .slice)]),(2042,[(41,.s (.int .i64))])]] (by conv=>lhs;reduce) (by kernel_rfl) λ x=>by
 dsimp only[fj,fh,ff,fe,fk,fm,fq,tF,iP,en,sV,wrap,dc,dn,qA,gU,tW,U.I,U.B,U.S,U.N,U.A,U.O,U.W,U.V,U.L,U.U6,U.C,U.M,U.F,U.E,tP,tN,tI,oo,jU,gJ,kr,jq,TJ,Nat.reduceSub,Nat.reduceAdd,Int.reduceOfNat,Int.reduceNeg,UInt8.reduceOfNat] at x
 exact x
end Go.Proofs.YtjcfdidmajodiaaGreatDoor
namespace Go.Proofs.YtjcfdidmajodiaaGreatDoor
open Go Go.Vc _root_.Go.Proofs.Tryz
def I6.of(f:Nat->Int):I6:=⟨f 0,f 1,f 2,f 3,f 4,f 5⟩
def I6.rP(f:Nat->Int)(k:Nat)(a:k<6):(I6.of f).at' k=f k:=by
 match k,a with
 | 0,_|1,_|2,_|3,_|4,_|5,_=>rfl
def tU(l:List I6)(k:Nat):Int:=l.foldl (λ s u=>s+u.at' k) 0
def fy(l:List I6):I6:=I6.of (tU l)
def CV(l:List I6)(u:I6)(k:Nat):tU (l++[u]) k=tU l k+u.at' k:=by simp[tU]
def CU(l:List I6)(u:I6):fy (l++[u])=(fy l).zip (· + ·) u:=by
 refine I6.ext' λ k a=>?_;rw[I6.iG _ _ _ _ a,fy,I6.rP _ _ a,fy,I6.rP _ _ a,CV]
def tD{B:Int}{l:List I6}(h:∀ u∈l,I6.Le u B)(k:Nat)(b:k<6):0<=tU l k/\tU l k<=B*l.length:=by
 suffices H:∀ (l:List I6) (s:Int),(∀ u∈l,I6.Le u B)->s<=l.foldl (λ s u=>s+u.at' k) s/\l.foldl (λ s u=>s+u.at' k) s<=s+B*l.length by
  have:=H l 0 h;unfold tU; omega
 intro l
 induction l with
 | nil=>intro s _; simp
 | cons u l d =>
  intro s a;have h1:=a u (by simp) k b;have h2:=d (s+u.at' k) λ v c=>a v (by simp[c]);simp only[fM,gm];rw[vi,C5];omega
def vV(a b:I6):I6:=a.zip (λ x y=>if x>y then x-y else 0) b
abbrev Nq (w:af) (a:OA) (l:List I6):Prop:=cP 6 I6.vs w a l
def CW{w:af}{a:OA}{c:Nat}{l:List I6}(h:Nq w a l)(t:∀ u∈l,I6.Le u 1000000)(K:l.length<=1000) :
  CP 223 #[.slice a l.length c] w (λ r w'=>r=.agg (fy l).vs.toArray/\aC w w' []):=by
 refine rE.2.2.1 ?_;refine aG z6.vs.toArray λ r1 M s1=>s1.aB z6.vs.toArray λ r2 N s2=>?_;refine⟨λ n y m=>∃ k:Nat,n=k/\k<=l.length/\m=l.length-k/\St w y (Sep [aj r2 (fy (l.take k)).vs.toArray 291,aj r1 z6.vs.toArray 291,emp]),⟨l.length,0,rfl,by omega,by omega,s2⟩,?_⟩;rintro y m n ⟨k,rfl,J,hm,e⟩ -
 by_cases i:(k:Int)<(l.length:Int)
 ·obtain⟨x,o⟩:=bx l k (by omega);have p:=t x (bf o);obtain⟨q,C,g⟩:=(h.av e.av).at o;refine cT (by simpa using i) ?_;rw[C];refine⟨by omega,by omega,x,g,e.aB z6.vs.toArray λ r3 O E=>E.az 0 rfl x.vs rfl (I6.one _) λ P F=>?_⟩;refine⟨λ n z m=>∃ j:Nat,n=j/\j<=6/\m=6-j/\St w z (Sep [aj r3 x.vs.toArray 42,aj r2 (I6.mix j ((fy (l.take k)).zip (· + ·) x) (fy (l.take k))).vs.toArray 291,aj r1 z6.vs.toArray 291,emp]),⟨6,0,rfl,by omega,by omega,F⟩,?_⟩;rintro z m6 n6 ⟨j,rfl,I,A,v⟩ -
  by_cases d:(j:Int)<6
  ·have b:j<6:=by omega
   have s:=v.quiet (aC.drew _ _);have L:=tD (l:=l.take k) (B:=1000000) (λ u hu=>t u (eX hu)) j b;have D:=p j b;have hlen:(l.take k).length<=1000:=by simp; omega
   have H:(fy (l.take k)).at' j=tU (l.take k) j:=I6.rP _ _ b;refine aP d ⟨by omega,by omega,(fy (l.take k)).at' j,?_,by omega,by omega,x.at' j,?_,by omega,by omega,?_⟩
   ·rw[dM,aF s 1 rfl b,I6.cX _ _ _ _ b,ah (by omega)]
   ·rw[dM,aF s 0 rfl b]
   ·rw[dM,cA (by omega)];refine s.aN 1 rfl b rfl λ G f=>⟨6-(j+1),by omega,j+1,inc (by decide) b,by omega,rfl,?_⟩;rw[show(fy (l.take k)).at' j+x.at' j=((fy (l.take k)).zip (· + ·) x).at' j by rw[I6.iG _ _ _ _ b],I6.gD _ _ _ b] at f;exact f
  ·obtain rfl:j=6:=by omega
   refine cF (by simp) (jZ (by omega) ?_);rw[aH o,CU];exact v.ay [1,2,3]
 ·obtain rfl:k=l.length:=by omega
  rw[br] at e;exact cF (by simp) ⟨_,e.cellsIn 0 rfl,e.az 1 rfl (fy l).vs rfl (I6.one _) λ G f=>⟨_,f.cellsIn 1 rfl,rfl,f.av⟩⟩
def Yz{w:af}{a:OA}{c:Nat}{l:List I6}(h:Nq w a l)(d:∀ u∈l,I6.Le u 1000000)(e:l.length<=1000) :
  CP 219 #[.slice a l.length c] w (λ r w'=>r=.agg (fy l).vs.toArray/\aC w w' []):=by
 refine(p6 (p6 rE)).2.2.2.2.1 ?_;refine aG z6.vs.toArray λ r1 f s1=>au (CW (h.av s1.av) d e) ?_;rintro v g ⟨rfl,c2⟩;exact⟨_,rfl,(s1.quiet c2).az 0 rfl (fy l).vs rfl (I6.one _) λ i b=>⟨_,b.cellsIn 0 rfl,rfl,b.av⟩⟩
def VZ(w:af)(u v:I6)(hu:I6.Le u 1000000000)(o:I6.Le v 1000000000):CP 222 #[.agg u.vs.toArray,.agg v.vs.toArray] w (λ r w'=>r=.agg (vV u v).vs.toArray/\aC w w' []):=by
 refine rE.2.1 ?_;refine aG u.vs.toArray λ r1 x s1=>s1.aB v.vs.toArray λ r2 y s2=>s2.aB z6.vs.toArray λ r3 z p=>p.aB z6.vs.toArray λ r4 A q=>?_;let I:Nat->af->Prop:=λ k w'=>St w w' (Sep [aj r4 (I6.mix k (vV u v) z6).vs.toArray 42,aj r3 z6.vs.toArray 42,aj r2 v.vs.toArray 291,aj r1 u.vs.toArray 291,emp]);refine⟨λ n l m=>∃ k:Nat,n=k/\k<=6/\m=6-k/\I k l,⟨6,0,rfl,by omega,by omega,q⟩,?_⟩;rintro l m n ⟨k,rfl,t,hm,f⟩ -
 by_cases d:(k:Int)<6
 ·have a:k<6:=by omega
  have b:=St.quiet f (aC.drew _ _);have h:=b.quiet (aC.drew _ _);have h1:=hu k a;have h2:=o k a;have e:(vV u v).at' k=if u.at' k>v.at' k then u.at' k-v.at' k else 0:=I6.iG _ _ _ _ a
  refine aP d ⟨I (k+1),?_,by omega,by omega,u.at' k,by rw[dM,aF b 3 rfl a],by omega,by omega,v.at' k,by rw[dM,aF b 2 rfl a],?_⟩
  ·rintro B b -;exact⟨6-(k+1),by omega,k+1,inc (by decide) a,by omega,rfl,b⟩
  ·by_cases g:u.at' k>v.at' k
   ·refine aP g ⟨by omega,by omega,u.at' k,by rw[dM,aF h 3 rfl a],by omega,by omega,v.at' k,by rw[dM,aF h 2 rfl a],by omega,by omega,?_⟩;rw[dM,cA (by omega)];refine h.aN 0 rfl a rfl λ s c=>?_;rw[ak g] at e;rw[<- e,I6.gD _ _ _ a] at c;exact c
   ·refine aU g ?_;rw[ah g] at e;have:I6.mix (k+1) (vV u v) z6=I6.mix k (vV u v) z6:=by
     refine I6.ext' λ j i=>?_;rw[I6.cX _ _ _ _ i,I6.cX _ _ _ _ i,jB]
     by_cases h3:j<k
     ·rw[ak (by omega),ak h3]
     ·rw[ah h3]
      split
      ·obtain rfl:j=k:=by omega
       exact e
      ·rfl
    show I (k+1) _;simp only[I];rw[this]; exact b
 ·obtain rfl:k=6:=by omega
  exact cF (by simp) ⟨_,St.cellsIn f 0 rfl,St.az f 1 rfl (vV u v).vs rfl (I6.one _) λ s c=>⟨_,c.cellsIn 1 rfl,rfl,c.av⟩⟩
def TF{l:List I6}(h:∀ u∈l,I6.Le u 1000000)(b:l.length<=1000):I6.Le (fy l) 1000000000:=λ k a=>by
 have:=tD h k a;rw[fy,I6.rP _ _ a];omega
def N8{w:af}{a:OA}{c:Nat}{l:List I6}(u:I6)(hu:I6.Le u 1000000000)(h:Nq w a l)(d:∀ u∈l,I6.Le u 1000000)(e:l.length<=1000) :
  CP 167 #[.agg u.vs.toArray,.slice a l.length c] w (λ r w'=>r=.agg (vV (fy l) u).vs.toArray/\aC w w' []):=by
 refine rE.1 ?_;refine aG u.vs.toArray λ r1 j s1=>s1.aB z6.vs.toArray λ r2 k s2=>?_;have b:=s2.quiet (aC.drew _ _);refine⟨_,b.cellsIn 1 rfl,au (CW (h.av b.av) d e) ?_⟩;rintro v i ⟨rfl,c3⟩;have f:=b.quiet c3;refine⟨_,rfl,f.cellsIn 1 rfl,au (VZ i _ _ (TF d e) hu) ?_⟩;rintro v m ⟨rfl,c4⟩;exact⟨_,rfl,(f.quiet c4).az 0 rfl (vV (fy l) u).vs rfl (I6.one _) λ n g=>⟨_,g.cellsIn 0 rfl,rfl,g.av⟩⟩
def kJ(n:Int):Bool:=decide (0<=n)&&decide (n<=1000000)
def Zt(w:af)(n:Int):CP 323 #[iv n] w (λ r w'=>r=.bool (kJ n)/\w'=w):=by
 refine(p6 (p6 vL)).1 ?_
 by_cases h:n>=0
 ·exact aP h ⟨by simp[kJ,h],rfl⟩
 ·exact aU h ⟨by simp[kJ]; omega,rfl⟩
def Ns(w:af)(n:Int):CP 274 #[iv n] w (λ r w'=>r=iv (if kJ n then 0 else 4)/\w'=w):=by
 refine(p6 vL).2.2.1 ?_;refine au (Zt w n) ?_;rintro v a ⟨rfl,rfl⟩;refine⟨_,rfl,?_⟩
 cases h:kJ n with
 | true=>exact cF rfl ⟨rfl,rfl⟩
 | false=>exact cT rfl ⟨rfl,rfl⟩
def kA(p:I6):Bool:=p.l.all kJ
def EU(w:af)(p:I6):CP 225 #[.agg p.vs.toArray] w (λ r w'=>r=.bool (kA p)/\aC w w' []):=by
 refine vL.2.2.2.1 ?_;refine aG p.vs.toArray λ r1 d s1=>⟨p,s1.cellsIn 0 rfl,λ n c m=>∃ k:Nat,n=k/\k<=6/\m=6-k/\(p.l.take k).all kJ=true/\c=d,⟨6,0,rfl,by omega,by omega,rfl,rfl⟩,?_⟩;rintro c m n ⟨k,rfl,e,hm,ha,rfl⟩ -
 by_cases b:(k:Int)<6
 ·have a:k<6:=by omega
  refine aP b ⟨by omega,by omega,_,p.get k a,au (Ns c _) ?_⟩;rintro v f ⟨rfl,rfl⟩;refine⟨_,rfl,?_⟩
  cases hx:kJ (p.at' k) with
  | true=>exact cF rfl ⟨6-(k+1),by omega,k+1,inc (by decide) a,by omega,rfl,kI ha (p.pT k a) hx,rfl⟩
  | false=>exact cT rfl ⟨by rw[kA,mM (p.pT k a) hx],s1.av⟩
 ·obtain rfl:k=6:=by omega
  refine cF (by simp) ⟨?_,s1.av⟩;rw[kA,show p.l.all kJ=true from ha]
def o4{p:I6}:kA p=true<->I6.Le p 1000000:=by
 constructor
 ·intro h k c;have:=dS.1 h _ (bf (p.pT k c));simpa[kJ] using this
 ·intro h;have a:=h 0 (by decide); have h1:=h 1 (by decide); have h2:=h 2 (by decide); have h3:=h 3 (by decide); have h4:=h 4 (by decide); have b:=h 5 (by decide);simp only[I6.at'] at a h1 h2 h3 h4 b;simp[kA,I6.l,kJ,a,h1,h2,h3,h4,b]
structure Po where
 step:Int
 pct:Int
 und:Int
 rule:Int
def Po.cells(o:Po):List Value:=[iv o.step,iv o.pct,iv o.und,iv o.rule]
def Po.v(o:Po):Value:=.agg o.cells.toArray
def Po.ok(o:Po):Prop:=1<=o.step/\o.step<=1000000/\0<=o.pct/\o.pct<=100/\1<=o.und/\o.und<=3/\1<=o.rule/\o.rule<=3
instance (o:Po):Decidable o.ok:=by unfold Po.ok; infer_instance
def ki(o:Po):Int:=if o.ok then 0 else 4
def xu(w:af)(o:Po):CP 115 #[o.v] w (λ r w'=>r=iv (ki o)/\aC w w' []):=by
 refine rE.2.2.2.1 ?_;refine aG o.cells.toArray λ r1 d s1=>?_;refine⟨λ b c=>c=d/\(b=true<->¬ o.ok),?_,?_⟩
 ·rintro c b ⟨rfl,a⟩ -
  by_cases h:o.ok
  ·obtain rfl:b=false:=by
    cases b with
    | false=>rfl
    | true=>exact absurd h (a.1 rfl)
   exact cF rfl ⟨by rw[ki,ak h],s1.av⟩
  ·obtain rfl:=a.2 h;exact cT rfl ⟨by rw[ki,ah h],s1.av⟩
 have bad : ¬ o.ok->(true=true<->¬ o.ok):=λ h=>⟨λ _=>h,λ _=>rfl⟩;refine⟨_,s1.ag 0 rfl 0,?_⟩
 by_cases g1:o.step<1
 ·exact aP g1 ⟨rfl,bad λ h=>by unfold Po.ok at h; omega⟩
 refine aU g1 ⟨_,s1.ag 0 rfl 0,?_⟩
 by_cases g2:o.step>1000000
 ·exact aP g2 ⟨rfl,bad λ h=>by unfold Po.ok at h; omega⟩
 refine aU g2 ⟨_,s1.ag 0 rfl 1,?_⟩
 by_cases g3:o.pct<0
 ·exact aP g3 ⟨rfl,bad λ h=>by unfold Po.ok at h; omega⟩
 refine aU g3 ⟨_,s1.ag 0 rfl 1,?_⟩
 by_cases g4:o.pct>100
 ·exact aP g4 ⟨rfl,bad λ h=>by unfold Po.ok at h; omega⟩
 refine aU g4 ⟨_,s1.ag 0 rfl 2,?_⟩
 by_cases g5:o.und<1
 ·exact aP g5 ⟨rfl,bad λ h=>by unfold Po.ok at h; omega⟩
 refine aU g5 ⟨_,s1.ag 0 rfl 2,?_⟩
 by_cases g6:o.und>3
 ·exact aP g6 ⟨rfl,bad λ h=>by unfold Po.ok at h; omega⟩
 refine aU g6 ⟨_,s1.ag 0 rfl 3,?_⟩
 by_cases g7:o.rule<1
 ·exact aP g7 ⟨rfl,bad λ h=>by unfold Po.ok at h; omega⟩
 refine aU g7 ⟨_,s1.ag 0 rfl 3,rfl,?_⟩;rw[bN];unfold Po.ok;omega
def gw(l:List Pr):I6:=I6.Bj (l.map Pr.res)
def o9(l:List Pr)(k:Nat)(a:k<6):(gw l).at' k=(l.map Pr.res).getD k 0:=by
 match k,a with
 | 0,_|1,_|2,_|3,_|4,_|5,_=>rfl
def EM{w:af}{a:OA}{c:Nat}{l:List Pr}(h:fS w a l)(B:l.length<=6)(hc:l.length<=c) :
  CP 158 #[.slice a l.length c] w (λ r w'=>r=.agg (gw l).vs.toArray/\aC w w' []):=by
 refine rE.2.2.2.2.1 ?_;have e:(if (6:Int)<((l.length:Nat):Int) then (6:Int) else ((l.length:Nat):Int))=(l.length:Int):=by rw[ah (by omega)]
 rw[e,P9,aD,pI];refine aG z6.vs.toArray λ r1 C s1=>s1.aB z6.vs.toArray λ r2 D s2=>⟨by omega,by omega,?_⟩;refine⟨λ n v m=>∃ k:Nat,n=k/\k<=l.length/\m=l.length-k/\St w v (Sep [aj r2 (I6.mix k (gw l) z6).vs.toArray 57,aj r1 z6.vs.toArray 57,emp]),⟨l.length,0,rfl,by omega,by omega,s2⟩,?_⟩;rintro v m n ⟨k,rfl,A,hm,b⟩ -
 by_cases i:(k:Int)<(l.length:Int)
 ·obtain⟨x,p⟩:=bx l k (by omega);obtain⟨_,q,z,f⟩:=(h.av b.av) k x p;have d:k<6:=by omega
  refine cT (by simpa using i) ?_;rw[z];refine⟨by omega,by omega,Ex4 ⟨_,f,bg ?_⟩⟩;refine(b.fu _ 134).az 0 rfl x.cells rfl x.one λ E s=>⟨_,s.ag 0 rfl 2,by omega,by omega,?_⟩;rw[dM];refine s.aN 1 rfl d rfl λ F t=>(jZ (by omega) ?_);have y:x.res=(gw l).at' k:=by rw[o9 l k d]; simp[dD,p]
  rw[y,I6.gD _ _ _ d] at t;exact t.ay [1,2,3]
 ·obtain rfl:k=l.length:=by omega
  have g:I6.mix l.length (gw l) z6=gw l:=by
   refine I6.ext' λ j o=>?_;rw[I6.cX _ _ _ _ o,jB]
   split
   ·rfl
   ·rw[o9 l j o,aJ,cr (by simp; omega)]; rfl
  rw[g] at b;exact cF (by simp) ⟨_,b.cellsIn 0 rfl,b.az 1 rfl (gw l).vs rfl (I6.one _) λ G u=>⟨_,u.cellsIn 1 rfl,rfl,u.av⟩⟩
def xB(o:Po)(p:Int):Int:=p+o.step+(p*o.pct+99) / 100
def S5{w0 w:af}{l:List aI}{o:Po}(b:o.ok){p:Int}(hp:0<=p/\p<=1000000){r:Nat}{T:TypeId}(s:St w0 w (Sep l))(i:Nat)(e:l[i]?=some (aj r o.cells.toArray T)) :
  CP 273 #[iv p,.pointer (qs r)] w (λ v w'=>v=iv (xB o p)/\w'=w):=by
 refine(p6 vL).2.1 ⟨_,s.ag i e 0,_,s.ag i e 1,by decide,?_,rfl⟩;obtain⟨h1,h2,h3,h4,_⟩:=b;have c:0<=p*o.pct:=gS hp.1 h3;have d:p*o.pct<=1000000*100:=cM (kQ h4 hp.1) (gR hp.2 (by omega));have a:Int.tdiv (p*o.pct+99) 100=(p*o.pct+99) / 100:=De (by omega);rw[cW (n:=p+o.step) ⟨by omega,by omega⟩,cW (n:=p*o.pct) ⟨by omega,by omega⟩,cW (n:=p*o.pct+99) ⟨by omega,by omega⟩,a,cW (n:=(p*o.pct+99) / 100) ⟨by omega,by omega⟩,cA (by omega)];rfl
def cj(o:Po)(p ex:I6):I6:=p.zip (λ x n=>if n>0 then xB o x else x) ex
def nU(o:Po)(p ex:I6):I6×Int:=if cj o p ex≠p/\kA (cj o p ex)=false then (z6,4) else (cj o p ex,0)
def OX(w:af){o:Po}(O:o.ok){p:I6}(hp:kA p=true)(ex:I6):CP 168 #[o.v,.agg p.vs.toArray,.agg ex.vs.toArray] w (λ r w'=>r=.tuple #[.agg (nU o p ex).1.vs.toArray,iv (nU o p ex).2]/\aC w w' []):=by
 refine(p6 rE).2.2.1 ?_;have hle:=o4.1 hp;refine aG o.cells.toArray λ r1 w1 s1=>s1.aB p.vs.toArray λ r2 w2 s2=>s2.aB ex.vs.toArray λ r3 w3 T=>T.aB z6.vs.toArray λ r4 w4 P=>?_;refine⟨_,_,_,_,P.cellsIn 3 rfl,au (xu w4 o) ?_⟩;rintro v w5 ⟨rfl,c5⟩;have U:=P.quiet c5;have A:=U.quiet (aC.drew _ _);let L:Nat->Nat->I6->List aI:=λ b r out=>[aj r out.vs.toArray 57,aj b o.cells.toArray 24,aj r4 z6.vs.toArray 57,aj r3 ex.vs.toArray 42,aj r2 p.vs.toArray 57,emp];refine⟨_,rfl,cF (by rw[ki,ak O]; rfl) ⟨λ v r w'=>∃ b,v=.func (.func 273) #[] #[.pointer (qs b)]/\St w w' (Sep (L b r p)),?_,?_⟩⟩
 ·rintro w7 v r5 ⟨b,rfl,Q⟩ -;refine⟨ex,Q.cellsIn 3 rfl,λ n B m=>∃ k:Nat,n=k/\k<=6/\m=6-k/\St w B (Sep (L b r5 (I6.mix k (cj o p ex) p))),⟨6,0,rfl,by omega,by omega,Q⟩,?_⟩;rintro B m n ⟨k,rfl,hk,hm,x⟩ -
  by_cases F:(k:Int)<6
  ·have a:k<6:=by omega
   have er:(cj o p ex).at' k=if ex.at' k>0 then xB o (p.at' k) else p.at' k:=I6.iG _ _ _ _ a
   refine aP F ⟨λ R=>St w R (Sep (L b r5 (I6.mix (k+1) (cj o p ex) p))),?_,by omega,by omega,_,ex.get k a,λ g y=>g=decide (ex.at' k>0)/\St w y (Sep (L b r5 (I6.mix k (cj o p ex) p))),?_,?_⟩
   ·rintro R V -;exact⟨6-(k+1),by omega,k+1,inc (by decide) a,by omega,rfl,V⟩
   ·rintro y g ⟨rfl,h⟩ -
    by_cases c:ex.at' k>0
    ·refine aP c ⟨by omega,by omega,p.at' k,by rw[dM,aF h 4 rfl a],dZ (by kernel_rfl) (au (S5 O (hle k a) h 1 rfl) ?_)⟩;rintro v W ⟨rfl,rfl⟩;refine⟨_,rfl,by omega,by omega,?_⟩;rw[dM];refine h.aN 0 rfl a rfl λ X q=>?_;rw[ak c] at er;rw[<- er,I6.gD _ _ _ a] at q;exact q
    ·refine aU c ?_;rw[ah c] at er;have:I6.mix (k+1) (cj o p ex) p=I6.mix k (cj o p ex) p:=by
      refine I6.ext' λ j N=>?_;rw[I6.cX _ _ _ _ N,I6.cX _ _ _ _ N]
      by_cases h3:j<k
      ·rw[ak (by omega),ak h3]
      ·rw[ah h3]
       split
       ·obtain rfl:j=k:=by omega
        exact er
       ·rfl
     rw[this]; exact h
   ·by_cases c:ex.at' k>0
    ·refine aP c ⟨_,x.cellsIn 4 rfl,au (EU B p) ?_⟩;rintro v Y ⟨rfl,C⟩;exact⟨_,rfl,by rw[hp,dT c],x.quiet C⟩
    ·exact aU c ⟨by rw[dF c],x⟩
  ·obtain rfl:k=6:=by omega
   refine cF (by simp) ⟨λ g z=>g=decide (cj o p ex≠p/\kA (cj o p ex)=false)/\St w z (Sep (L b r5 (cj o p ex))),?_,p,x.cellsIn 4 rfl,au (EU B p) ?_⟩
   ·rintro z g ⟨rfl,i⟩ -
    by_cases c:cj o p ex≠p/\kA (cj o p ex)=false
    ·refine aP c (i.az 2 rfl z6.vs rfl (I6.one _) λ J d=>⟨_,d.cellsIn 2 rfl,?_,d.av⟩);rw[nU,ak c]
    ·refine aU c ⟨_,i.cellsIn 0 rfl,i.az 2 rfl (cj o p ex).vs rfl (I6.one _) λ J d=>⟨_,d.cellsIn 2 rfl,?_,d.av⟩⟩;rw[nU,ah c]
   ·rintro v M ⟨rfl,D⟩;have e:=x.quiet D;refine⟨_,rfl,cF (by rw[hp]; rfl) ⟨_,e.cellsIn 0 rfl,_,e.cellsIn 4 rfl,?_⟩⟩;rw[I6.mD,I6.beq_eq]
    by_cases f:cj o p ex=p
    ·exact cF (by simp[f]) ⟨by simp[f],e⟩
    ·refine cT (by simp[f]) ⟨_,e.cellsIn 0 rfl,au (EU M _) ?_⟩;rintro v Z ⟨rfl,E⟩;refine⟨_,rfl,?_,e.quiet E⟩;rw[I6.mD]
     cases kA (cj o p ex)<;>simp[f]
 ·refine⟨_,_,_,_,A.cellsIn 3 rfl,p,A.cellsIn 2 rfl,?_,?_⟩
  ·refine au (K:=λ v w'=>∃ b,v=.func (.func 273) #[] #[.pointer (qs b)]/\St w w' (Sep (aj b o.cells.toArray 24 :: [aj r4 z6.vs.toArray 57,aj r3 ex.vs.toArray 42,aj r2 p.vs.toArray 57,aj r1 o.cells.toArray 24,emp]))) (kX ?_) ?_
   ·exact A.aB o.cells.toArray λ b w' G=>⟨b,rfl,G⟩
   ·rintro v w19 ⟨b,rfl,s⟩;refine⟨_,rfl,s.cellsIn 3 rfl,s.aB z6.vs.toArray λ r6 w20 t=>⟨t.cellsIn 4 rfl,t.az 0 rfl p.vs rfl (I6.one _) λ w21 H=>⟨b,rfl,H.ay [0,1,2,3,4,6]⟩⟩⟩
  ·refine A.aB z6.vs.toArray λ S w22 l=>⟨l.cellsIn 3 rfl,l.cellsIn 4 rfl,?_⟩;refine au (K:=λ v w'=>∃ b,v=.func (.func 273) #[] #[.pointer (qs b)]/\St w w' (Sep (aj b o.cells.toArray 24 :: [aj S z6.vs.toArray 57,aj r4 z6.vs.toArray 57,aj r3 ex.vs.toArray 42,aj r2 p.vs.toArray 57,aj r1 o.cells.toArray 24,emp]))) (kX ?_) ?_
   ·exact l.aB o.cells.toArray λ b w' G=>⟨b,rfl,G⟩
   ·rintro v w23 ⟨b,rfl,u⟩;exact⟨_,rfl,u.cellsIn 4 rfl,u.az 1 rfl p.vs rfl (I6.one _) λ w24 I=>⟨b,rfl,I.ay [1,0,2,3,4,6]⟩⟩
