import Derived.Test.YtmhhlijfepaphaaGreatDoorH05
set_option linter.all false
set_option maxRecDepth 100000
set_option maxHeartbeats 4000000
namespace Go.Proofs.YtmhhlijfepaphaaGreatDoor
open Go Go.Vc Go.Vt _root_.Go.Proofs.Tryz
def Cu:=many xP [en func88 [] [],en func89 [] [],en func90 [] [],en func91 [] [],en func266 [] [],en func254 [] [],en func177 [] [(6,[(17,.s .bool)]),(122,[(5,.s (.int .i64)),(21,.s (.int .i64))])],en func319 [(1,.k (.s .blk))] [],en func356 [] [],en func361 [(1,.k (.s .blk))] [(1020,[])],en func372 [] [],en func375 [(1,.k (.s .blk))] [(31,[]),(255,[])]] (by conv=>lhs;reduce) (by kernel_rfl) λx=>by
 dsimp only[qq,qm,qk,qj,qy,qA,qB,GH,uv,en,FG,wrap,dc,dn,DH,gU,ID,U.I,U.B,U.S,U.N,U.A,U.O,U.W,U.V,U.L,U.U6,U.C,U.M,U.F,U.E,HV,HA,GM,zS,jU,gJ,vZ,vI,TJ,Nat.reduceSub,Nat.reduceAdd,Int.reduceOfNat,Int.reduceNeg,UInt8.reduceOfNat] at x
 exact x
end Go.Proofs.YtmhhlijfepaphaaGreatDoor
namespace Go.Proofs.YtmhhlijfepaphaaGreatDoor
open Go Go.Vc _root_.Go.Proofs.Tryz
def CH:ru prog 38 50 (.agg z6.vs.toArray) 6 48:=ru.mk' underlying38 (by kernel_rfl) rfl (by decide)
def fU(u:I6):u.vs.length=6:=rfl
abbrev kO (a:OA) (c:Nat) (l:List I6):bP:=iQ 50 6 I6.vs a c l
def RV{w0 w:ah}{B:bP}(s:St w0 w B){a:OA}{c:Nat}{l:List I6}(h:U2 w a l)(g:l.length<=1000):
  CP 266 #[.slice a l.length c] w (λr e=>∃b d,r=.slice b l.length d/\St w0 e (star (kO b d l) B)):=by
 exact Cu.2.2.2.2.1 (wO (c:=c) (K:=λr e=>∃b d,r=.slice b l.length d/\St w0 e (star (kO b d l) B)) CH fU I6.one s h (by omega) (by omega) λb d e f=>⟨b,d,rfl,f⟩)
def EI(sup tot a ask:I6)(k:Nat):Bool:=decide (ask.at' k<a.at' k)&&decide (tot.at' k-a.at' k+ask.at' k<sup.at' k)
def mL(sup tot a ask:I6):Bool:=(List.range 6).any (EI sup tot a ask)
def Qp(w:ah)(sup tot c ask:I6)(y:I6.Le sup 1000000)(z:I6.Le tot 1000000)(A:I6.Le c 1000000)(B:I6.Le ask 1000000):
  CP 268 #[.agg sup.vs.toArray,.agg tot.vs.toArray,.agg c.vs.toArray,.agg ask.vs.toArray] w (λr a=>r=.bool (mL sup tot c ask)/\aZ w a []):=by
 refine nK.2.1.1 (bE sup.vs.toArray λL P C=>C.aY tot.vs.toArray λM Q D=>D.aY c.vs.toArray λN R E=>E.aY ask.vs.toArray λO v q=>⟨λn r m=>∃k:Nat,n=k/\k<=6/\m=6-k/\(∀j,j<k->EI sup tot c ask j=false)/\aZ v r [],⟨6,0,rfl,by omega,by omega,λj o=>by omega,aZ.refl _ _⟩,?_⟩);rintro r m n ⟨k,rfl,F,G,t,u⟩-
 by_cases p:(k:Int)<6
 .have a:k<6:=by omega
  have h:=u.trans (aZ.drew r []) (by simp);have f:=q.quiet h;have H:=y k a;have I:=z k a;have J:=A k a;have K:=B k a;have i:=br f 3 rfl a;have l:=br f 2 rfl a;have d:=br f 1 rfl a;have e:=br f 0 rfl a;refine di p ⟨λb x=>b=EI sup tot c ask k/\aZ v x [],?_,by omega,by omega,_,by rw[iC,e],by omega,by omega,_,by rw[iC,d],?_⟩
  .rintro x b ⟨rfl,g⟩-
   cases hr:EI sup tot c ask k with
   |true=>exact cT rfl ⟨by rw[mL,gG.2 ⟨k,eV.2 a,hr⟩],(q.quiet g).aK⟩
   |false=>
    refine cF rfl ⟨6-(k+1),by omega,k+1,inc (by decide) a,by omega,rfl,λj o=>?_,g⟩;rcases aQ j k with s |s
    .exact t j s
    obtain rfl:j=k:=by omega
    exact hr
  refine cBq (λg=>⟨by omega,by omega,_,by rw[iC,l],by omega,by omega,_,by rw[iC,d],by omega,by omega,_,by rw[iC,e],by omega,by omega,_,by rw[iC,i],?_,h⟩) λg=>⟨by rw[EI,dF g,mO],h⟩;rw[fQ (n:=tot.at' k-c.at' k) ⟨by omega,by omega⟩,gC (by omega),EI,dT g,aO]
 obtain rfl:k=6:=by omega
 refine cF (by simp) ⟨?_,(q.quiet u).aK⟩;have:mL sup tot c ask=false:=by
  rw[mL,eG];intro j o;rw[t j (eV.1 o)];simp
 rw[this]
def ve(sup tot a ask:Int):Int:=if ask<a then a-(if (if 0>tot-sup then 0 else tot-sup)<a-ask then (if 0>tot-sup then 0 else tot-sup) else a-ask) else ask
def uh(sup tot a ask:I6):I6:=I6.of λk=>ve (sup.at' k) (tot.at' k) (a.at' k) (ask.at' k)
def Eg{s t n a B:Int}(b:0<=n/\n<=B)(c:0<=a/\a<=B):0<=ve s t n a/\ve s t n a<=B:=by
 unfold ve
 split
 .split<;>split<;>omega
 omega
def TE{s t n a:I6}{B:Int}(c:I6.Le n B)(d:I6.Le a B):I6.Le (uh s t n a) B:=λk b=>by
 rw[uh,I6.sj _ _ b];exact Eg (c k b) (d k b)
def TG(w:ah)(sup tot a ask:I6)(u:I6.Le sup 1000000)(v:I6.Le tot 1000000)(e:I6.Le a 1000000)(x:I6.Le ask 1000000):
  CP 269 #[.agg sup.vs.toArray,.agg tot.vs.toArray,.agg a.vs.toArray,.agg ask.vs.toArray] w (λr o=>r=.agg (uh sup tot a ask).vs.toArray/\aZ w o []):=by
 refine nK.2.1.2.1 (bE sup.vs.toArray λz O D=>D.aY tot.vs.toArray λA P E=>E.aY a.vs.toArray λB Q F=>F.aY ask.vs.toArray λC R G=>G.aY z6.vs.toArray λr5 S H=>?_);let I:Nat->ah->Prop:=λk o=>St w o (Sep [ay r5 z6.vs.toArray 50,ay C (I6.mix k (uh sup tot a ask) ask).vs.toArray 50,ay B a.vs.toArray 50,ay A tot.vs.toArray 50,ay z sup.vs.toArray 50,emp]);refine⟨λn q m=>∃k:Nat,n=k/\k<=6/\m=6-k/\I k q,⟨6,0,rfl,by omega,by omega,H⟩,?_⟩;rintro q m n ⟨k,rfl,K,L,l⟩-
 by_cases i:(k:Int)<6
 .have b:k<6:=by omega
  have f:=St.quiet l (aZ.drew _ _);have c:=f.quiet (aZ.drew _ _);have M:=u k b;have N:=v k b;have r:=e k b;have y:=x k b;have p:(I6.mix k (uh sup tot a ask) ask).at' k=ask.at' k:=by rw[I6.iy _ _ _ _ b,af (by omega)]
  have d:(uh sup tot a ask).at' k=ve (sup.at' k) (tot.at' k) (a.at' k) (ask.at' k):=I6.sj _ _ b;refine di i ⟨I (k+1),?_,by omega,by omega,ask.at' k,by rw[iC,br f 1 rfl b,p],by omega,by omega,a.at' k,by rw[iC,br f 2 rfl b],?_⟩
  .rintro J h -;exact⟨6-(k+1),by omega,k+1,inc (by decide) b,by omega,rfl,h⟩
  by_cases g:ask.at' k<a.at' k
  .refine di g ⟨by omega,by omega,a.at' k,by rw[iC,br c 2 rfl b],by omega,by omega,a.at' k,by rw[iC,br c 2 rfl b],by omega,by omega,ask.at' k,by rw[iC,br c 1 rfl b,p],by omega,by omega,tot.at' k,by rw[iC,br c 3 rfl b],by omega,by omega,sup.at' k,by rw[iC,br c 4 rfl b],by omega,by omega,?_⟩
   have j:=Eg (s:=sup.at' k) (t:=tot.at' k) r y;rw[ve,ag g] at d j;rw[iC,fQ (n:=tot.at' k-sup.at' k) ⟨by omega,by omega⟩,fQ (n:=a.at' k-ask.at' k) ⟨by omega,by omega⟩,gC (by omega),<-d];refine c.cL 1 rfl b rfl λJ h=>?_;rw[I6.lE _ _ _ b] at h;exact h
  refine dz g ?_;rw[ve,af g] at d;have:I6.mix (k+1) (uh sup tot a ask) ask=I6.mix k (uh sup tot a ask) ask:=by
   refine I6.ext' λj h=>?_;rw[I6.iy _ _ _ _ h,I6.iy _ _ _ _ h]
   by_cases e:j<k
   .rw[ag (by omega),ag e]
   rw[af e]
   split
   .obtain rfl:j=k:=by omega
    exact d
   rfl
  show I (k+1) _;simp only[I];rw[this];exact f
 obtain rfl:k=6:=by omega
 exact cF (by simp) ⟨_,St.cellsIn l 1 rfl,St.aR l 0 rfl (uh sup tot a ask).vs rfl (I6.one _) λb c=>⟨_,c.cellsIn 0 rfl,rfl,c.aK⟩⟩
def US{w:ah}{p:Int}(V:1<=p/\p<=3){sup:I6}(N:I6.Le sup 4){a1 a2:OA}{c1 c2:Nat}{l1 l2:List I6}(E:U2 w a1 l1)(F:U2 w a2 l2)(I:l2.length=l1.length)(G:l1.length<=8)(A:∀u∈l1,I6.Le u 4)(B:∀u∈l2,I6.Le u 4):
  CP 265 #[iv p,.agg sup.vs.toArray,.slice a1 l1.length c1,.slice a2 l2.length c2] w (λr a=>r=iv 0/\aZ w a []):=by
 refine(p6 (p6 nK.1)).2.2.2.1 (bE sup.vs.toArray λY Q t=>⟨λb i=>b=false/\i=Q,?_,dz (by omega) ⟨dF (by omega),rfl⟩⟩);rintro i b ⟨rfl,rfl⟩-;refine cF rfl ⟨λb o=>b=false/\o=i,?_,cF (by simp[I]) ⟨dF (by omega),rfl⟩⟩;rintro o b ⟨rfl,rfl⟩-;refine cF rfl ⟨_,t.cellsIn 0 rfl,t.qu (lI o sup) λw4 O=>⟨_,rfl,cF (by rw[leq N];rfl) ⟨λn y m=>∃k:Nat,n=k/\k<=2/\m=2-k/\aZ w y [],⟨2,0,rfl,by omega,by omega,O.aK⟩,?_⟩⟩⟩;rintro y m n ⟨k,rfl,T,U,r⟩-
 by_cases f:(k:Int)<2
 .have e:k<2:=by omega
  obtain⟨a,c,l,D,M,H,J⟩:∃(a:OA) (c:Nat) (l:List I6),(#[.slice a1 l1.length c1,.slice a2 l2.length c2]:Array Value)[(k:Int).toNat*1]?=some (.slice a l.length c)/\U2 w a l/\(∀u∈l,I6.Le u 4)/\l.length<=8:=by
   match k,e with
   |0,_=>exact⟨a1,c1,l1,rfl,E,A,G⟩
   |1,_=>exact⟨a2,c2,l2,rfl,F,B,by omega⟩
  refine di f ⟨by omega,by omega,_,_,_,D,λn z m=>∃j:Nat,n=j/\j<=l.length/\m=l.length-j/\aZ w z [],⟨l.length,0,rfl,by omega,by omega,r⟩,?_⟩;rintro z W X ⟨j,rfl,S,K,g⟩-
  by_cases d:(j:Int)<(l.length:Int)
  .obtain⟨x,s⟩:=dX l j (by omega);obtain⟨q,L,h⟩:=(M.aK g).at s;refine gM d ?_;rw[L];exact⟨by omega,by omega,x,h,(St.start' g).one.aY z6.vs.toArray λZ w7 P=>P.aR 0 rfl x.vs rfl (I6.one _) λR v=>⟨_,v.cellsIn 0 rfl,bF (lI R x) λw9 C=>⟨_,rfl,cF (by rw[leq (H x (ak s))];rfl) (mS (by omega) ((v.quiet C).aK))⟩⟩⟩
  exact iI d ⟨2-(k+1),by omega,k+1,inc (by decide) e,by omega,rfl,g⟩
 exact dz f ⟨rfl,r⟩
def o9(p:Int)(sup:I6)(out:List I6)(i:Nat)(ask:I6):List I6:=
 if p=2 then (if mL sup (j6 out) (out.getD i z6) ask then out else out.set i ask)
 else if p=3 then out.set i (uh sup (j6 out) (out.getD i z6) ask) else out.set i ask
def yN(p:Int)(sup:I6)(a asked:List I6):Nat->List I6
 |0=>a
 |k+1=>o9 p sup (yN p sup a asked k) k (asked.getD k z6)
def Yr(p:Int)(sup:I6)(a asked:List I6):List I6:=yN p sup a asked asked.length
def CV{l:List I6}{B:Int}(h:∀u∈l,I6.Le u B)(a:0<=B)(i:Nat):I6.Le (l.getD i z6) B:=by
 rw[au]
 cases hg:l[i]? with
 |none=>exact λk _=>by rw[show(none:Option I6).getD z6=z6 from rfl,oU];omega
 |some u=>exact h u (ak hg)
def MI{l:List I6}{B:Int}(h:∀u∈l,I6.Le u B){x:I6}(c:I6.Le x B)(i:Nat):∀u∈l.set i x,I6.Le u B:=λu b=>by
 rcases cO b with a |rfl
 .exact h u a
 exact c
def QO{p:Int}{sup:I6}{out:List I6}{i:Nat}{ask:I6}{B:Int}(a:0<=B)(h:∀u∈out,I6.Le u B)(ha:I6.Le ask B):(o9 p sup out i ask).length=out.length/\∀u∈o9 p sup out i ask,I6.Le u B:=by
 unfold o9
 split
 .split
  .exact⟨rfl,h⟩
  exact⟨by simp,MI h ha i⟩
 split
 .exact⟨by simp,MI h (TE (CV h a i) ha) i⟩
 exact⟨by simp,MI h ha i⟩
theorem BP{p:Int}{sup:I6}{a asked:List I6}{B:Int}(b:0<=B)(h:∀u∈a,I6.Le u B)(ha:∀u∈asked,I6.Le u B):∀k,(yN p sup a asked k).length=a.length/\∀u∈yN p sup a asked k,I6.Le u B
 |0=>⟨rfl,h⟩
 |k+1=>by
  obtain⟨c,d⟩:=BP (p:=p) (sup:=sup) b h ha k;obtain⟨e,f⟩:=QO (p:=p) (sup:=sup) (i:=k) b d (CV ha b k);exact⟨e.trans c,f⟩
def UR{w0 w:ah}{B:bP}(s:St w0 w B){p:Int}(hp:1<=p/\p<=3){sup:I6}(N:I6.Le sup 4){a1 a2:OA}{c1 c2:Nat}{l1 l2:List I6}(W:U2 w a1 l1)(X:U2 w a2 l2)(hl:l2.length=l1.length)(h8:l1.length<=8)(J:∀u∈l1,I6.Le u 4)(H:∀u∈l2,I6.Le u 4):
  CP 185 #[iv p,.agg sup.vs.toArray,.slice a1 l1.length c1,.slice a2 l2.length c2] w (λr A=>∃a c,r=.tuple #[.slice a l1.length c,iv 0]/\St w0 A (star (kO a c (Yr p sup l1 l2)) B)/\aZ w A []):=by
 refine(p6 nK.1).2.1 (bE sup.vs.toArray λR w1 t1=>⟨_,t1.cellsIn 0 rfl,t1.qu (US hp N (W.aK t1.aK) (X.aK t1.aK) hl h8 J H) λw2 t2=>⟨_,rfl,cF rfl (bg (RV t2 (W.aK t2.aK) (by omega)) ?_)⟩⟩);rintro v w3 ⟨a,c,rfl,t3⟩;refine⟨_,_,_,rfl,?_⟩;have len:∀k,(yN p sup l1 l2 k).length=l1.length:=λk=>(BP (B:=4) (by omega) J H k).1;have z:∀k,∀u∈yN p sup l1 l2 k,I6.Le u 4:=λk=>(BP (B:=4) (by omega) J H k).2;have up:∀{u:I6},I6.Le u 4->I6.Le u 1000000:=λh k Z=>by have:=h k Z;omega
 have G:∀k,I6.Le (j6 (yN p sup l1 l2 k)) 1000000:=λk j Y=>by
  have:=yw (z k) j Y;rw[j6,I6.sj _ _ Y];have:=len k;omega
 let Q:Nat->bP:=λk=>Sep [kO a c (yN p sup l1 l2 k),ay R sup.vs.toArray 50,emp];refine⟨λn w4 m=>∃k:Nat,n=k/\k<=l2.length/\m=l2.length-k/\St w w4 (Q k),⟨l2.length,0,rfl,by omega,by omega,t3⟩,?_⟩;rintro w4 m n ⟨k,rfl,Z,hm,t4⟩-
 by_cases M:(k:Int)<(l2.length:Int)
 .obtain⟨x,O⟩:=dX l2 k (by omega);have P:l2.getD k z6=x:=by rw[au,O];rfl
  have F:=H x (ak O);have C:k<l1.length:=by omega
  obtain⟨q,hq,L⟩:=(X.aK (St.aK t4)).at O;have hg:=St.kN (l:=yN p sup l1 l2 k) (St.out t4 0 rfl) (by rw[len];omega);obtain⟨g,rfl⟩:=hg;have D:(yN p sup l1 l2 k)[k]?=some ((yN p sup l1 l2 k).getD k z6):=by
   rw[au,gE (by rw[len];exact C)];rfl
  have e:=CV (z k) (by omega) k;refine gM M ⟨λw5=>St w w5 (Q (k+1)),?_,?_⟩
  .rintro w5 t5 -;exact mS (by omega) t5
  rw[hq];refine⟨by omega,by omega,x,L,St.aY t4 z6.vs.toArray λS w6 t6=>t6.aR 0 rfl x.vs rfl (I6.one _) λw7 t7=>?_⟩;have U:=St.rd fU (t7.out 1 rfl);have o:=acn (c:=c) U (λu hu=>up (z k u hu)) (by rw[len];omega);rw[len] at o;refine bF o λw8 c8=>⟨_,rfl,(t7.quiet c8).aY z6.vs.toArray λT w9 t9=>t9.aR 0 rfl (j6 (yN p sup l1 l2 k)).vs rfl (I6.one _) λV t10=>?_⟩;generalize f:j6 (yN p sup l1 l2 k)=tot at t10;have E:=f▸G k;let d:=(yN p sup l1 l2 k).getD k z6;have rdN:∀{A:ah} {l:List bP} {y:I6},St w A (Sep (ay T tot.vs.toArray 50::ay S y.vs.toArray 50::kO (qs g) c (yN p sup l1 l2 k)::l))->aU A (Addr.add ⟨g,0,none⟩ (((k:Nat):Int).toNat*6)) 0 d.vs:=λt=>by
   obtain⟨I,r,b⟩:=iA.at (St.rd fU (t.out 2 rfl)) D
   cases r;exact b
  have r:=t10;have t11:=r.quiet (aZ.drew V []);refine⟨λA=>∃y:I6,yN p sup l1 l2 (k+1)=(yN p sup l1 l2 k).set k y/\St w A (Sep [ay T tot.vs.toArray 50,ay S y.vs.toArray 50,kO (qs g) c (yN p sup l1 l2 k),ay R sup.vs.toArray 50,emp]),?_,?_⟩
  .rintro I ⟨y,b,t⟩-;refine⟨_,t.cellsIn 1 rfl,by omega,by omega,?_⟩;rw[aq];refine St.wh fU (I6.one y) (t.out 2 rfl) (i:=k) (by rw[len];exact C) λK t12=>?_;simp only[Q];rw[b];exact(t12.back (l:=[ay T tot.vs.toArray 50,ay S y.vs.toArray 50,kO (qs g) c (yN p sup l1 l2 k),ay R sup.vs.toArray 50,emp]) (i:=2) (by simp)).aM [2,3,4]
  have b:yN p sup l1 l2 (k+1)=o9 p sup (yN p sup l1 l2 k) k x:=by show o9 _ _ _ _ (l2.getD k z6)=_;rw[P]
  by_cases p2:p=2
  .refine gM p2 ⟨_,t11.cellsIn 3 rfl,_,t11.cellsIn 0 rfl,by omega,by omega,_,rdN t11,_,t11.cellsIn 1 rfl,bF (Qp _ sup tot d x (up N) E (up e) (up F)) λw13 K=>⟨_,rfl,?_⟩⟩;have t13:=t11.quiet K;have I:yN p sup l1 l2 (k+1)=if mL sup tot d x then yN p sup l1 l2 k else (yN p sup l1 l2 k).set k x:=by
    rw[b,o9,ag p2,f]
   cases hr:mL sup tot d x with
   |true=>
    refine cT rfl ?_;rw[hr,ag rfl] at I;simp only[Q];rw[I];exact t13.aM [2,3,4]
   |false=>
    rw[hr] at I;exact cF rfl ⟨x,I,t13⟩
  refine iI p2 (cBq (λK=>⟨_,t11.cellsIn 3 rfl,_,t11.cellsIn 0 rfl,by omega,by omega,_,rdN t11,_,t11.cellsIn 1 rfl,bF (TG _ sup tot d x (up N) E (up e) (up F)) λw14 I=>⟨_,rfl,(t11.quiet I).aR 1 rfl (uh sup tot d x).vs rfl (I6.one _) λw15 t15=>⟨_,?_,t15⟩⟩⟩) λK=>⟨x,?_,r⟩)
  .rw[b,o9,af p2,ag K,f]
  rw[b,o9,af p2,af K]
 obtain rfl:k=l2.length:=by omega
 exact cF (by simp) ⟨a,c,rfl,(s.after (St.aM t4 [0]).single),St.aK t4⟩
def xx{w:ah}{a:OA}{c:Nat}{l:List Pr}(h:kf w a l):
  CP 195 #[.slice a l.length c] w ((Cj (iu l) (Fg l) w)):=by
 refine(p6 rF.1).2.1 ?_
 by_cases D:l.length=0
 .exact cT (by rw[D];rfl) (dM (by decide) (λd=>by have:=d.l1;omega) (aZ.refl _ _) (by rw[Fg,ag D]))
 refine cF (by simpa using D) ?_;rcases aQ 6 l.length with I|I
 .exact di (by omega) (dM (by decide) (λd=>by have:=d.l2;omega) (aZ.refl _ _) (by rw[Fg,af D,ag I]))
 refine dz (by omega) ⟨λn L m=>∃k:Nat,n=k/\k<=l.length/\m=l.length-k/\(∀i p,i<k->l[i]?=some p->vr l i p)/\aZ w L [],⟨l.length,0,rfl,by omega,by omega,λi p F=>by omega,aZ.refl _ _⟩,?_⟩;rintro L m n ⟨k,rfl,hk,hm,P,B⟩-
 by_cases C:(k:Int)<(l.length:Int)
 .obtain⟨x,o⟩:=dX l k (by omega);obtain⟨_,q,G,E⟩:=(h.aK B) k x o;have A:¬ vr l k x->¬ iu l:=λJ d=>J (d.good k x o);have N:∀{e:Int},e≠0->IQ l k x=e->Fg l=e:=λY h=>by
   have:=nS (f:=IQ l) (n:=0) (λi p F d=>by rw[az];exact Az (P i p F d)) o (by rw[az,h];exact Y);rw[az,h] at this;rw[Fg,af D,af (by omega),this,ag Y]
  have t:∀{Z:ah},aZ w Z []->∀(j:Nat) (y:Pr),l[j]?=some y->Z.cell? (q.add (j*5))=some (sv y.nm):=λQ j y H=>by
   obtain⟨_,q',g,s⟩:=(h.aK Q) j y H;rw[G] at g;cases g;have:=s.1
   rwa [Addr.add_add] at this
  refine cT (by simpa using C) ?_;rw[G];refine⟨by omega,by omega,_,t B k x o,kR (DZ L x.nm) ⟨_,rfl,?_⟩⟩
  cases hn:iz x.nm with
  |false=>exact cT rfl (dM (by decide) (A λu=>by have:=u.1;simp[xq,hn] at this) B (N (by decide) (by rw[IQ,hn];rfl)))
  |true=>
   refine cF rfl ⟨λn M m=>∃j:Nat,n=j/\j<=k/\m=k-j/\(l.take j).any (λp=>p.nm==x.nm)=false/\aZ w M [],⟨k,0,rfl,by omega,by omega,rfl,B⟩,?_⟩;rintro M m3 n2 ⟨j,rfl,hj,hm3,r,O⟩-
   by_cases S:(j:Int)<(k:Int)
   .obtain⟨y,H⟩:=dX l j (by omega);have z:=O.trans (aZ.drew M []) (by simp);refine cT (by simpa using S) ⟨by omega,by omega,_,t z j y H,by omega,by omega,_,t z k x o,?_⟩
    by_cases b:y.nm=x.nm
    .have v:=jQ (p:=λq=>q.nm==x.nm) (show(l.take k)[j]?=some y by rw[bz,ag (by omega)];exact H) (by simpa using b);exact cT (by rw[b];simp) (dM (by decide) (A λu=>by have:=u.2;rw[v] at this;cases this) z (N (by decide) (by rw[IQ,hn,v];rfl)))
    exact cF (by rw[j9,j9];simpa using b) ⟨k-(j+1),by omega,j+1,by rw[gC (by omega)];rfl,by omega,rfl,jy r H (by simpa using b),z⟩
   obtain rfl:j=k:=by omega
   obtain⟨_,q',g,s⟩:=(h.aK O) j x o;rw[G] at g;cases g;refine cF (by simp) ⟨by omega,by omega,Ex4 ⟨_,s,dH (((St.start' O).one.jR _ 135).aR 0 rfl x.cells rfl x.one λw5 K=>?_)⟩⟩;generalize hr1:M.heap.size=r1 at K⊢;have z:∀(j:Nat) (v:Value),x.cells[j]?=some v->w5.cell? ⟨r1,j,none⟩=some v:=λj v hv=>by rw[K.aj 0 rfl];simpa using hv
   refine⟨λb w6=>w6=w5/\b = !EK x,?_,?_⟩
   .rintro w6 b ⟨rfl,rfl⟩-
    cases hr:EK x with
    |false=>exact cT rfl (dM (by decide) (A λu=>by have:=u.1;simp[xq,hr] at this) K.aK (N (by decide) (by rw[IQ,hn,r,hr];rfl)))
    |true=>
     refine cF rfl ⟨l.length-(j+1),by omega,j+1,by rw[gC (by omega)];rfl,by omega,rfl,λi p F d=>?_,K.aK⟩;rcases aQ i j with R |R
     .exact P i p R d
     obtain rfl:i=j:=by omega
     rw[o] at d;cases d;exact⟨by simp[xq,hn,hr],r⟩
   have no:(¬ (1<=x.sup/\x.sup<=4/\0<=x.res/\x.res<=1000000/\0<=x.pts/\x.pts<=1000/\0<=x.Bn/\x.Bn<=4))->true = !EK x:=λR=>by
    cases hr:EK x with
    |false=>rfl
    |true=>
     exfalso;apply R
     simp only[EK,aF,aV] at hr;omega
   refine⟨_,z 1 _ rfl,?_⟩
   by_cases g1:x.sup<1
   .exact di g1 ⟨rfl,no (by omega)⟩
   refine dz g1 ⟨_,z 1 _ rfl,?_⟩
   by_cases g2:x.sup>4
   .exact di g2 ⟨rfl,no (by omega)⟩
   refine dz g2 ⟨_,z 2 _ rfl,?_⟩
   by_cases T:x.res<0
   .exact di T ⟨rfl,no (by omega)⟩
   refine dz T ⟨_,z 2 _ rfl,?_⟩
   by_cases U:x.res>1000000
   .exact di U ⟨rfl,no (by omega)⟩
   refine dz U ⟨_,z 3 _ rfl,?_⟩
   by_cases V:x.pts<0
   .exact di V ⟨rfl,no (by omega)⟩
   refine dz V ⟨_,z 3 _ rfl,?_⟩
   by_cases W:x.pts>1000
   .exact di W ⟨rfl,no (by omega)⟩
   refine dz W ⟨_,z 4 _ rfl,cBq (λg7=>⟨rfl,no (by omega)⟩) λg7=>⟨_,z 4 _ rfl,rfl,?_⟩⟩
   by_cases X:x.Bn>4
   .rw[dT X];exact no (by omega)
   rw[dF X];have:EK x=true:=by simp only[EK,aF,aV];omega
   rw[this];rfl
 obtain rfl:k=l.length:=by omega
 have u:∀i p,l[i]?=some p->vr l i p:=λi p d=>P i p (ai.1 d).1 d;have G:∀k,((l.take k).map Pr.sup).all lX=true:=λk=>by
  rw[bw];intro x o;obtain⟨p,d,rfl⟩:=aN.1 o;obtain⟨i,F,rfl⟩:=dY.1 (bC d);have:=(u i _ (gE F)).1;simp only[xq,EK,aF,aV] at this;simp only[lX,aF,aV];omega
 refine cF (by simp) ⟨λp n e m=>∃k:Nat,n=k/\k<=l.length/\m=l.length-k/\p=pr ((l.take k).map Pr.sup)/\e=L,⟨l.length,0,rfl,by omega,by omega,rfl,rfl⟩,?_⟩;rintro e v p n ⟨k,rfl,hk,t,rfl,rfl⟩-;have J:1<=pr ((l.take k).map Pr.sup)/\pr ((l.take k).map Pr.sup)<=15625:=by
  obtain⟨j,r⟩:=vf (G k);refine⟨j,bM r ?_⟩;have s:((l.take k).map Pr.sup).length=k:=by simp;omega
  rw[s];have b:k<=6:=by omega
  match k,b with
  |0,_|1,_|2,_|3,_|4,_|5,_|6,_=>decide
 by_cases C:(k:Int)<(l.length:Int)
 .obtain⟨x,o⟩:=dX l k (by omega);obtain⟨_,q,g,E⟩:=(h.aK B) k x o;have r:0<=x.sup/\x.sup<=4:=by
   have:=(u k x o).1;simp only[xq,EK,aF,aV] at this;omega
  have j:=bM (cw (show x.sup+1<=5 by omega) (by omega)) (bt J.2 (by omega));have b:0<=pr ((l.take k).map Pr.sup)*(x.sup+1):=dh (by omega) (by omega);refine cT (by simpa using C) ?_;rw[g];refine⟨by omega,by omega,x.sup,E.2.1,l.length-(k+1),by omega,k+1,by rw[gC (by omega)];rfl,by omega,rfl,?_,rfl⟩;rw[fQ (n:=x.sup+1) ⟨by omega,by omega⟩,gC (by omega),bJ o,aS,cD,oq,C6]
 obtain rfl:k=l.length:=by omega
 rw[aH] at J⊢;refine cF (by simp) ?_;have b:Fg l=if pr (Fy l)<=1024 then 0 else 12:=by
  have:=kF (f:=IQ l) (n:=0) (l:=l) λi p d=>by rw[az];exact Az (u i p d)
  rw[Fg,af D,af (by omega),this,af (by decide)]
 rw[Dg I] at b
 by_cases d:pr (l.map Pr.sup)<=1024
 .exact dz (by omega) (qG ⟨by omega,I,u,d⟩ B (by rw[b,ag d]))
 exact di (by omega) (dM (by decide) (λR=>d R.lim) B (by rw[b,af d]))
structure Br where
 nm:List UInt8
 cls:Int
 bud:Int
 pts:Int
def Br.cells(p:Br):List Value:=[sv p.nm,iv p.cls,iv p.bud,iv p.pts]
def Br.In(p:Br):Prop:=Go.Vc.In p.cls/\Go.Vc.In p.bud/\Go.Vc.In p.pts
def rQ(w:ah)(a:OA)(l:List Br):Prop:=∀(i:Nat) (p:Br),l[i]?=some p->p.In/\∃q,a=some q/\aU w (q.add (i*4)) 0 p.cells
def rQ.aK{w b:ah}{a:OA}{l:List Br}(h:rQ w a l)(hc:aZ w b []):rQ b a l:=λi p c=>
 let ⟨h1,q,hq,h2⟩:=h i p c
 ⟨h1,q,hq,ff hc h2⟩
def rQ.take{w:ah}{a:OA}{l:List Br}(h:rQ w a l)(n:Nat):rQ w a (l.take n):=λi p b=>by
 rw[bz] at b
 split at b
 .exact h i p b
 cases b
def Br.one(p:Br):∀v∈p.cells,v.oneCell'=true:=by
 intro v a;simp[Br.cells] at a;rcases a with rfl|rfl|rfl|rfl<;>rfl
def aaq{a:OA}{c:Nat}:(if c=0 then a else Option.map (λx=>Addr.add x (0*4)) a)=a:=by
 split
 .rfl
 cases a<;>simp[Addr.add]
def Xe{w:ah}{a:OA}{c:Nat}{l:List Br}(h:rQ w a l)(s:l.length<=1000)(nm:List UInt8):
  CP 222 #[.slice a l.length c,sv nm] w (λr b=>(∃k:Int,r=.tuple #[iv k,.bool (l.any λp=>p.nm==nm)])/\aZ w b []):=by
 refine Gh ⟨λn o m=>∃k:Nat,n=k/\k<=l.length/\m=l.length-k/\(l.take k).any (λp=>p.nm==nm)=false/\aZ w o [],⟨l.length,0,rfl,by omega,by omega,rfl,aZ.refl _ _⟩,?_⟩;rintro o m n ⟨k,rfl,r,t,e,f⟩-
 by_cases b:(k:Int)<(l.length:Int)
 .obtain⟨x,i⟩:=dX l k (by omega);obtain⟨_,q,rfl,g⟩:=(h.aK f) k x i;refine cT (by simpa using b) ⟨by omega,by omega,_,_,_,_,g,dH (((St.start' f).one.jR _ 137).aR 0 rfl x.cells rfl x.one λu j=>⟨_,by rw[j.aj 0 rfl];rfl,?_⟩)⟩
  by_cases d:x.nm=nm
  .exact cT (by rw[d];simp) ⟨⟨k,by rw[jQ i (by simpa using d)]⟩,j.aK⟩
  exact cF (by rw[j9,j9];simpa using d) ⟨l.length-(k+1),by omega,k+1,by rw[gC (by omega)];rfl,by omega,rfl,jy e i (by simpa using d),j.aK⟩
 refine cF (by simpa using b) ⟨⟨0,?_⟩,f⟩;rw[bB (by omega)] at e;rw[e]
def A9(x:Br):Bool:=(decide (0<=x.cls)&&decide (x.cls<=4))&&((decide (0<=x.bud)&&decide (x.bud<=1000000))&&(decide (0<=x.pts)&&decide (x.pts<=24000)))
def xU(l:List Br)(i:Nat)(p:Br):Prop:=(iz p.nm&&A9 p)=true/\((l.take i).any λq=>q.nm==p.nm)=false
structure Di (l:List Br):Prop where
 l1:1<=l.length
 l2:l.length<=8
 good:∀i p,l[i]?=some p->xU l i p
def oZ{x:Br}(a:¬ (0<=x.cls/\x.cls<=4/\0<=x.bud/\x.bud<=1000000/\0<=x.pts/\x.pts<=24000)):true = !A9 x:=by
 cases hr:A9 x with
 |false=>rfl
 |true=>
  exfalso;apply a
  simp only[A9,aF,aV] at hr;omega
def Nk(l:List Br)(i:Nat)(p:Br):Int:=if iz p.nm=false then 5 else if ((l.take i).any λq=>q.nm==p.nm) then 7 else if A9 p=false then 4 else 0
def zU{l:List Br}{i:Nat}{p:Br}(h:xU l i p):Nk l i p=0:=by
 obtain⟨a,b⟩:=h;rw[aF] at a;rw[Nk,a.1,b,a.2];rfl
def FM(l:List Br):Int:=if l.length=0 then 1 else if 8<l.length then 3 else pO (Nk l) 0 l
def Qn{w:ah}{a:OA}{c:Nat}{l:List Br}(h:rQ w a l)(J:l.length<=c):
  CP 160 #[.slice a l.length c] w ((Cj (Di l) (FM l) w)):=by
 refine(p6 oC.2).2.2.2.2.1 ?_
 by_cases r:l.length=0
 .exact cT (by rw[r];rfl) (dM (by decide) (λd=>by have:=d.l1;omega) (aZ.refl _ _) (by rw[FM,ag r]))
 refine cF (by simpa using r) ?_;rcases aQ 8 l.length with B|B
 .exact di (by omega) (dM (by decide) (λd=>by have:=d.l2;omega) (aZ.refl _ _) (by rw[FM,af r,ag B]))
 refine dz (by omega) ⟨λn F m=>∃k:Nat,n=k/\k<=l.length/\m=l.length-k/\(∀i p,i<k->l[i]?=some p->xU l i p)/\aZ w F [],⟨l.length,0,rfl,by omega,by omega,λi p D=>by omega,aZ.refl _ _⟩,?_⟩;rintro F m n ⟨k,rfl,T,Z,y,t⟩-
 by_cases E:(k:Int)<(l.length:Int)
 .obtain⟨x,z⟩:=dX l k (by omega);obtain⟨_,q,L,C⟩:=(h.aK t) k x z;have o:¬ xU l k x->¬ Di l:=λR d=>R (d.good k x z);have A:∀{e:Int},e≠0->Nk l k x=e->FM l=e:=λS h=>by
   have:=nS (f:=Nk l) (n:=0) (λi p D d=>by rw[az];exact zU (y i p D d)) z (by rw[az,h];exact S);rw[az,h] at this;rw[FM,af r,af (by omega),this]
  refine cT (by simpa using E) ?_;rw[L];refine⟨by omega,by omega,_,_,_,_,C,dH (((St.start' t).one.jR _ 137).aR 0 rfl x.cells rfl x.one λN s=>?_)⟩;generalize U:F.heap.size=W at s⊢;have g:∀{M:ah},aZ N M []->∀(j:Nat) (v:Value),x.cells[j]?=some v->M.cell? ⟨W,j,none⟩=some v:=λt j v V=>iV (by rw[s.aj 0 rfl];simpa using V) t;refine⟨_,g (aZ.refl _ _) 0 _ rfl,bg (D0 N x.nm) ?_⟩;rintro v X ⟨rfl,rfl⟩;refine⟨_,rfl,?_⟩
  cases hn:iz x.nm with
  |false=>exact cT rfl (dM (by decide) (o λu=>by have:=u.1;simp[hn] at this) s.aK (A (by decide) (by rw[Nk,hn];rfl)))
  |true=>
   have d4:=aZ.drew X [];refine cF rfl ⟨by omega,by omega,_,g d4 0 _ rfl,?_⟩;rw[<-L,aaq];have K:=Xe (c:=c-0) ((h.aK (s.aK.trans d4 (by simp))).take k) (by rw[aW];omega) x.nm;rw[aW,gu T] at K;refine bg K ?_;rintro v Y ⟨⟨kk,rfl⟩,P⟩;have d5:=d4.trans P (by simp);refine⟨_,_,rfl,?_⟩
   cases hany:((l.take k).any λp=>p.nm==x.nm) with
   |true=>exact cT rfl (dM (by decide) (o λu=>by have:=u.2;rw[hany] at this;cases this) (s.aK.trans d5 (by simp)) (A (by decide) (by rw[Nk,hn,hany];rfl)))
   |false=>
    refine cF rfl ⟨λb O=>O=Y/\b = !A9 x,?_,?_⟩
    .rintro O b ⟨rfl,rfl⟩-;have G:=s.aK.trans d5 (by simp)
     cases hr:A9 x with
     |false=>exact cT rfl (dM (by decide) (o λu=>by have:=u.1;simp[hr] at this) G (A (by decide) (by rw[Nk,hn,hany,hr];rfl)))
     |true=>
      refine cF rfl ⟨l.length-(k+1),by omega,k+1,by rw[gC (by omega)];rfl,by omega,rfl,λi p D d=>?_,G⟩;rcases aQ i k with H |H
      .exact y i p H d
      obtain rfl:i=k:=by omega
      rw[z] at d;cases d;exact⟨by simp[hn,hr],hany⟩
    refine⟨_,g d5 1 _ rfl,?_⟩
    by_cases g1:x.cls<0
    .exact di g1 ⟨rfl,oZ (by omega)⟩
    refine dz g1 ⟨_,g d5 1 _ rfl,?_⟩
    by_cases g2:x.cls>4
    .exact di g2 ⟨rfl,oZ (by omega)⟩
    refine dz g2 ⟨_,g d5 2 _ rfl,?_⟩
    by_cases G:x.bud<0
    .exact di G ⟨rfl,oZ (by omega)⟩
    refine dz G ⟨_,g d5 2 _ rfl,?_⟩
    by_cases H:x.bud>1000000
    .exact di H ⟨rfl,oZ (by omega)⟩
    refine dz H ⟨_,g d5 3 _ rfl,cBq (λQ=>⟨rfl,oZ (by omega)⟩) λQ=>⟨_,g d5 3 _ rfl,rfl,?_⟩⟩
    by_cases I:x.pts>24000
    .rw[dT I];exact oZ (by omega)
    rw[dF I];have:A9 x=true:=by simp only[A9,aF,aV];omega
    rw[this];rfl
 obtain rfl:k=l.length:=by omega
 exact cF (by simp) (qG ⟨by omega,B,λi p d=>y i p (ai.1 d).1 d⟩ t (by rw[FM,af r,af (by omega),kF λi p d=>by rw[az];exact zU (y i p (ai.1 d).1 d)]))
def P9{w:ah}{a:OA}{c:Nat}{l:List Br}(h:rQ w a l)(A:l.length<=1000){k:Nat}{x:Br}(s:l[k]?=some x):
  CP 283 #[.slice a l.length c,sv x.nm] w (λr b=>(∃j:Nat,r=.tuple #[iv j,.bool true]/\(j=k<->((l.take k).any λp=>p.nm==x.nm)=false))/\b=w):=by
 have u:=(ai.1 s).1;refine(p6 rF.1).2.2.1 ⟨λn r m=>∃i:Nat,n=i/\i<=k/\m=l.length-i/\(l.take i).any (λp=>p.nm==x.nm)=false/\r=w,⟨l.length,0,rfl,by omega,by omega,rfl,rfl⟩,?_⟩;rintro r m n ⟨i,rfl,z,B,j,rfl⟩-;have g:(i:Int)<(l.length:Int):=by omega
 obtain⟨y,d⟩:=dX l i (by omega);obtain⟨_,q,v,f⟩:=h i y d;refine cT (by simpa using g) ?_;rw[v];refine⟨by omega,by omega,bs y.nm,by have:=f.1;rwa [Addr.add_add] at this,?_⟩
 by_cases b:y.nm=x.nm
 .refine cT (by rw[b];simp) ⟨⟨i,rfl,?_,?_⟩,rfl⟩
  .rintro rfl;exact j
  intro o;rcases aQ i k with e |e
  .have t:(l.take k)[i]?=some y:=by rw[bz,ag e];exact d
   rw[jQ (p:=λq=>q.nm==x.nm) t (by simpa using b)] at o
   cases o
  omega
 have o:i≠k:=λe=>by subst e;rw[s] at d;cases d;exact b rfl
 exact cF (by show((bs y.nm).toList==(bs x.nm).toList)=false;rw[j9,j9];simpa using b) ⟨l.length-(i+1),by omega,i+1,by rw[gC (by omega)];rfl,by omega,rfl,jy j d (by simpa using b),rfl⟩
def Ky{w:ah}{a:OA}{c:Nat}{l:List Br}(h:rQ w a l):
  CP 196 #[.slice a l.length c] w ((Cj (Di l) (FM l) w)):=by
 refine(p6 rF.1).2.2.2.1 ?_
 by_cases u:l.length=0
 .exact cT (by rw[u];rfl) (dM (by decide) (λd=>by have:=d.l1;omega) (aZ.refl _ _) (by rw[FM,ag u]))
 refine cF (by simpa using u) ?_;rcases aQ 8 l.length with F|F
 .exact di (by omega) (dM (by decide) (λd=>by have:=d.l2;omega) (aZ.refl _ _) (by rw[FM,af u,ag F]))
 refine dz (by omega) ⟨λn D m=>∃k:Nat,n=k/\k<=l.length/\m=l.length-k/\(∀i p,i<k->l[i]?=some p->xU l i p)/\aZ w D [],⟨l.length,0,rfl,by omega,by omega,λi p I=>by omega,aZ.refl _ _⟩,?_⟩;rintro D m n ⟨k,rfl,Y,Z,C,G⟩-
 by_cases K:(k:Int)<(l.length:Int)
 .obtain⟨x,B⟩:=dX l k (by omega);obtain⟨_,q,L,o⟩:=(h.aK G) k x B;have t:¬ xU l k x->¬ Di l:=λV d=>V (d.good k x B);have E:∀{e:Int},e≠0->Nk l k x=e->FM l=e:=λW h=>by
   have:=nS (f:=Nk l) (n:=0) (λi p I d=>by rw[az];exact zU (C i p I d)) B (by rw[az,h];exact W);rw[az,h] at this;rw[FM,af u,af (by omega),this]
  have y:∀{S:ah},aZ D S []->S.cell? (q.add (k*4))=some (sv x.nm):=λH=>by
   have:=(ff H o).1
   rwa [Addr.add_add] at this
  refine cT (by simpa using K) ?_;rw[L];refine⟨by omega,by omega,bs x.nm,y (aZ.refl _ _),bF (LW D x.nm) λw2 z=>?_⟩;have g:=G.trans z (by simp);refine⟨_,rfl,?_⟩
  cases hn:iz x.nm with
  |false=>exact cT rfl (dM (by decide) (t λA=>by have:=A.1;simp[hn] at this) g (E (by decide) (by rw[Nk,hn];rfl)))
  |true=>
   refine cF rfl ⟨by omega,by omega,bs x.nm,y z,?_⟩;rw[<-L];refine bg (P9 (h.aK g) (by omega) B) ?_;rintro v X ⟨⟨j,rfl,J⟩,rfl⟩;refine⟨_,_,rfl,?_⟩
   by_cases r:j=k
   .have s:=J.1 r;have M:=(ff z o).2.1;have N:=(ff z o).2.2.1;have O:=(ff z o).2.2.2.1;refine cF (by rw[r];simp) ⟨λb T=>T=X/\b = !A9 x,?_,?_⟩
    .rintro T b ⟨rfl,rfl⟩-
     cases hr:A9 x with
     |false=>exact cT rfl (dM (by decide) (t λA=>by have:=A.1;simp[hr] at this) g (E (by decide) (by rw[Nk,hn,s,hr];rfl)))
     |true=>
      refine cF rfl ⟨l.length-(k+1),by omega,k+1,by rw[gC (by omega)];rfl,by omega,rfl,λi p I d=>?_,g⟩;rcases aQ i k with P |P
      .exact C i p P d
      obtain rfl:i=k:=by omega
      rw[B] at d;cases d;exact⟨by simp[hn,hr],s⟩
    rw[L];refine⟨by omega,by omega,_,M,?_⟩
    by_cases g1:x.cls<0
    .exact di g1 ⟨rfl,oZ (by omega)⟩
    refine dz g1 ⟨by omega,by omega,_,M,?_⟩
    by_cases g2:x.cls>4
    .exact di g2 ⟨rfl,oZ (by omega)⟩
    refine dz g2 ⟨by omega,by omega,_,N,?_⟩
    by_cases P:x.bud<0
    .exact di P ⟨rfl,oZ (by omega)⟩
    refine dz P ⟨by omega,by omega,_,N,?_⟩
    by_cases Q:x.bud>1000000
    .exact di Q ⟨rfl,oZ (by omega)⟩
    refine dz Q ⟨by omega,by omega,_,O,cBq (λU=>⟨rfl,oZ (by omega)⟩) λU=>⟨by omega,by omega,_,O,rfl,?_⟩⟩
    by_cases R:x.pts>24000
    .rw[dT R];exact oZ (by omega)
    rw[dF R];have:A9 x=true:=by simp only[A9,aF,aV];omega
    rw[this];rfl
   refine cT (by simp;omega) (dM (by decide) (t λA=>r (J.2 A.2)) g (E (by decide) (by rw[Nk,hn,show((l.take k).any λq=>q.nm==x.nm)=true from by cases h:((l.take k).any λq=>q.nm==x.nm)<;>first|rfl|exact absurd (J.2 h) r];rfl)))
 obtain rfl:k=l.length:=by omega
 exact cF (by simp) (qG ⟨by omega,F,λi p d=>C i p (ai.1 d).1 d⟩ G (by rw[FM,af u,af (by omega),kF λi p d=>by rw[az];exact zU (C i p (ai.1 d).1 d)]))
structure T3 where
 a:Int
 b:Int
 c:Int
def T3.cells(p:T3):List Value:=[iv p.a,iv p.b,iv p.c]
def Dl(w:ah)(a:OA)(l:List T3):Prop:=∀(i:Nat) (p:T3),l[i]?=some p->∃q,a=some q/\aU w (q.add (i*3)) 0 p.cells
def Dl.aK{w b:ah}{a:OA}{l:List T3}(h:Dl w a l)(hc:aZ w b []):Dl b a l:=λi p c=>
 let ⟨q,hq,h2⟩:=h i p c
 ⟨q,hq,ff hc h2⟩
def T3.one(p:T3):∀v∈p.cells,v.oneCell'=true:=by
 intro v a;simp[T3.cells] at a;rcases a with rfl|rfl|rfl<;>rfl
def slice3{a:OA}{c:Nat}:(if c=0 then a else Option.map (λx=>Addr.add x (0*3)) a)=a:=by
 split
 .rfl
 cases a<;>simp[Addr.add]
def zV(n:Nat)(x:T3):Bool:=(decide (-1<=x.a)&&decide (x.a<(n:Int)))&&((decide (0<=x.b)&&decide (x.b<=4))&&(decide (0<=x.c)&&decide (x.c<=24)))
def kI(x y:T3):Bool:=y.a==x.a&&y.b==x.b
def FC(n:Nat)(l:List T3)(i:Nat)(p:T3):Prop:=zV n p=true/\((l.take i).any λq=>kI p q)=false
structure Dj (n:Nat) (l:List T3):Prop where
 l1:l.length<=16
 good:∀i p,l[i]?=some p->FC n l i p
def LD(n:Nat)(l:List T3)(i:Nat)(x:T3):Int:=if (decide (-1<=x.a)&&decide (x.a<(n:Int)))=false then 6 else if ((decide (0<=x.b)&&decide (x.b<=4))&&(decide (0<=x.c)&&decide (x.c<=24)))=false then 4 else if ((l.take i).any λq=>kI x q) then 7 else 0
def zX{n:Nat}{l:List T3}{i:Nat}{p:T3}(h:FC n l i p):LD n l i p=0:=by
 obtain⟨a,b⟩:=h;unfold zV at a;rw[aF] at a;rw[LD,a.1,a.2,b];rfl
def LF(n:Nat)(l:List T3):Int:=if 16<l.length then 3 else pO (LD n l) 0 l
def VB{w:ah}{a1 a2 a3 a4:OA}{l1 c1 l2 c2 c3 l4 c4:Nat}{l:List T3}(h:Dl w a3 l)(hcap:l.length<=c3):
  CP 161 #[.agg #[.slice a1 l1 c1,.slice a2 l2 c2,.slice a3 l.length c3,.slice a4 l4 c4]] w ((Cj (Dj l2 l) (LF l2 l) w)):=by
 refine(p6 oC.2).2.2.2.2.2.1 (dH ?_);have z:=(St.start w).one.jR #[.slice a1 l1 c1,.slice a2 l2 c2,.slice a3 l.length c3,.slice a4 l4 c4] 34;generalize hw1:w.alloc _=J at z⊢;generalize hr1:w.heap.size=r1 at z⊢;have M:∀{I:ah},aZ J I []->∀(j:Nat) (v:Value),(#[.slice a1 l1 c1,.slice a2 l2 c2,.slice a3 l.length c3,.slice a4 l4 c4]:Array Value)[j]?=some v->I.cell? ⟨r1,j,none⟩=some v:=λu j v G=>iV (by rw[z.aj 0 rfl];exact G) u;have z1:aZ J J []:=aZ.refl _ _;refine⟨_,_,_,M z1 2 _ rfl,?_⟩;rcases aQ 16 l.length with R|R
 .exact di (by omega) (dM (by decide) (λd=>by have:=d.l1;omega) z.aK (by rw[LF,ag R]))
 refine dz (by omega) ⟨_,_,_,M z1 2 _ rfl,λn L m=>∃k:Nat,n=k/\k<=l.length/\m=l.length-k/\(∀i p,i<k->l[i]?=some p->FC l2 l i p)/\aZ J L [],⟨l.length,0,rfl,by omega,by omega,λi p U=>by omega,z1⟩,?_⟩;rintro L m n ⟨k,rfl,hk,hm,N,u⟩-;have C:aZ w L []:=z.aK.trans u (by simp)
 by_cases V:(k:Int)<(l.length:Int)
 .obtain⟨x,O⟩:=dX l k (by omega);obtain⟨q,W,T⟩:=(h.aK C) k x O;have s:¬ FC l2 l k x->¬ Dj l2 l:=λhb d=>hb (d.good k x O);have P:∀{e:Int},e≠0->LD l2 l k x=e->LF l2 l=e:=λhe h=>by
   have:=nS (f:=LD l2 l) (n:=0) (λi p U d=>by rw[az];exact zX (N i p U d)) O (by rw[az,h];exact he);rw[az,h] at this;rw[LF,af (by omega),this]
  refine gM V ?_;rw[W];refine⟨by omega,by omega,_,_,_,T,dH (((St.start L).one.jR _ 139).aR 0 rfl x.cells rfl x.one λA Y=>?_)⟩;generalize hr2:L.heap.size=r2 at Y⊢;have d4:aZ J A []:=u.trans Y.aK (by simp);have g:aZ w A []:=z.aK.trans d4 (by simp);have o:∀{I:ah},aZ A I []->∀(j:Nat) (v:Value),x.cells[j]?=some v->I.cell? ⟨r2,j,none⟩=some v:=λu j v G=>iV (by rw[Y.aj 0 rfl];simpa using G) u;have t:aZ A A []:=aZ.refl _ _;refine⟨λb Z=>Z=A/\b = !(decide (-1<=x.a)&&decide (x.a<(l2:Int))),?_,?_⟩
  .rintro Z b ⟨rfl,rfl⟩-
   cases g0:(decide (-1<=x.a)&&decide (x.a<(l2:Int))) with
   |false=>exact cT rfl (dM (by decide) (s λD=>by have:=D.1;unfold zV at this;rw[g0] at this;cases this) g (P (by decide) (by rw[LD,g0];rfl)))
   |true=>
    refine cF rfl ⟨λb w6=>w6=Z/\b = !((decide (0<=x.b)&&decide (x.b<=4))&&(decide (0<=x.c)&&decide (x.c<=24))),?_,?_⟩
    .rintro w6 b ⟨rfl,rfl⟩-
     cases g1:((decide (0<=x.b)&&decide (x.b<=4))&&(decide (0<=x.c)&&decide (x.c<=24))) with
     |false=>exact cT rfl (dM (by decide) (s λD=>by have:=D.1;unfold zV at this;rw[g0,g1] at this;cases this) g (P (by decide) (by rw[LD,g0,g1];rfl)))
     |true=>
      refine cF rfl ⟨_,_,_,M d4 2 _ rfl,by omega,by omega,λn w7 m=>∃j:Nat,n=j/\j<=k/\m=k-j/\(l.take j).any (λp=>kI x p)=false/\aZ w6 w7 [],⟨k,0,rfl,by omega,by omega,rfl,t⟩,?_⟩;rintro w7 m7 n7 ⟨j,rfl,hj,hm7,r,Q⟩-
      by_cases E:(j:Int)<(k:Int)
      .obtain⟨y,X⟩:=dX l j (by omega);obtain⟨q',F,B⟩:=(h.aK (g.trans Q (by simp))) j y X;rw[W] at F;cases F;refine gM E ?_;rw[slice3,W];refine⟨by omega,by simpa using E,_,_,_,B,dH (((St.start' Q).one.jR _ 139).aR 0 rfl y.cells rfl y.one λw9 H=>?_)⟩;have cy:∀(j:Nat) (v:Value),y.cells[j]?=some v->w9.cell? ⟨w7.heap.size,j,none⟩=some v:=λj v G=>by rw[H.aj 0 rfl];simpa using G
       refine⟨λb K=>K=w9/\b=kI x y,?_,_,cy 0 _ rfl,_,o H.aK 0 _ rfl,?_⟩
       .rintro K b ⟨rfl,rfl⟩-
        cases hs:kI x y with
        |true=>
         have h2:(l.take k)[j]?=some y:=by rw[bz,ag (by omega)];exact X
         have h3:=jQ (p:=λq=>kI x q) h2 hs;refine cT rfl (dM (by decide) (s λD=>?_) (g.trans H.aK (by simp)) (P (by decide) (by rw[LD,g0,g1,h3];rfl)));have S:=D.2;rw[h3] at S
         cases S
        |false=>exact cF rfl ⟨k-(j+1),by omega,j+1,by rw[gC (by omega)];rfl,by omega,rfl,jy r X hs,H.aK⟩
       refine cBq (λS=>⟨_,cy 1 _ rfl,_,o H.aK 1 _ rfl,rfl,?_⟩) λS=>⟨rfl,by simp[kI,S]⟩;simp[kI,S]
      obtain rfl:j=k:=by omega
      refine cF (by simp) ⟨l.length-(j+1),by omega,j+1,by rw[gC (by omega)];rfl,by omega,rfl,λi p U d=>?_,d4.trans Q (by simp)⟩;rcases aQ i j with y |y
      .exact N i p y d
      obtain rfl:i=j:=by omega
      rw[O] at d;cases d;exact⟨by unfold zV;rw[g0,g1];rfl,r⟩
    have no:¬ (0<=x.b/\x.b<=4/\0<=x.c/\x.c<=24)->true = !((decide (0<=x.b)&&decide (x.b<=4))&&(decide (0<=x.c)&&decide (x.c<=24))):=λB=>by
     cases hr:((decide (0<=x.b)&&decide (x.b<=4))&&(decide (0<=x.c)&&decide (x.c<=24))) with
     |false=>rfl
     |true=>
      exfalso;apply B
      simp only[aF,aV] at hr;omega
    refine⟨_,o t 1 _ rfl,?_⟩
    by_cases g1:x.b<0
    .exact di g1 ⟨rfl,no (by omega)⟩
    refine dz g1 ⟨_,o t 1 _ rfl,?_⟩
    by_cases g2:x.b>4
    .exact di g2 ⟨rfl,no (by omega)⟩
    refine dz g2 ⟨_,o t 2 _ rfl,cBq (λy=>⟨rfl,no (by omega)⟩) λy=>⟨_,o t 2 _ rfl,rfl,?_⟩⟩
    by_cases r:x.c>24
    .rw[dT r];exact no (by omega)
    rw[dF r,dT (show 0<=x.b by omega),dT (show x.b<=4 by omega),dT (show 0<=x.c by omega),dT (show x.c<=24 by omega)];rfl
  refine⟨_,o t 0 _ rfl,cBq (λg1=>⟨rfl,by rw[dF (show ¬ -1<=x.a by omega)];rfl⟩) λg1=>⟨_,o t 0 _ rfl,_,_,_,M d4 1 _ rfl,rfl,?_⟩⟩;rw[dT (show -1<=x.a by omega),aO]
  by_cases g2:x.a<(l2:Int)
  .rw[dT g2,dF (by omega)];rfl
  rw[dF g2,dT (by omega)];rfl
 obtain rfl:k=l.length:=by omega
 exact cF (by simp) (qG ⟨R,λi p d=>N i p (ai.1 d).1 d⟩ C (by rw[LF,af (by omega),kF λi p d=>by rw[az];exact zX (N i p (ai.1 d).1 d)]))
def Dw(ps:List Pr)(x:T3):Bool:=(decide (0<=x.a)&&decide (x.a<(ps.length:Int)))&&((decide (1<=x.b)&&decide (x.b<=4))&&(decide (1<=x.c)&&decide (x.c<=((ps[x.a.toNat]?.map Pr.sup).getD 0))))
def sameAs(x y:T3):Bool:=y.a==x.a
def FB(ps:List Pr)(l:List T3)(i:Nat)(p:T3):Prop:=Dw ps p=true/\((l.take i).any λq=>sameAs p q)=false
structure rj (ps:List Pr) (l:List T3):Prop where
 l1:l.length<=6
 good:∀i p,l[i]?=some p->FB ps l i p
def Ox(ps:List Pr)(l:List T3)(i:Nat)(x:T3):Int:=if (decide (0<=x.a)&&decide (x.a<(ps.length:Int)))=false then 6 else if ((decide (1<=x.b)&&decide (x.b<=4))&&(decide (1<=x.c)&&decide (x.c<=((ps[x.a.toNat]?.map Pr.sup).getD 0))))=false then 4 else if ((l.take i).any λq=>sameAs x q) then 7 else 0
def AM{ps:List Pr}{l:List T3}{i:Nat}{p:T3}(h:FB ps l i p):Ox ps l i p=0:=by
 obtain⟨a,b⟩:=h;unfold Dw at a;rw[aF] at a;rw[Ox,a.1,a.2,b];rfl
def QH(ps:List Pr)(l:List T3):Int:=if 6<l.length then 3 else pO (Ox ps l) 0 l
def O6{w:ah}{a1 a2 a3 a4:OA}{c1 l2 c2 l3 c3 c4:Nat}{ps:List Pr}{l:List T3}(hP:kf w a1 ps)(h:Dl w a4 l)(hcap:l.length<=c4):
  CP 162 #[.agg #[.slice a1 ps.length c1,.slice a2 l2 c2,.slice a3 l3 c3,.slice a4 l.length c4]] w ((Cj (rj ps l) (QH ps l) w)):=by
 refine(p6 (p6 oC.2)).1 (dH ?_);have z:=(St.start w).one.jR #[.slice a1 ps.length c1,.slice a2 l2 c2,.slice a3 l3 c3,.slice a4 l.length c4] 34;generalize hw1:w.alloc _=J at z⊢;generalize hr1:w.heap.size=r1 at z⊢;have B:∀{I:ah},aZ J I []->∀(j:Nat) (v:Value),(#[.slice a1 ps.length c1,.slice a2 l2 c2,.slice a3 l3 c3,.slice a4 l.length c4]:Array Value)[j]?=some v->I.cell? ⟨r1,j,none⟩=some v:=λu j v H=>iV (by rw[z.aj 0 rfl];exact H) u;have Z:aZ J J []:=aZ.refl _ _;refine⟨_,_,_,B Z 3 _ rfl,?_⟩;rcases aQ 6 l.length with R|R
 .exact di (by omega) (dM (by decide) (λd=>by have:=d.l1;omega) z.aK (by rw[QH,ag R]))
 refine dz (by omega) ⟨_,_,_,B Z 3 _ rfl,λn K m=>∃k:Nat,n=k/\k<=l.length/\m=l.length-k/\(∀i p,i<k->l[i]?=some p->FB ps l i p)/\aZ J K [],⟨l.length,0,rfl,by omega,by omega,λi p T=>by omega,Z⟩,?_⟩;rintro K m n ⟨k,rfl,hk,hm,M,u⟩-;have D:aZ w K []:=z.aK.trans u (by simp)
 by_cases U:(k:Int)<(l.length:Int)
 .obtain⟨x,N⟩:=dX l k (by omega);obtain⟨q,V,S⟩:=(h.aK D) k x N;have s:¬ FB ps l k x->¬ rj ps l:=λhb d=>hb (d.good k x N);have P:∀{e:Int},e≠0->Ox ps l k x=e->QH ps l=e:=λhe h=>by
   have:=nS (f:=Ox ps l) (n:=0) (λi p T d=>by rw[az];exact AM (M i p T d)) N (by rw[az,h];exact he);rw[az,h] at this;rw[QH,af (by omega),this]
  refine gM U ?_;rw[V];refine⟨by omega,by omega,_,_,_,S,dH (((St.start K).one.jR _ 141).aR 0 rfl x.cells rfl x.one λA X=>?_)⟩;generalize hr2:K.heap.size=r2 at X⊢;have d4:aZ J A []:=u.trans X.aK (by simp);have g:aZ w A []:=z.aK.trans d4 (by simp);have o:∀{I:ah},aZ A I []->∀(j:Nat) (v:Value),x.cells[j]?=some v->I.cell? ⟨r2,j,none⟩=some v:=λu j v H=>iV (by rw[X.aj 0 rfl];simpa using H) u;have z4:aZ A A []:=aZ.refl _ _;refine⟨λb t=>t=A/\b = !(decide (0<=x.a)&&decide (x.a<(ps.length:Int))),?_,?_⟩
  .rintro t b ⟨rfl,rfl⟩-
   cases g0:(decide (0<=x.a)&&decide (x.a<(ps.length:Int))) with
   |false=>exact cT rfl (dM (by decide) (s λE=>by have:=E.1;unfold Dw at this;rw[g0] at this;cases this) g (P (by decide) (by rw[Ox,g0];rfl)))
   |true=>
    have d45:aZ t t.drew []:=aZ.drew t [];refine cF rfl ⟨λb w6=>w6=t.drew/\b = !((decide (1<=x.b)&&decide (x.b<=4))&&(decide (1<=x.c)&&decide (x.c<=((ps[x.a.toNat]?.map Pr.sup).getD 0)))),?_,?_⟩
    .rintro w6 b ⟨rfl,rfl⟩-
     cases g1:((decide (1<=x.b)&&decide (x.b<=4))&&(decide (1<=x.c)&&decide (x.c<=((ps[x.a.toNat]?.map Pr.sup).getD 0)))) with
     |false=>exact cT rfl (dM (by decide) (s λE=>by have:=E.1;unfold Dw at this;rw[g0,g1] at this;cases this) (g.trans d45 (by simp)) (P (by decide) (by rw[Ox,g0,g1];rfl)))
     |true=>
      refine cF rfl ⟨_,_,_,B (d4.trans d45 (by simp)) 3 _ rfl,by omega,by omega,λn Y m=>∃j:Nat,n=j/\j<=k/\m=k-j/\(l.take j).any (λp=>sameAs x p)=false/\aZ t Y [],⟨k,0,rfl,by omega,by omega,rfl,d45⟩,?_⟩;rintro Y m7 n7 ⟨j,rfl,hj,hm7,r,Q⟩-
      by_cases F:(j:Int)<(k:Int)
      .obtain⟨y,W⟩:=dX l j (by omega);obtain⟨q',G,C⟩:=(h.aK (g.trans Q (by simp))) j y W;rw[V] at G;cases G;refine gM F ?_;rw[slice3,V];refine⟨by omega,by simpa using F,_,_,_,C,dH (((St.start' Q).one.jR _ 141).aR 0 rfl y.cells rfl y.one λw9 O=>?_)⟩;have cy:∀(j:Nat) (v:Value),y.cells[j]?=some v->w9.cell? ⟨Y.heap.size,j,none⟩=some v:=λj v H=>by rw[O.aj 0 rfl];simpa using H
       refine⟨_,cy 0 _ rfl,_,o O.aK 0 _ rfl,?_⟩
       by_cases L:y.a=x.a
       .have h2:(l.take k)[j]?=some y:=by rw[bz,ag (by omega)];exact W
        have h3:=jQ (p:=λq=>sameAs x q) h2 (by simpa[sameAs] using L);refine gM L (dM (by decide) (s λE=>?_) (g.trans O.aK (by simp)) (P (by decide) (by rw[Ox,g0,g1,h3];rfl)));have h1:=E.2;rw[h3] at h1
        cases h1
       exact iI L ⟨k-(j+1),by omega,j+1,by rw[gC (by omega)];rfl,by omega,rfl,jy r W (by simpa[sameAs] using L),O.aK⟩
      obtain rfl:j=k:=by omega
      refine cF (by simp) ⟨l.length-(j+1),by omega,j+1,by rw[gC (by omega)];rfl,by omega,rfl,λi p T d=>?_,d4.trans Q (by simp)⟩;rcases aQ i j with C |C
      .exact M i p C d
      obtain rfl:i=j:=by omega
      rw[N] at d;cases d;exact⟨by unfold Dw;rw[g0,g1];rfl,r⟩
    simp only[aF,aV] at g0;obtain⟨y,r⟩:=dX ps x.a.toNat (by omega);rw[r,cU,fL];have no:¬ (1<=x.b/\x.b<=4/\1<=x.c/\x.c<=y.sup)->true = !((decide (1<=x.b)&&decide (x.b<=4))&&(decide (1<=x.c)&&decide (x.c<=y.sup))):=λO=>by
     cases hr:((decide (1<=x.b)&&decide (x.b<=4))&&(decide (1<=x.c)&&decide (x.c<=y.sup))) with
     |false=>rfl
     |true=>
      exfalso;apply O
      simp only[aF,aV] at hr;omega
    refine⟨_,o d45 1 _ rfl,?_⟩
    by_cases g1:x.b<1
    .exact di g1 ⟨rfl,no (by omega)⟩
    refine dz g1 ⟨_,o d45 1 _ rfl,cBq (λg2=>⟨rfl,no (by omega)⟩) λg2=>⟨_,o d45 2 _ rfl,?_⟩⟩
    by_cases G:x.c<1
    .exact di G ⟨rfl,no (by omega)⟩
    obtain⟨_,qp,C,F⟩:=(hP.aK (g.trans d45 (by simp))) x.a.toNat y r;refine dz G ⟨_,o d45 2 _ rfl,_,_,_,B (d4.trans d45 (by simp)) 0 _ rfl,_,o d45 0 _ rfl,?_⟩;rw[C];refine⟨by omega,by omega,y.sup,F.2.1,rfl,?_⟩
    by_cases L:x.c>y.sup
    .rw[dT L];exact no (by omega)
    rw[dF L,dT (show 1<=x.b by omega),dT (show x.b<=4 by omega),dT (show 1<=x.c by omega),dT (show x.c<=y.sup by omega)];rfl
  refine⟨_,o z4 0 _ rfl,cBq (λg1=>⟨rfl,by rw[dF (show ¬ 0<=x.a by omega)];rfl⟩) λg1=>⟨_,o z4 0 _ rfl,_,_,_,B d4 0 _ rfl,rfl,?_⟩⟩;rw[dT (show 0<=x.a by omega),aO]
  by_cases g2:x.a<(ps.length:Int)
  .rw[dT g2,dF (by omega)];rfl
  rw[dF g2,dT (by omega)];rfl
 obtain rfl:k=l.length:=by omega
 exact cF (by simp) (qG ⟨R,λi p d=>M i p (ai.1 d).1 d⟩ D (by rw[QH,af (by omega),kF λi p d=>by rw[az];exact AM (M i p (ai.1 d).1 d)]))
structure Se where
 ps:List Pr
 bd:List Br
 cp:List T3
 sa:List T3
 a1:Option Addr
 c1:Nat
 a2:Option Addr
 c2:Nat
 a3:Option Addr
 c3:Nat
 a4:Option Addr
 c4:Nat
def Se.arr(s:Se):Array Value:=#[.slice s.a1 s.ps.length s.c1,.slice s.a2 s.bd.length s.c2,.slice s.a3 s.cp.length s.c3,.slice s.a4 s.sa.length s.c4]
structure Se.In (s:Se) (w:ah):Prop where
 ps:kf w s.a1 s.ps
 bd:rQ w s.a2 s.bd
 cp:Dl w s.a3 s.cp
 sa:Dl w s.a4 s.sa
 h1:s.ps.length<=s.c1
 h2:s.bd.length<=s.c2
 h3:s.cp.length<=s.c3
 h4:s.sa.length<=s.c4
def Se.In.aK{s:Se}{w a:ah}(h:s.In w)(hc:aZ w a []):s.In a:=⟨h.ps.aK hc,h.bd.aK hc,h.cp.aK hc,h.sa.aK hc,h.h1,h.h2,h.h3,h.h4⟩
structure Se.Ok (s:Se):Prop where
 ps:iu s.ps
 bd:Di s.bd
 cp:Dj s.bd.length s.cp
 sa:rj s.ps s.sa
def yX(s:Se):Int:=if Fg s.ps≠0 then Fg s.ps else if FM s.bd≠0 then FM s.bd else if LF s.bd.length s.cp≠0 then LF s.bd.length s.cp else QH s.ps s.sa
def GA{w:ah}{s:Se}(h:s.In w):CP 100 #[.agg s.arr] w ((Cj s.Ok (yX s) w)):=by
 refine(p6 (p6 oC.2)).2.1 (dH ?_);have c:=(St.start w).one.jR #[.slice s.a1 s.ps.length s.c1,.slice s.a2 s.bd.length s.c2,.slice s.a3 s.cp.length s.c3,.slice s.a4 s.sa.length s.c4] 34;generalize o:w.alloc _=r at c⊢;generalize n:w.heap.size=q at c⊢;refine⟨_,_,_,by rw[c.aj 0 rfl];rfl,bg (FO (h.aK c.aK).ps h.h1) ?_⟩;rintro v t ⟨⟨rfl,i⟩,d2⟩;have e:=c.quiet d2;refine⟨_,rfl,?_⟩
 by_cases g1:Fg s.ps=0
 .refine iI g1 ⟨_,_,_,by rw[e.aj 0 rfl];rfl,bg (Qn (h.aK e.aK).bd h.h2) ?_⟩;rintro v u ⟨⟨rfl,j⟩,d3⟩;have f:=e.quiet d3;refine⟨_,rfl,?_⟩
  by_cases g2:FM s.bd=0
  .refine iI g2 (Ex8<|Ex4<|⟨f.cellsIn 0 rfl,bg (VB (h.aK f.aK).cp h.h3) ?_⟩);rintro v x ⟨⟨rfl,k⟩,d4⟩;have d:=f.quiet d4;refine⟨_,rfl,cBq (λb=>dM b (λa=>b (k.2 a.cp)) d.aK (by rw[yX,af (λh=>h g1),af (λh=>h g2),ag b])) λb=>(Ex8<|Ex4<|⟨d.cellsIn 0 rfl,bg (O6 (h.aK d.aK).ps (h.aK d.aK).sa h.h4) ?_⟩)⟩;rintro v y ⟨⟨rfl,l⟩,d5⟩;have p:=d.quiet d5;have g:yX s=QH s.ps s.sa:=by rw[yX,af (λh=>h g1),af (λh=>h g2),af (λh=>h b)]
   exact⟨_,rfl,⟨by rw[g],by rw[g];exact⟨λm=>⟨i.1 g1,j.1 g2,k.1 b,l.1 m⟩,λa=>l.2 a.sa⟩⟩,p.aK⟩
  exact gM g2 (dM g2 (λa=>g2 (j.2 a.bd)) f.aK (by rw[yX,af (λh=>h g1),ag g2]))
 exact gM g1 (dM g1 (λa=>g1 (i.2 a.ps)) e.aK (by rw[yX,ag g1]))
def xF{w:ah}{s:Se}(h:s.In w):CP 100 #[.agg s.arr] w ((Va s.Ok w)):=bg (GA h) λ_ _ h=>⟨_,rfl,h.old⟩
def tU(wt:Pr->Int)(l:List Pr)(u:I6):Nat->Int
 |0=>0
 |k+1=>tU wt l u k+u.at' k*((l[k]?.map wt).getD 0)
def QK(wt:Pr->Int)(l:List Pr)(u:I6):Int:=tU wt l u l.length
theorem AS{wt:Pr->Int}{l:List Pr}{u:I6}(c:I6.Le u 4)(d:∀p∈l,0<=wt p/\wt p<=1000000):∀k,k<=6->0<=tU wt l u k/\tU wt l u k<=(k:Int)*4000000
 |0,_=>by simp[tU]
 |k+1,g=>by
  have h:=AS c d k (by omega);have b:=c k (by omega);have a:0<=(l[k]?.map wt).getD 0/\(l[k]?.map wt).getD 0<=1000000:=by
   cases hg:l[k]? with
   |none=>simp
   |some p=>exact d p (ak hg)
  simp only[tU];generalize(l[k]?.map wt).getD 0=y at a⊢;generalize u.at' k=x at b⊢;have e:=dh b.1 a.1;have f:=bM (bt b.2 a.1) (cw a.2 (by omega));omega
def M0{w:ah}{a:OA}{c:Nat}{l:List Pr}(h:kf w a l)(e:l.length<=c)(E:iu l){u:I6}(z:I6.Le u 4){wt:Pr->Int}(F:∀p∈l,0<=wt p/\wt p<=1000000){v:Value}(L:∀(d:ah) (p:Pr) (R:Ending->ah->Prop),aZ w d []->p∈l->(∀g,aZ d g []->R (.returned (iv (wt p))) g)->rZ prog v #[.agg p.cells.toArray] d R):
  CP 177 #[.agg ((.slice a l.length c)::u.vs:List Value).toArray,v] w (λr d=>r=iv (QK wt l u)/\aZ w d []):=by
 refine(p6 Cu).1 ?_;have S:=E.l2;refine bE ((.slice a l.length c)::u.vs:List Value).toArray λi V B=>⟨λb H=>b=false/\St w H (Sep [ay i ((.slice a l.length c)::u.vs:List Value).toArray 236,emp]),?_,_,_,_,B.aj 0 rfl 0,bg (DC (h.aK B.aK) e) ?_⟩
 .rintro H b ⟨rfl,G⟩-;refine cF rfl ⟨_,_,_,G.aj 0 rfl 0,λs n I m=>∃k:Nat,n=k/\k<=l.length/\m=l.length-k/\s=tU wt l u k/\St w I (Sep [ay i ((.slice a l.length c)::u.vs:List Value).toArray 236,emp]),⟨l.length,0,rfl,by omega,by omega,rfl,G⟩,?_⟩;rintro I m s n ⟨k,rfl,T,U,rfl,C⟩-
  by_cases y:(k:Int)<(l.length:Int)
  .obtain⟨x,A⟩:=dX l k (by omega);have r:k<6:=by omega
   obtain⟨_,q,rfl,o⟩:=(h.aK C.aK) k x A;refine gM y ⟨by omega,by omega,Ex4 ⟨_,o,C.aY ({nm:=[],sup:=0,res:=0,pts:=0,Bn:=0}:Pr).cells.toArray λM W N=>N.aR 0 rfl x.cells rfl x.one λX O=>?_⟩⟩;have j:=O.quiet (aZ.drew _ _);have D:∀{d:ah} {ls:List bP},St w d (Sep (ay M x.cells.toArray 135::ay i ((.slice (some q) l.length c)::u.vs:List Value).toArray 236::ls))->d.cell? (Addr.add ⟨i,1,none⟩ (((k:Nat):Int).toNat*1))=some (iv (u.at' k)):=λt=>by
    rw[gW,t.aj 1 rfl];have:=u.get k r;rw[aq,eZ,jM];simpa using this
   refine⟨by omega,by omega,u.at' k,D j,Ex4 ⟨_,j.cellsIn 0 rfl,L _ x _ j.aK (ak A) λY J=>?_⟩⟩;have f:=j.quiet J;have P:=AS (l:=l) z F k (by omega);have Q:=AS (l:=l) z F (k+1) (by omega);have K:tU wt l u (k+1)=tU wt l u k+u.at' k*wt x:=by simp only[tU,A,cU,fL]
   refine⟨_,rfl,D f,l.length-(k+1),by omega,k+1,gC (by omega),by omega,rfl,?_,f.aM [1,2]⟩;rw[fQ (n:=u.at' k*wt x) ⟨by omega,by omega⟩,gC (by omega),K]
  obtain rfl:k=l.length:=by omega
  exact cF (by simp) ⟨rfl,C.aK⟩
 rintro v q ⟨⟨n,rfl,o⟩,k⟩;have f:=B.quiet k;refine⟨_,rfl,cF (by rw[o.2 E];rfl) ⟨u,?_,bg (lI q u) ?_⟩⟩
 .exact fm _ 0 λj v m=>by
   rw[gW,az,f.aj 0 rfl,jM];simpa using m
 rintro v m ⟨rfl,j⟩;exact⟨_,rfl,by rw[leq z];rfl,f.quiet j⟩
def wts{l:List Pr}(b:iu l):∀p∈l,0<=p.pts/\p.pts<=1000000:=λp c=>by
 obtain⟨i,a,rfl⟩:=dY.1 c;have:=(b.good i _ (gE a)).1;simp only[xq,EK,aF,aV] at this;omega
def H6(l:List Pr)(u:I6):Int:=QK Pr.pts l u
def UU(l:List Pr)(g:Int)(u:I6):Int:=QK (λp=>if p.Bn=g then 1 else 0) l u
def TI{w:ah}{a:OA}{c:Nat}{l:List Pr}(h:kf w a l)(d:l.length<=c)(g:iu l){u:I6}(j:I6.Le u 4):
  CP 356 #[.slice a l.length c,.agg u.vs.toArray] w (λr f=>r=iv (H6 l u)/\aZ w f []):=by
 refine(p6 Cu).2.2.1 (bE u.vs.toArray λn q e=>⟨_,e.cellsIn 0 rfl,bg (M0 (wt:=Pr.pts) (h.aK e.aK) d g j (wts g) ?_) ?_⟩)
 .intro f p R _ _ k;refine iJ (by kernel_rfl) (bg (K:=λr b=>r=iv p.pts/\aZ f b []) ((p6 Cu).2.2.2.2.1 ?_) ?_)
  .skip
   exact bE p.cells.toArray λo m i=>⟨_,i.aj 0 rfl 3,rfl,i.aK⟩
  rintro r b ⟨rfl,i⟩;exact k b i
 rintro v m ⟨rfl,b⟩;exact⟨_,rfl,rfl,(e.quiet b).aK⟩
def XM{w:ah}{a:OA}{c:Nat}{l:List Pr}(h:kf w a l)(d:l.length<=c)(n:iu l){u:I6}(o:I6.Le u 4)(g:Int):
  CP 254 #[.slice a l.length c,iv g,.agg u.vs.toArray] w (λr m=>r=iv (UU l g u)/\aZ w m []):=by
 refine Cu.2.2.2.2.2.1 (bE #[iv g] λt y q=>q.aY u.vs.toArray λx z f=>⟨_,f.cellsIn 0 rfl,bg (M0 (wt:=λp=>if p.Bn=g then 1 else 0) (h.aK f.aK) d n o (λp _=>by split<;>omega) ?_) ?_⟩)
 .intro m p R j _ k;refine iJ (by kernel_rfl) (bg (K:=λr b=>r=iv (if p.Bn=g then 1 else 0)/\aZ m b []) ((p6 Cu).2.1 ?_) ?_)
  .skip
   refine bE p.cells.toArray λv s i=>⟨_,i.aj 0 rfl 4,g,?_,?_⟩
   .exact iV (f.aj 1 rfl 0) (j.trans i.aK (by simp))
   exact cBq (λe=>⟨by rw[ag e],i.aK⟩) λe=>⟨by rw[af e],i.aK⟩
  rintro r b ⟨rfl,j⟩;exact k b j
 rintro v s ⟨rfl,b⟩;exact⟨_,rfl,rfl,(f.quiet b).aK⟩
structure Ch where
 p:I6
 want:I6
def Ch.cells(c:Ch):List Value:=c.p.on c.want.vs
def Ch.v(c:Ch):Value:=.agg c.cells.toArray
def Ch.one(c:Ch):∀v∈c.cells,v.oneCell'=true:=by
 intro v a;simp only[Ch.cells,I6.on,I6.vs,aP,dR,iS] at a;rcases a with rfl|rfl|rfl|rfl|rfl|rfl|rfl|rfl|rfl|rfl|rfl|rfl<;>rfl
def Ch.len(c:Ch):c.cells.length=12:=rfl
abbrev tI:Ch:=⟨z6,z6⟩
structure Ch.Ok (c:Ch):Prop where
 p:I6.Le c.p 1000000
 w:I6.Le c.want 4
abbrev zO (w:ah) (a:OA) (l:List Ch):Prop:=iA 12 Ch.cells w a l
def iL{w0 w:ah}{l:List bP}{r:Nat}{c:Ch}{T:TypeId}(h:St w0 w (Sep l))(i:Nat)(e:l[i]?=some (ay r c.cells.toArray T)):aU w ⟨r,6,none⟩ 0 c.want.vs:=
 fm _ 0 λj v a=>by
  have b:=(ai.1 a).1;rw[gW,az,h.aj i e]
  match j,b,a with
  |0,_,a|1,_,a|2,_,a|3,_,a|4,_,a|5,_,a=>simpa[Ch.cells,I6.on,I6.vs] using a
def yE{w0 w:ah}{l:List bP}{r:Nat}{c:Ch}{T:TypeId}(h:St w0 w (Sep l))(i:Nat)(e:l[i]?=some (ay r c.cells.toArray T)):aU w ⟨r,0,none⟩ 0 c.p.vs:=
 fm _ 0 λj v a=>by
  have b:=(ai.1 a).1;rw[gW,az,az,h.aj i e]
  match j,b,a with
  |0,_,a|1,_,a|2,_,a|3,_,a|4,_,a|5,_,a=>simpa[Ch.cells,I6.on,I6.vs] using a
def rB(w:ah){p u:I6}(b:I6.Le p 1000000)(c:I6.Le u 4):CP 103 #[.agg p.vs.toArray,.agg u.vs.toArray] w (λr d=>r=iv (cost p u)/\aZ w d []):=
 YP w p u 1000000 (by omega) (λk a=>by have:=b k a;omega) c
def nh{p u:I6}(h:I6.Le p 1000000)(i:I6.Le u 4):0<=cost p u/\cost p u<=24000000:=by
 have H:∀k,k<6->0<=p.at' k*u.at' k/\p.at' k*u.at' k<=4000000:=λk c=>by
  have a:=h k c;have b:=i k c;exact⟨dh a.1 b.1,bM (bt a.2 b.1) (by omega)⟩
 have d:=H 0 (by decide);have a:=H 1 (by decide);have b:=H 2 (by decide);have e:=H 3 (by decide);have f:=H 4 (by decide);have g:=H 5 (by decide);simp only[I6.at'] at d a b e f g;unfold cost;omega
def SI{w:ah}{s:Se}(n:Int):CP 259 #[.agg s.arr,iv n] w (λr b=>r=.bool (decide (0<=n)&&decide (n<(s.bd.length:Int)))/\aZ w b []):=by
 exact(p6 nK.1).2.2.2.1 (bE s.arr λc d a=>cBq (λh=>⟨_,_,_,a.aj 0 rfl 1,by rw[dT (h)];rfl,a.aK⟩) λh=>⟨by rw[dF (h)];rfl,a.aK⟩)
def FL{w:ah}{a:OA}{l:List Br}(h:rQ w a l){k:Nat}{b:Br}(e:l[k]?=some b)(j:Nat)(v:Value)(d:b.cells[j]?=some v):∃q,a=some q/\w.cell? (Addr.add (Addr.add q (k*4)) j)=some v:=by
 obtain⟨_,q,f,c⟩:=h k b e;have:=bX c j v d;exact⟨q,f,by rwa [az] at this⟩
def yB(b:Br)(c:Ch):Int:=if b.bud≠0/\b.bud<cost c.p c.want then 17 else 0
def ig(l:List Pr)(nm:List UInt8):Nat×Bool:=((l.findIdx? λp=>p.nm==nm).getD 0,l.any λp=>p.nm==nm)
theorem rC{c:Type}{p:c->Bool}:∀{l:List c} {k:Nat} {x:c},l[k]?=some x->p x=true->(l.take k).any p=false->l.findIdx? p=some k
 |[],_,_,h,_,_=>by simp at h
 |y::l,0,x,h,b,_=>by
  simp at h;subst h;rw[mC,ag b]
 |y::l,k+1,x,h,b,a=>by
  rw[fJ,nv,cI] at a;rw[mC,af (by rw[a.1];decide),rC (by simpa using h) b a.2];rfl
def sJ{a:Type}{p:a->Bool}{l:List a}(ha:l.any p=false):l.findIdx? p=none:=by
 rw[jX];intro x b;simpa using(eG.1 ha) x b
def JB{l:List Pr}{nm:List UInt8}(h:(ig l nm).2=true):(ig l nm).1<l.length:=by
 unfold ig at h⊢;simp only at h⊢
 cases hf:l.findIdx? λp=>p.nm==nm with
 |none=>
  rw[jX] at hf;obtain⟨x,b,a⟩:=gG.1 h;have:=hf x b;rw[a] at this;cases this
 |some k=>
  have:=List.of_findIdx?_eq_some hf;rcases aQ k l.length with h|h
  .exact h
  rw[aJ h] at this;exact absurd this (by simp)
def ND{w:ah}{a:OA}{c:Nat}{l:List Pr}(h:kf w a l)(u:l.length<=100000)(nm:List UInt8):
  CP 220 #[.slice a l.length c,sv nm] w (λr b=>r=.tuple #[iv (ig l nm).1,.bool (ig l nm).2]/\aZ w b []):=by
 refine Gg ⟨λn r m=>∃k:Nat,n=k/\k<=l.length/\m=l.length-k/\(l.take k).any (λp=>p.nm==nm)=false/\aZ w r [],⟨l.length,0,rfl,by omega,by omega,rfl,aZ.refl _ _⟩,?_⟩;rintro r m n ⟨k,rfl,t,v,b,g⟩-
 by_cases d:(k:Int)<(l.length:Int)
 .obtain⟨x,f⟩:=dX l k (by omega);obtain⟨_,q,rfl,i⟩:=(h.aK g) k x f;refine gM d ⟨by omega,by omega,Ex4 ⟨_,i,(St.start' g).one.aY _ λy z s=>s.aR 0 rfl x.cells rfl x.one λA j=>⟨_,by rw[j.aj 0 rfl];rfl,?_⟩⟩⟩
  by_cases e:x.nm=nm
  .refine cT (by rw[e];simp) ⟨?_,j.aK⟩;have o:(λp:Pr=>p.nm==nm) x=true:=by simpa using e
   rw[ig,rC f o b,jQ f o];rfl
  exact cF (by rw[j9,j9];simpa using e) ⟨l.length-(k+1),by omega,k+1,by rw[gC (by omega)];rfl,by omega,rfl,jy b f (by simpa using e),j.aK⟩
 refine iI d ⟨?_,g⟩;rw[bB (by omega)] at b;rw[ig,sJ b,b];rfl
abbrev Sc:=List Tk×Int
def Sc.acc(m:List UInt8)(σ:Sc):Sc:=(pz m σ.1 σ.2,σ.2)
def Sc.exp(m:List UInt8)(σ:Sc):Sc:=(pz m σ.1 σ.2,Ac m σ.1 σ.2)
def Sc.fail(k:Int)(σ:Sc):Sc:=(σ.1,iG σ.2 k)
def Sc.rz(m:Int)(σ:Sc):Sc:=(wI m σ.1 σ.2,tM m σ.1 σ.2)
def Sc.name(σ:Sc):Sc:=(rK σ.1 σ.2,tB σ.1 σ.2)
def Sc.next(σ:Sc):Sc:=(jH σ.1 σ.2,σ.2)
abbrev sY (w0 w:ah) (b:Nat) (σ:Sc) (B:bP):Prop:=uu w0 w b σ.1 σ.2 B
def Lf(ps:List Pr)(b:I6)(nm:List UInt8)(σ:Sc):Sc:=if (ig ps nm).2 then (if b.at' (ig ps nm).1≠0 then σ.fail 7 else σ) else σ.fail 6
def DJ(ps:List Pr)(b:I6)(nm:List UInt8)(σ:Sc):Sc:=(Lf ps b nm σ).exp [58]
def IL(σ:Sc):Sc:=if nP 4 σ.1 σ.2=0 then (σ.rz 4).fail 4 else σ.rz 4
def jA(ps:List Pr)(b:I6)(σ:Sc):I6×Sc:=
 if σ.name.2≠0 then (b,σ.name)
 else (b.put (ig ps (kV σ.1 σ.2)).1 (nP 4 (DJ ps b (kV σ.1 σ.2) σ.name).1 (DJ ps b (kV σ.1 σ.2) σ.name).2),IL (DJ ps b (kV σ.1 σ.2) σ.name))
def Sj{w0 w:ah}{p:Nat}{σ:Sc}{B:bP}{a:OA}{c:Nat}{l:List Pr}(h:sY w0 w p σ B)(M:∀{k},aZ w0 k []->kf k a l)(T:l.length<=6)(S:1<=l.length)(b:I6):
  CP 375 #[.slice a l.length c,pt p,.agg b.vs.toArray] w (λr k=>r=.agg (jA l b σ).1.vs.toArray/\sY w0 k p (jA l b σ).2 B):=by
 refine(p6 Cu).2.2.2.2.2.1 (bE b.vs.toArray λy U N=>N.aY z6.vs.toArray λz V O=>?_);let Fr:bP:=star (Sep [ay z z6.vs.toArray 50,ay y b.vs.toArray 50,emp]) B;have K:=h.add O;generalize q:kV σ.1 σ.2=d;refine bF (Xw K) λQ m=>?_;have m:sY w0 Q p σ.name Fr:=m;refine⟨_,rfl,bg (ET m) ?_⟩;rintro v _ ⟨rfl,rfl⟩;have J:∀{k:ah} {D:Sc} {cs o:Array Value},sY w0 k p D (star (Sep [ay z cs 50,ay y o 50,emp]) B)->St w0 k (Sep [ay z cs 50,ay y o 50,emp]):=λh=>h.frame.first;refine⟨_,rfl,?_⟩
 by_cases t:σ.name.2=0
 .have em:jA l b σ=(b.put (ig l d).1 (nP 4 (DJ l b d σ.name).1 (DJ l b d σ.name).2),IL (DJ l b d σ.name)):=by rw[jA,af (by simpa using t),q]
  refine iI t (bF (ND (M m.aK) (by omega) _) λW I=>?_);rw[q];have s:=m.quiet I;have j:(ig l d).1<6:=by
   cases hf:(ig l d).2 with
   |true=>have:=JB hf;omega
   |false=>
    have:l.findIdx? (λp=>p.nm==d)=none:=sJ hf;rw[ig,this];show 0<6;decide
  have g:(Lf l b d σ.name)=if (ig l d).2 then (if b.at' (ig l d).1≠0 then σ.name.fail 7 else σ.name) else σ.name.fail 6:=rfl
  refine⟨_,_,rfl,λG=>sY w0 G p (Lf l b d σ.name) Fr,?_,?_⟩
  .rintro G L -;refine bF (pg L [58]) λR x=>?_;have x:sY w0 R p (DJ l b d σ.name) Fr:=x;refine⟨rfl,bF (BL x 4) λX E=>?_⟩;generalize F:nP 4 (DJ l b d σ.name).1 (DJ l b d σ.name).2=n at em⊢;refine⟨_,rfl,λr=>sY w0 r p (IL (DJ l b d σ.name)) Fr,?_,?_⟩
   .rintro r u -;obtain⟨H,A,e⟩:=u.out;refine⟨by omega,by omega,?_⟩;rw[iC];refine A.cL 1 rfl j rfl λP i=>?_;rw[I6.nW _ _ _ j] at i;exact⟨_,i.cellsIn 1 rfl,i.aR 0 rfl _ rfl (I6.one _) λC f=>⟨_,f.cellsIn 0 rfl,by rw[em],by rw[em];exact(e (m':=[_,_,_]) f).drop⟩⟩
   exact cBq (λi=>bF (sR E 4) λA u=>⟨rfl,by rw[IL,ag (by rw[F];exact i)];exact u⟩) λi=>by rw[IL,af (by rw[F];exact i)];exact E
  cases hf:(ig l d).2 with
  |false=>
   rw[hf] at g;exact cT rfl (bF (sR s 6) λn i=>⟨rfl,by rw[g];exact i⟩)
  |true=>
   rw[hf,ag rfl] at g;have r:=J s;refine cF rfl ⟨by omega,by omega,_,by rw[iC];exact br r 1 rfl j,?_⟩
   by_cases i:b.at' (ig l d).1=0
   .rw[af (by simpa using i)] at g;exact iI i (by rw[g];exact s)
   rw[ag i] at g;exact gM i (bF (sR s 7) λu n=>⟨rfl,by rw[g];exact n⟩)
 have em:jA l b σ=(b,σ.name):=by rw[jA,ag t]
 obtain⟨H,g,e⟩:=m.out;exact gM t ⟨_,g.cellsIn 1 rfl,g.aR 0 rfl _ rfl (I6.one _) λC f=>⟨_,f.cellsIn 0 rfl,by rw[em],by rw[em];exact(e (m':=[_,_,_]) f).drop⟩⟩
def sw(ps:List Pr):Nat->I6->Sc->I6×Sc
 |0,b,a=>(b,a)
 |f+1,b,a=>if kA [44] a.1 a.2 then sw ps f (jA ps b (a.acc [44])).1 (jA ps b (a.acc [44])).2 else (b,a)
def uk(r:I6×Sc):I6×Sc:=if (r.2.exp [125]).2≠0 then (z6,r.2.exp [125]) else (r.1,r.2.exp [125])
def Ce(ps:List Pr)(σ:Sc):I6×Sc:=uk (sw ps (jA ps z6 σ).2.1.length (jA ps z6 σ).1 (jA ps z6 σ).2)
def j5(ps:List Pr)(σ:Sc):I6×Sc:=
 if σ.2≠0 then (z6,σ) else if kA [125] (σ.exp [123]).1 (σ.exp [123]).2 then (z6,(σ.exp [123]).acc [125]) else Ce ps (σ.exp [123])
def CM{m:List UInt8}{σ:Sc}(h:kA m σ.1 σ.2=true):(σ.acc m).1.length+1=σ.1.length:=by
 show(pz m σ.1 σ.2).length+1=_;rw[pz,ag h];have a:(dr σ.1 σ.2).k=3:=by
  unfold kA at h;rw[aF] at h;exact dG h.1
 unfold dr at a;unfold jH
 split
 .rename_i b;rw[ag b] at a
  cases hl:σ.1 with
  |nil=>rw[hl] at a;cases a
  |cons x l=>simp
 rename_i b;rw[af b] at a;cases a
def CY(l:List Tk)(e:Int):(jH l e).length<=l.length:=by unfold jH;split<;>simp
def mQ(m:List UInt8)(l:List Tk)(e:Int):(pz m l e).length<=l.length:=by unfold pz;split;exact CY _ _;exact aD _
def Ao(l:List Tk)(e:Int):(rK l e).length<=l.length:=by unfold rK;split;exact CY _ _;exact aD _
def A5(m:Int)(l:List Tk)(e:Int):(wI m l e).length<=l.length:=by unfold wI;split;exact CY _ _;exact aD _
def CS(ps:List Pr)(b:I6)(σ:Sc):(jA ps b σ).2.1.length<=σ.1.length:=by
 unfold jA
 split
 .exact Ao _ _
 generalize kV σ.1 σ.2=c;have d:(Lf ps b c σ.name).1.length<=σ.1.length:=by unfold Lf;split;split;exact Ao _ _;exact Ao _ _;exact Ao _ _
 have a:(DJ ps b c σ.name).1.length<=σ.1.length:=bp (mQ _ _ _) d;show(IL _).1.length<=_;unfold IL
 split
 .exact bp (A5 _ _ _) a
 exact bp (A5 _ _ _) a
def Dp{m:List UInt8}{σ:Sc}(h:kA m σ.1 σ.2=false):σ.acc m=σ:=by
 show(pz m σ.1 σ.2,σ.2)=σ;rw[pz,h];rfl
def aae{w0 w:ah}{p:Nat}{σ:Sc}{B:bP}{a:OA}{c:Nat}{l:List Pr}(h:sY w0 w p σ B)(Q:∀{j},aZ w0 j []->kf j a l)(hc:l.length<=c)(P:iu l):
  CP 361 #[.slice a l.length c,pt p] w (λr j=>r=.agg (j5 l σ).1.vs.toArray/\sY w0 j p (j5 l σ).2 B):=by
 refine(p6 Cu).2.2.2.1 ?_;have W:=P.l2;have z:=P.l1;refine bE z6.vs.toArray λR w1 s1=>?_;have E:=h.add s1;refine bg (ET E) ?_;rintro v T ⟨rfl,rfl⟩;refine⟨_,rfl,?_⟩
 by_cases y:σ.2=0
 .have x:j5 l σ=if kA [125] (σ.exp [123]).1 (σ.exp [123]).2 then (z6,(σ.exp [123]).acc [125]) else Ce l (σ.exp [123]):=by rw[j5,af (by simpa using y)]
  refine iI y (bg (DC (Q E.aK) hc) ?_);rintro v w4 ⟨⟨e,rfl,O⟩,c4⟩;obtain rfl:=O.2 P;have h4:=E.quiet c4;refine⟨_,rfl,cF rfl (bE z6.vs.toArray λF w7 s7=>?_)⟩;let Fr:I6->bP:=λb=>star (Sep [ay F b.vs.toArray 50,emp]) (star (Sep [ay R z6.vs.toArray 50,emp]) B);have h7:=h4.add s7;refine bF (pg h7 [123]) λw8 N=>?_;have N:sY w0 w8 p (σ.exp [123]) (Fr z6):=N;refine⟨rfl,bF (ym N [125]) λw9 u=>?_⟩;have u:sY w0 w9 p ((σ.exp [123]).acc [125]) (Fr z6):=u;refine⟨_,rfl,?_⟩;have G:∀{j:ah} {d:Sc} {b:I6},sY w0 j p d (Fr b)->aU j ⟨F,0,none⟩ 0 b.vs:=λ{j d b} h=>(show St w0 j (Sep [ay F b.vs.toArray 50,emp]) from h.frame.first).cellsIn 0 rfl;have wr:∀{j:ah} {d:Sc} {b r:I6} {K:ah->Prop},sY w0 j p d (Fr b)->(∀T,sY w0 T p d (Fr r)->K T)->yY ⟨F,0,none⟩ 0 r.vs j K:=λ{j d b r K} h k=>by
   obtain⟨V,A,i⟩:=h.out;exact A.aR 0 rfl r.vs rfl (I6.one _) λs n=>k s (i (m':=[_,_]) n)
  have t:∀{j:ah} {d:Sc} {b r:I6},sY w0 j p d (Fr b)->j5 l σ=(r,d)->yY ⟨R,0,none⟩ 0 r.vs j λZ=>∃Y:I6,aU Z ⟨R,0,none⟩ 0 Y.vs/\(Value.agg Y.vs.toArray=.agg (j5 l σ).1.vs.toArray/\sY w0 Z p (j5 l σ).2 B):=λ{j d b r} h q=>by
   obtain⟨V,A,i⟩:=h.drop.out;exact A.aR 0 rfl r.vs rfl (I6.one _) λs n=>⟨_,n.cellsIn 0 rfl,by rw[q],by rw[q];exact(i (m':=[_,_]) n).drop⟩
  cases ha:kA [125] (σ.exp [123]).1 (σ.exp [123]).2 with
  |true=>
   rw[ag ha] at x;exact cT rfl ⟨_,G u,t u x⟩
  |false=>
   rw[af (by rw[ha];decide)] at x;have H:=Dp ha;rw[H] at u;generalize σ.exp [123]=U at *;refine cF rfl ⟨_,G u,bF (Sj u Q W z z6) λw11 I=>⟨_,rfl,wr I λs J=>⟨λC m=>∃(f:Nat) (b:I6) (d:Sc),m=d.1.length/\d.1.length<=f/\uk (sw l f b d)=Ce l U/\sY w0 C p d (Fr b),⟨_,_,(jA l z6 U).1,(jA l z6 U).2,rfl,aD _,rfl,J⟩,?_⟩⟩⟩;rintro C m ⟨f,b,d,rfl,hf,q,L⟩-;refine bF (ym L [44]) λS o=>?_;have o:sY w0 S p (d.acc [44]) (Fr b):=o;refine⟨_,rfl,?_⟩
   cases hb:kA [44] d.1 d.2 with
   |true=>
    have X:=CM hb;obtain⟨f,rfl⟩:∃g,f=g+1:=⟨f-1,by omega⟩;rw[sw,ag hb] at q;refine cT rfl ⟨_,G o,bF (Sj o Q W z b) λw15 D=>?_⟩;have hle:=CS l b (d.acc [44]);exact⟨_,rfl,wr D λw16 M=>⟨_,by omega,f,_,_,rfl,by omega,q,M⟩⟩
   |false=>
    have H:=Dp hb;rw[H] at o;have X:sw l f b d=(b,d):=by
     cases f with
     |zero=>rfl
     |succ f=>rw[sw,af (by rw[hb];decide)]
    rw[X] at q;refine cF rfl (bF (pg o [125]) λM g=>?_);have g:sY w0 M p (d.exp [125]) (Fr b):=g;refine⟨rfl,kR (ET g) ⟨_,rfl,?_⟩⟩
    by_cases D:(d.exp [125]).2=0
    .rw[uk,af (by simpa using D)] at q;exact iI D ⟨_,G g,t g (by rw[x,<-q])⟩
    rw[uk,ag D] at q;exact gM D (t g (by rw[x,<-q]))
 obtain⟨V,A,i⟩:=E.out;exact gM y (A.aR 0 rfl z6.vs rfl (I6.one _) λs n=>⟨_,n.cellsIn 0 rfl,by rw[j5,ag y],by rw[j5,ag y];exact(i (m':=[_,_]) n).drop⟩)
