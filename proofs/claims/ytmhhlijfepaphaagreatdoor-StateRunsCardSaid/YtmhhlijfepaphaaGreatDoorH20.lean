import Derived.Test.YtmhhlijfepaphaaGreatDoorTie
import Derived.Test.YtmhhlijfepaphaaGreatDoorCards
import Derived.DataReads
import Derived.ProofKit
import Derived.ChangeOld
import Derived.ChangeSlices
import Derived.Below
import Derived.Lay
import Derived.Lib.SmallJoins
import Derived.Lib.LaidTab
import Derived.ChangeSame
import Derived.ChangeVars
import Derived.JoinedOf
import Derived.LaidLaws
import Derived.LaidHandle
import Derived.Stop.Joined
import Derived.Stop.LaidErr
import Derived.SevenTiedAt
import Derived.Test.YtmhhlijfepaphaaGreatDoorH19
set_option linter.all false
set_option maxRecDepth 100000
namespace Go.Proofs.YtmhhlijfepaphaaGreatDoor
open Go Go.Vc _root_.Go.Proofs.Tryz
def Ts{w:ah}{a:Addr}{o:Of}(h:aU w a 0 o.cells):w.cell? a=some (iv o.b):=by
 have:=bX h 0 (iv o.b) rfl;simpa[Addr.add] using this
def WE{w:ah}{o:Obj}{A B:Nat->ah->Prop}(h:gK w o A)(k:gK w o B):gK w o λr a=>A r a/\B r a:=⟨h,k⟩
def key_inj{l:List Of}(c:(l.map uV).Nodup){j k:Nat}{x y:Of}(a:l[j]?=some x)(d:l[k]?=some y)(e:x.b=y.b/\x.want=y.want):j=k:=by
 refine(mV (l:=l.map uV) (by rw[bu];exact(ai.1 a).1) c).1 ?_;rw[aL,aL,a,d];show some (x.b,x.want)=some (y.b,y.want);rw[e.1,e.2]
set_option maxHeartbeats 4000000 in
theorem Mj{w:ah}{S:Se}(h:S.In w)(hs:S.Ok){a:OA}{c:Nat}{l:List Of}(hr:Q5 w a l)(ho:Rj S l):
  CP 99 #[.agg S.arr,.slice a l.length c] w (λr w'=>(160<(lQ S l l.length).length/\r=.tuple #[.agg vo,.slice none 0 0,iv 3]/\aZ w w' [])\/((lQ S l l.length).length<=160/\∃(b d e:OA) (f g c3:Nat),r=.tuple #[.agg (xm (dD S.ps) (qS S.ps S.sa).1 (qS S.ps S.sa).2 (.slice b (S.bd.map Br.cls).length f) (.slice d (lQ S l l.length).length g)),.slice e (qY S l l.length).length c3,iv 0] /\
    St w w' (Sep [pJ e c3 (qY S l l.length),pJ b f (S.bd.map Br.cls),dB d g (lQ S l l.length),emp]))):=by
 refine yS.2.1 ?_;have z1:=hs.ps.l2;have z2:=hs.bd.l2;have hn:=ho.n;have hk:=ho.k;have Q:∀{w':ah} {k:Nat} {x:Of},aZ w w' []->l[k]?=some x->∃q,a=some q/\aU w' (Addr.add q (((k:Nat):Int).toNat*8)) 0 x.cells:=λhc A=>by rw[aq];exact(hr.aK hc).at A
 refine bE S.arr λr1 w1 s1=>s1.aY vo λr2 w2 s2=>(Ex8<|Ex4<|⟨s2.cellsIn 1 rfl,bg (Ml (h.aK s2.aK)) ?_⟩);rintro v w3 ⟨⟨e,rfl,he⟩,c3⟩;obtain rfl:=he.2 hs;have s3:=s2.quiet c3;let M:List bP:=[ay r2 vo 66,ay r1 S.arr 34,emp];have s3:St w w3 (Sep M):=s3;refine⟨_,rfl,cF rfl (dz (by omega) ⟨λn w4 m=>∃k:Nat,n=k/\k<=l.length/\m=l.length-k/\St w w4 (Sep M),⟨l.length,0,rfl,by omega,by omega,s3⟩,?_⟩)⟩;clear s3 s2 s1 c3;rintro w4 m n ⟨k,rfl,hkl,hm,s4⟩-
 by_cases G:(k:Int)<(l.length:Int)
 .obtain⟨x,A⟩:=dX l k (by omega);have B:=ak A;have hv:=ho.v x B;have hb:=ho.b x B;have f:=s4.quiet (aZ.drew w4 []);obtain⟨q,K,p⟩:=Q f.aK A;refine di G ⟨λb o=>b=false/\St w o (Sep M),?_,av K ⟨by omega,by omega,x.b,Ts p,dz (by omega) (av K ⟨by omega,by omega,x.b,Ts p,_,_,_,f.aj 1 rfl 1,dF (by omega),f⟩)⟩⟩;rintro s b ⟨rfl,i⟩-;obtain⟨q2,u,d⟩:=Q i.aK A;refine cF rfl ⟨λb g=>b=false/\St w g (Sep M),?_,av u ⟨by omega,by omega,x.v,HQ d,dz (by omega) (av u ⟨by omega,by omega,x.v,HQ d,dz (by omega) (av u ⟨by omega,by omega,x.want,rU d,bg (BJ s x.want) ?_⟩)⟩)⟩⟩
  .rintro g b ⟨rfl,j⟩-;exact cF rfl (mS (by omega) j)
  rintro v g ⟨rfl,j⟩;exact⟨_,rfl,by rw[ho.q x B];rfl,i.quiet j⟩
 obtain rfl:k=l.length:=by omega
 refine dz G ⟨_,_,_,s4.aj 1 rfl 0,bF (rI (h.aK s4.aK).ps) λw18 c18=>?_⟩;have s18:=s4.quiet c18;refine⟨_,rfl,s18.aY vo λr5 w19 s19=>s19.aR 0 rfl (xm (dD S.ps) z6 z6 (.slice none 0 0) (.slice none 0 0)).toList rfl (nM _ _ _ rfl rfl) λw20 T=>(Ex8<|Ex4<|⟨T.cellsIn 2 rfl,bF (Gr (h.aK T.aK) hs) λw21 c21=>?_⟩)⟩;have s21:=T.quiet c21;generalize hop:(qS S.ps S.sa).1=op;generalize hcl:(qS S.ps S.sa).2=cl;let P:Value->Value->Array Value:=xm (dD S.ps) op cl;refine⟨_,_,rfl,s21.mA 0 6 rfl (vs:=op.vs) (xm (dD S.ps) op z6 (.slice none 0 0) (.slice none 0 0)) (by show 6+6<=20;decide) (I6.one _) rfl λw22 s22=>s22.mA 0 12 rfl (vs:=cl.vs) (P (.slice none 0 0) (.slice none 0 0)) (by show 12+6<=20;decide) (I6.one _) rfl λw23 U=>?_⟩;have U:St w w23 (Sep (ay r5 (P (.slice none 0 0) (.slice none 0 0)) 66::M)):=U;refine⟨λn O m=>∃(k:Nat) (C:OA) (D:Nat),n=k/\k<=S.bd.length/\m=S.bd.length-k/\St w O (Sep (pJ C D ((S.bd.take k).map Br.cls)::ay r5 (P (.slice C ((S.bd.take k).map Br.cls).length D) (.slice none 0 0)) 66::M)),⟨S.bd.length,0,none,0,rfl,by omega,by omega,St.gB U⟩,?_⟩
 clear U s21 T s18 s4 c21 c18 hm G hkl;rintro O m n ⟨k,C,D,rfl,hkb,hm2,H⟩-;have hcl2:((S.bd.take k).map Br.cls).length=k:=by rw[bu,aW];omega
 refine⟨_,_,_,H.aj 3 rfl 1,?_⟩
 by_cases Y:(k:Int)<(S.bd.length:Int)
 .obtain⟨y,s⟩:=dX S.bd k (by omega);have g:=H.quiet (aZ.drew O []);obtain⟨_,q,K,i⟩:=(h.aK g.aK).bd k y s;have f:=bX i 1 (iv y.cls) rfl;rw[az] at f;have e:(S.bd.take (k+1)).map Br.cls=(S.bd.take k).map Br.cls++[y.cls]:=by rw[bJ s,aS];rfl
  refine di Y ⟨_,_,_,g.aj 1 rfl 18,_,_,_,g.aj 3 rfl 1,av K ⟨by omega,by omega,y.cls,by rw[aq];exact f,WE (g.aY _ λr w' t=>t.aj 2 rfl 18) (iT U9 gm (x:=y.cls) (wX _) (g.out 0 rfl) (by omega) (by omega) (λW X o d=>?_) rfl)⟩⟩;rw[<-e] at d⊢;have d:St w o (Sep (pJ W X ((S.bd.take (k+1)).map Br.cls)::ay r5 (P (.slice C ((S.bd.take k).map Br.cls).length D) (.slice none 0 0)) 66::M)):=d;exact d.cL 1 rfl (by show 18<20;decide) rfl λz j=>⟨S.bd.length-(k+1),by omega,k+1,W,X,gC (by omega),by omega,rfl,j⟩
 obtain rfl:k=S.bd.length:=by omega
 rw[aH] at H;generalize hcls:S.bd.map Br.cls=o at H;let N:Option Addr->Nat->List Int->Option Addr->Nat->List Of->List bP:=λd f li t co lo=>pJ d f li::pJ C D o::dB t co lo::ay r5 (P (.slice C o.length D) (.slice t lo.length co)) 66::M;refine dz Y ⟨λd l25 f n Z m=>∃(k:Nat) (t:OA) (co:Nat),n=k/\k<=l.length/\m=l.length-k/\l25=(qY S l k).length/\St w Z (Sep (N d f (qY S l k) t co (lQ S l k))),⟨l.length,0,none,0,rfl,by omega,by omega,rfl,?_⟩,?_⟩
 .have g:St w O (Sep (dB none 0 []::pJ C D o::ay r5 (P (.slice C o.length D) (.slice none 0 0)) 66::M)):=St.gB H;have i:St w O (Sep (pJ none 0 []::dB none 0 []::pJ C D o::ay r5 (P (.slice C o.length D) (.slice none 0 0)) 66::M)):=St.gB g;exact i.aM [0,2,1,3,4,5,6]
 clear H Y hkb hm2 hcl2;rintro Z m d l25 f n ⟨k,t,co,rfl,hkl,hm3,rfl,L⟩-;have hkp:=D1 S l k
 by_cases G:(k:Int)<(l.length:Int)
 .have A:l[k]?=some (l.getD k vX):=getD_at (by omega);have eI:qY S l (k+1)=if oN S (l.getD k vX)=true then qY S l k++[(k:Int)] else qY S l k:=rfl
  have eO:lQ S l (k+1)=if oN S (l.getD k vX)=true then lQ S l k++[yI S (l.getD k vX)] else lQ S l k:=rfl
  generalize l.getD k vX=x at A eI eO;have B:=ak A;have hle:=C9 (ho.q x B);have hrb:=Ua hs.ps hle;have hv:=ho.v x B;have hb:=ho.b x B;obtain⟨i,hbi⟩:=cZ hb.1;have hyi:S.bd[i]?=some (S.bd.getD i zN):=getD_at (by omega);have hti:x.b.toNat=i:=by omega
  have E:=L.quiet (aZ.drew Z []);obtain⟨q,K,p⟩:=Q E.aK A;refine di G ⟨λa26 l26 c26 w31=>∃(t:OA) (co:Nat),l26=(qY S l (k+1)).length/\St w w31 (Sep (N a26 c26 (qY S l (k+1)) t co (lQ S l (k+1)))),?_,_,_,_,E.aj 5 rfl 0,av K ⟨by omega,by omega,x.want,rU p,bg (BH (h.aK E.aK).ps hs.ps (ho.q x B) 0) ?_⟩⟩
  .rintro w31 a26 l26 c26 ⟨t,co,rfl,E⟩-;exact⟨l.length-(k+1),by omega,k+1,t,co,gC (by omega),by omega,rfl,rfl,E⟩
  rintro _ w32 ⟨rfl,c32⟩;have s32:=E.quiet c32;refine⟨_,_,_,rfl,λb w33=>b=oN S x/\St w w33 (Sep (N d f (qY S l k) t co (lQ S l k))),?_,?_⟩
  rotate_left
  .have s:=s32.quiet (aZ.drew w32 []);have j:=Q s.aK A;obtain⟨q,K,p⟩:=j;refine av K ⟨by omega,by omega,x.v,HQ p,?_⟩;show cond (decide (x.v>AK S.ps x.want)) _ _
   by_cases J:x.v-AK S.ps x.want<1
   .exact dz (by omega) ⟨by rw[oN,dF (by omega)];rfl,s⟩
   have y:decide (1<=x.v-AK S.ps x.want)=true:=dT (by omega);refine di (by omega) (av K ⟨by omega,by omega,x.want,rU p,?_⟩);rw[I6.beq_eq]
   by_cases F:x.want=z6
   .exact cF (by rw[dT F];rfl) ⟨by rw[oN,y,dF (by simpa using F)];rfl,s⟩
   have z:decide (x.want≠z6)=true:=dT F;refine cT (by rw[dF F];rfl) (Ex8<|Ex4<|⟨s.cellsIn 5 rfl,av K ⟨by omega,by omega,(i:Int),by rw[<-hbi];exact Ts p,av K ⟨by omega,by omega,x.want,rU p,bF (sO (h.aK s.aK) hs hyi x.want) λI g=>⟨_,rfl,?_,s.quiet g⟩⟩⟩⟩);rw[oN,y,z,hti]
   by_cases r:iO S i (S.bd.getD i zN) x.want=0
   .rw[r];rfl
   rw[dF r];simpa using r
  rintro w33 b ⟨rfl,s⟩-;refine⟨λb n w34 m=>∃j:Nat,b=oN S x/\n=j/\j<=l.length/\m=l.length-j/\St w w34 (Sep (N d f (qY S l k) t co (lQ S l k))),⟨l.length,0,rfl,rfl,by omega,by omega,s⟩,?_⟩;clear s s32 E c32 p K;rintro w34 m2 b n2 ⟨j,rfl,rfl,hj,hm4,V⟩-
  by_cases hj2:(j:Int)<(l.length:Int)
  .obtain⟨z,F⟩:=dX l j (by omega);have I:=V.quiet (aZ.drew w34 []);obtain⟨q1,hq1,hc1⟩:=Q I.aK F;obtain⟨q2,u,R⟩:=Q I.aK A;refine di hj2 ⟨λb y=>b=oN S x/\St w y (Sep (N d f (qY S l k) t co (lQ S l k))),?_,λb y=>b=decide (j=k)/\St w y (Sep (N d f (qY S l k) t co (lQ S l k))),?_,av hq1 ⟨by omega,by omega,z.b,Ts hc1,av u ⟨by omega,by omega,x.b,Ts R,?_⟩⟩⟩
   .rintro y b ⟨rfl,J⟩-;exact⟨l.length-(j+1),by omega,j+1,rfl,gC (by omega),by omega,rfl,J⟩
   .rintro y b ⟨rfl,J⟩-;refine⟨λb w37=>b=false/\St w w37 (Sep (N d f (qY S l k) t co (lQ S l k))),?_,?_⟩
    .rintro w37 b ⟨rfl,r⟩-;exact cF rfl ⟨rfl,r⟩
    have r:=J.quiet (aZ.drew y [])
    by_cases g:j=k
    .obtain⟨q3,hq3,hc3⟩:=Q r.aK F;obtain⟨q4,hq4,hc4⟩:=Q r.aK A;have ez:z=x:=by rw[g,A] at F;exact(dP F).symm
     exact di g (av hq3 ⟨by omega,by omega,z.v,HQ hc3,av hq4 ⟨by omega,by omega,x.v,HQ hc4,dz (by rw[ez];omega) (dz (by omega) ⟨rfl,r⟩)⟩⟩)
    exact dz g ⟨rfl,r⟩
   by_cases g1:z.b=x.b
   .refine cT (by rw[g1];simp) (av hq1 ⟨by omega,by omega,z.want,rU hc1,av u ⟨by omega,by omega,x.want,rU R,?_,I⟩⟩);rw[I6.beq_eq]
    by_cases g2:z.want=x.want
    .rw[dT g2,dT (key_inj hk F A ⟨g1,g2⟩)]
    rw[dF g2,dF];rintro rfl;rw[A] at F;cases F;exact g2 rfl
   refine iI g1 ⟨?_,I⟩;rw[dF];rintro rfl;rw[A] at F;cases F;exact g1 rfl
  refine dz hj2 ?_
  cases hkeep:oN S x with
  |false=>
   rw[af (by rw[hkeep];decide)] at eI eO;exact cF rfl ⟨t,co,by rw[eI],by rw[eI,eO];exact V⟩
  |true=>
   rw[ag hkeep] at eI eO;rw[eI,eO];obtain⟨q2,u,R⟩:=Q V.aK A;refine cT rfl (av u ⟨by omega,by omega,x.b,x.want,x.v,R,V.aY vX.cells.toArray λr8 w35 I=>I.aR 0 rfl x.cells rfl x.one λy J=>⟨_,J.aj 0 rfl 7,?_⟩⟩);show kB y ⟨r8,7,none⟩ (iv (IntKind.i64.wrap (x.v-AK S.ps x.want))) _;rw[gC (n:=x.v-AK S.ps x.want) (by omega)];refine J.cL 0 rfl (by show 7<8;decide) rfl λw37 r=>⟨_,_,_,r.aj 4 rfl 19,_,x.want,_,r.cellsIn 0 rfl,iT vO Of.len (x:=yI S x) (Of.one _) (r.out 3 rfl) (by omega) (by omega) (λW X w38 g=>?_) rfl⟩;have g:St w w38 (Sep (dB W X (lQ S l k++[yI S x])::ay r8 (yI S x).cells.toArray 70::pJ d f (qY S l k)::pJ C D o::ay r5 (P (.slice C o.length D) (.slice t (lQ S l k).length co)) 66::M)):=g;refine g.cL 4 rfl (by show 19<20;decide) rfl λw39 s39=>iT U9 gm (x:=(k:Int)) (wX _) (s39.out 2 rfl) (by omega) (by omega) (λF c'' w41 z=>?_) rfl;have z:St w w41 (Sep (pJ F c'' (qY S l k++[(k:Int)])::dB W X (lQ S l k++[yI S x])::ay r8 (yI S x).cells.toArray 70::pJ C D o::ay r5 (P (.slice C o.length D) (.slice W (lQ S l k++[yI S x]).length X)) 66::M)):=z;exact⟨W,X,rfl,z.aM [0,3,1,4,5,6,7]⟩
 obtain rfl:k=l.length:=by omega
 refine dz G ⟨_,_,_,L.aj 3 rfl 19,?_⟩
 by_cases b:160<(lQ S l l.length).length
 .exact di (by omega) (L.aR 4 rfl vo.toList rfl (nM _ _ _ rfl rfl) λi g=>⟨z6,z6,z6,Ex4 ⟨_,_,g.cellsIn 4 rfl,.inl ⟨b,rfl,g.aK⟩⟩⟩)
 exact dz (by omega) ⟨dD S.ps,op,cl,Ex4 ⟨_,_,L.cellsIn 3 rfl,L.aR 4 rfl (P (.slice C o.length D) (.slice t (lQ S l l.length).length co)).toList rfl (nM _ _ _ rfl rfl) λi g=>⟨dD S.ps,op,cl,Ex4 ⟨_,_,g.cellsIn 4 rfl,.inr ⟨by omega,C,t,d,D,co,f,rfl,g.aM [0,1,2,6]⟩⟩⟩⟩⟩
def Ii{w:ah}{R:Rs}(t:R.Q6 w)(k:IV R):
  CP 44 #[.agg R.cells.toArray] w (λr a=>(R.ph<3/\r=.tuple #[.agg vo,.slice none 0 0,iv 10]/\aZ w a [])\/(3<=R.ph /\
   ((160<(lQ R.s (dN R.dV R.C) (dN R.dV R.C).length).length/\r=.tuple #[.agg vo,.slice none 0 0,iv 3]/\aZ w a [])\/((lQ R.s (dN R.dV R.C) (dN R.dV R.C).length).length<=160/\∃(e f i:OA) (g h j:Nat),r=.tuple #[.agg (xm (dD R.s.ps) (qS R.s.ps R.s.sa).1 (qS R.s.ps R.s.sa).2 (.slice e (R.s.bd.map Br.cls).length g) (.slice f (lQ R.s (dN R.dV R.C) (dN R.dV R.C).length).length h)),.slice i (qY R.s (dN R.dV R.C) (dN R.dV R.C).length).length j,iv 0] /\
    St w a (Sep [pJ i j (qY R.s (dN R.dV R.C) (dN R.dV R.C).length),pJ e g (R.s.bd.map Br.cls),dB f h (lQ R.s (dN R.dV R.C) (dN R.dV R.C).length),emp]))))):=by
 refine @Fq _ _ _ _ _ _ _ _ _ _ _ _ _ _ _ _ _ _ _ _ _ _ _ _ _ _ _ _ _ _ _ _ _ _ _ _ R.C.p _ _ _ _ _ _ _ _ _ _ _ _ _ _ _ _ _ _ _ _ _ _ _ _ (bE R.cells.toArray λE G B=>B.aY vo λF D r=>⟨_,r.aj 1 rfl 4,?_⟩)
 by_cases o:R.ph<3
 .exact di o (r.aR 0 rfl vo.toList rfl (nM _ _ _ rfl rfl) λx d=>⟨z6,z6,z6,Ex4 ⟨_,_,d.cellsIn 0 rfl,.inl ⟨o,rfl,d.aK⟩⟩⟩)
 have u:=k.so.so (by show R.ph≠0;omega);have n:=r.quiet (aZ.drew D []);refine dz o (Ex8<|Ex4<|⟨n.bA 1 5 rfl rfl,Ex8<|Ex8<|Ex8<|Ex8<|Ex4<|⟨R.C.p,Ex8<|Ex8<|Ex4<|⟨_,_,n.cellsIn 1 rfl,bg (EA (t.aK n.aK) k) ?_⟩⟩⟩);rintro v H ⟨a,c,rfl,z⟩;have m:=St.cat (l:=[dB a c (dN R.dV R.C),emp]) (n.and z);refine⟨_,_,_,rfl,m.bA 3 5 rfl rfl,bg (Mj (t.aK m.aK).s u (St.rd Of.len (m.out 0 rfl)) (C5 (S:=R.dV) (C:=R.C) u)) ?_⟩;rintro _ I (⟨b,rfl,y⟩|⟨b,e,f,i,g,h,j,rfl,A⟩)
 .have q:=m.quiet y;exact⟨z6,z6,z6,Ex8 ⟨_,_,rfl,q.aR 2 rfl vo.toList rfl (nM _ _ _ rfl rfl) λx d=>⟨z6,z6,z6,Ex4 ⟨_,_,d.cellsIn 2 rfl,.inr ⟨by omega,.inl ⟨b,rfl,d.aK⟩⟩⟩⟩⟩⟩
 have q:=St.cat (l:=[pJ i j (qY R.s (dN R.dV R.C) (dN R.dV R.C).length),pJ e g (R.s.bd.map Br.cls),dB f h (lQ R.s (dN R.dV R.C) (dN R.dV R.C).length),emp]) (m.and A);exact⟨dD R.s.ps,(qS R.s.ps R.s.sa).1,(qS R.s.ps R.s.sa).2,Ex8 ⟨_,_,rfl,q.aR 6 rfl (xm (dD R.s.ps) (qS R.s.ps R.s.sa).1 (qS R.s.ps R.s.sa).2 (.slice e (R.s.bd.map Br.cls).length g) (.slice f (lQ R.s (dN R.dV R.C) (dN R.dV R.C).length).length h)).toList rfl (nM _ _ _ rfl rfl) λx d=>⟨dD R.s.ps,(qS R.s.ps R.s.sa).1,(qS R.s.ps R.s.sa).2,Ex4 ⟨_,_,d.cellsIn 6 rfl,.inr ⟨by omega,.inr ⟨b,e,f,i,g,h,j,rfl,d.aM [0,1,2,3]⟩⟩⟩⟩⟩⟩
end Go.Proofs.YtmhhlijfepaphaaGreatDoor
set_option maxHeartbeats 4000000
namespace Go.Proofs.YtmhhlijfepaphaaGreatDoor
open Go Go.Vc Go.Vt _root_.Go.Proofs.Tryz
def Jy(a:Int)(b:I6)(c:Int)(d:OA)(e f:Nat)(w:ah)(K:KP):=gK w (.cells (iv a::b.on [iv c,.slice d e f]:List Value).toArray 73) λa b=>gK b (.cells #[qz,qz,qz,qz,qz,qz,qz,qz,qn] 73) λb c=>∃d e f,c.cell? (qd a 8)=some (.slice d e f)/\∃f:OA->Nat->Nat->Int->qN,(∃g,f none 0 0 0 c g)/\∀c g h i j k,f h i j k c g->∀l:qv,cond (decide (k<(e:Int))) (fN d λd=>0<=k/\k<(e:Int)/\∃e,∃l:I6,∃m n o p,aU c (Addr.add d ((k).toNat*9)) 0 (iv e::l.on [iv m,.slice n o p])/\gK c (.cells #[qz,qz,qz,qz,qz,qz,qz,qz,qn] 73) λd q=>yY (qd d 0) 0 (iv e::l.on [iv m,.slice n o p]) q λe=>∃l,∃m:I6,∃n o p q,aU e (qd d 0) 0 (iv l::m.on [iv n,.slice o p q])/\CC 149 #[.agg (iv l::m.on [iv n,.slice o p q]:List Value).toArray,.func (.func 150) #[] #[]] e λd e=>∃l,∃m:I6,∃n o p q,d=.returned (.agg (iv l::m.on [iv n,.slice o p q]:List Value).toArray)/\gK e (.cells (iv l::m.on [iv n,.slice o p q]:List Value).toArray 73) λd e=>kg prog (Builtin.append_ #[42,42] 42 #[.slice h i j,.slice (some (qd d 0)) 1 1]) e λd e=>∃l m n,d=(.slice l m n)/\∃d,d<g/\f l m n (IntKind.i64.wrap (k+1)) e d) (kB c (qd a 8) (.slice h i j) λc=>∃d,∃e:I6,∃f g h i,aU c (qd a 0) 0 (iv d::e.on [iv f,.slice g h i])/\CC 150 #[.agg (iv d::e.on [iv f,.slice g h i]:List Value).toArray] c λa c=>∃d,∃e:I6,∃f g h i,a=.returned (.agg (iv d::e.on [iv f,.slice g h i]:List Value).toArray)/\yY (qd b 0) 0 (iv d::e.on [iv f,.slice g h i]) c λa=>∃c,∃d:I6,∃e f g h,aU a (qd b 0) 0 (iv c::d.on [iv e,.slice f g h])/\K (.agg (iv c::d.on [iv e,.slice f g h]:List Value).toArray) a)
def Jz{n1 u1 n2 a1 l1 c1 w K}(h:Jy n1 u1 n2 a1 l1 c1 w K):CP 149 #[.agg (iv n1::u1.on [iv n2,.slice a1 l1 c1]:List Value).toArray,.func (.func 150) #[] #[]] w K:=uK (Dt [(122,[(5,.s .slice),(15,.s (.int .i64))])]) func149 (by kernel_rfl) (by kernel_rfl) h
end Go.Proofs.YtmhhlijfepaphaaGreatDoor
namespace Go.Proofs.YtmhhlijfepaphaaGreatDoor
open Go Go.Vc _root_.Go.Proofs.Tryz
def U0{x y:Xv}(e:x.er=y.er):x.op=y.op/\x.u=y.u/\x.v=y.v/\x.args.map Xv.er=y.args.map Xv.er:=by
 rw[Xv.pN,Xv.pN y] at e
 injection e with a b c _ _ d
 exact⟨a,b,c,d⟩
def UZ{w:ah}{x:Xv}(h:x.In w){k:Nat}{y:Xv}(b:x.args[k]?=some y):∃q,x.a=some q/\aU w (Addr.add q (((k:Nat):Int).toNat*9)) 0 y.cells:=by
 rw[aq];exact h.fl.at b
def Sl:∀(x:Xv),fE x<=100000->∀(y:Xv) (w:ah),x.In w->y.In w->x.er=y.er->CP 42 #[.agg x.cells.toArray,.agg y.cells.toArray] w (λr J=>r=.bool true/\aZ w J []):=Xv.ind λx F O y w o s e=>by
 obtain⟨B,C,D,n⟩:=U0 e;have el:x.args.length=y.args.length:=by have:=congrArg List.length n;simpa using this
 have L:=tg x;refine @Fl _ x.u _ _ _ _ _ y.u _ _ _ _ _ _ (bE x.cells.toArray λG P I=>I.aY y.cells.toArray λH Q a=>?_);let M:List bP:=[ay H y.cells.toArray 73,ay G x.cells.toArray 73,emp];refine⟨λb z=>b=false/\St w z (Sep M),?_,_,a.aj 1 rfl 0,_,a.aj 0 rfl 0,cF (by rw[B];simp) ⟨x.u,a.bA 1 1 rfl rfl,y.u,a.bA 0 1 rfl rfl,cF (by rw[C];simp[I6.beq]) ⟨_,a.aj 1 rfl 7,_,a.aj 0 rfl 7,cF (by rw[D];simp) ⟨_,_,_,a.aj 1 rfl 8,_,_,_,a.aj 0 rfl 8,by rw[el];simp,a⟩⟩⟩⟩;rintro z b ⟨rfl,t⟩-;refine cF rfl ⟨_,_,_,t.aj 1 rfl 8,λi l m=>∃k:Nat,i=k/\k<=x.args.length/\m=x.args.length-k/\St w l (Sep M),⟨x.args.length,0,rfl,by omega,by omega,t⟩,?_⟩;rintro l m i ⟨k,rfl,K,N,v⟩-
 by_cases f:(k:Int)<(x.args.length:Int)
 rotate_left
 .exact dz f ⟨rfl,v.aK⟩
 obtain⟨p,h⟩:=dX x.args k (by omega);obtain⟨q,j⟩:=dX y.args k (by omega);have g:p.er=q.er:=by
  have c:(x.args.map Xv.er)[k]?=some p.er:=by rw[aL,h];rfl
  rw[n,aL,j] at c;exact(dP c).symm
 have d:=v.quiet (aZ.drew l []);obtain⟨g1,d1,t1⟩:=UZ (o.aK d.aK) h;obtain⟨g2,d2,t2⟩:=UZ (s.aK d.aK) j;have c:=ak h;have E:=tD c;exact di f ⟨_,_,_,d.aj 1 rfl 8,av d1 ⟨by omega,by omega,_,p.u,_,_,_,_,t1,_,_,_,d.aj 0 rfl 8,av d2 ⟨by omega,by omega,_,q.u,_,_,_,_,t2,bF (F p c (by omega) q _ ((o.aK d.aK).sub p c) ((s.aK d.aK).sub q (ak j)) g) λR A=>⟨_,rfl,cF rfl (mS (by omega) (d.quiet A))⟩⟩⟩⟩
def R7(w:ah)(x:Xv):CP 150 #[.agg x.cells.toArray] w (λr d=>r=.agg x.cells.toArray/\aZ w d []):=by
 exact @DM _ x.u _ _ _ _ _ _ (bE x.cells.toArray λe g c=>c.aY gj.cells.toArray λf h a=>⟨_,x.u,_,_,_,_,a.cellsIn 1 rfl,a.aR 0 rfl x.cells rfl x.one λi b=>⟨_,x.u,_,_,_,_,b.cellsIn 0 rfl,rfl,b.aK⟩⟩)
def Zs:∀(x:Xv),fE x<=100000->∀w,x.In w->CP 149 #[.agg x.cells.toArray,.func (.func 150) #[] #[]] w (λr B=>∃y:Xv,y.er=x.er/\r=.agg y.cells.toArray/\St w B (held y.In)):=Xv.ind λx G hz w t=>by
 refine Jz (u1:=x.u) ?_;unfold Jy;have Z:=tg x;refine bE x.cells.toArray λI w1 N=>N.aY gj.cells.toArray λJ w2 A=>⟨_,_,_,A.aj 1 rfl 8,?_⟩;let M:List bP:=[ay J gj.cells.toArray 73,ay I x.cells.toArray 73,emp];refine⟨λa l c n C m=>∃(k:Nat) (L:List Xv),l=L.length/\n=k/\k<=x.args.length/\m=x.args.length-k/\L.map Xv.er=(x.args.take k).map Xv.er/\St w C (Sep (Cd a c L::held (y9 L)::M)),⟨x.args.length,0,[],rfl,rfl,by omega,by omega,rfl,St.gB (A.oM λB y h=>by simp at h)⟩,?_⟩;rintro C m a l c n ⟨k,L,rfl,rfl,Y,hm,e,p⟩-;have X:L.length=k:=by have:=congrArg List.length e;simp at this;omega
 by_cases d:(k:Int)<(x.args.length:Int)
 .obtain⟨y,f⟩:=dX x.args k (by omega);have b:=ak f;have F:=tD b;obtain⟨q,E,o⟩:=UZ (t.aK p.aK) f;refine di d (av E ⟨by omega,by omega,_,y.u,_,_,_,_,o,p.aY gj.cells.toArray λK w4 O=>O.aR 0 rfl y.cells rfl y.one λT s=>⟨_,y.u,_,_,_,_,s.cellsIn 0 rfl,bg (G y b (by omega) T ((t.aK s.aK).sub y b)) ?_⟩⟩);rintro v U ⟨z,D,rfl,H⟩;have P:St w U (Sep (held z.In::ay K y.cells.toArray 73::Cd a c L::held (y9 L)::M)):=s.and H;refine⟨_,z.u,_,_,_,_,rfl,iT QB Xv.len (x:=z) z.one (P.out 2 rfl) (by omega) (by omega) (λV W w7 Q=>?_) rfl⟩;have R:=(St.IS Q).aM [1,3,0,4,5,6];have g:=R.kr (S:=y9 (L++[z])) (cV _) (cV _) λw i j y f=>by
   rcases aB.1 f with h|h
   .exact j y h
   rw[aI.1 h];exact i
  exact⟨x.args.length-(k+1),by omega,k+1,L++[z],rfl,gC (by omega),by omega,rfl,by rw[bJ f,aS,aS,e,bH,bH,D],g.aM [1,0,2,3,4]⟩
 obtain rfl:k=x.args.length:=by omega
 rw[aH] at e;let y:Xv:=.mk x.op x.u x.v a c L;have o:y.er=x.er:=by rw[Xv.pN,Xv.pN x];show Xv.mk x.op x.u x.v none 0 (L.map Xv.er)=_;rw[e]
 exact dz d (p.cL 3 rfl (by show 8<9;decide) rfl λv g=>⟨x.op,x.u,x.v,a,L.length,c,g.cellsIn 3 rfl,bF (R7 v y) λq f=>⟨_,x.u,_,_,_,_,rfl,(g.quiet f).aR 2 rfl y.cells rfl y.one λs b=>⟨_,x.u,_,_,_,_,b.cellsIn 2 rfl,y,o,rfl,((b.aM [0,1]).kr (S:=y.In) (dS Xv.len) (cV _) λw i j=>.mk i j).first⟩⟩⟩)
def VM{x:Xv}(e:fE x<=100000){w:ah}(d:x.In w):CP 93 #[.agg x.cells.toArray] w (λr k=>∃y:Xv,y.er=x.er/\r=.agg y.cells.toArray/\St w k (held y.In)):=by
 refine @Hu _ x.u _ _ _ _ _ _ (bE x.cells.toArray λg n i=>i.aY gj.cells.toArray λh l a=>⟨_,x.u,_,_,_,_,a.cellsIn 1 rfl,bg (Zs x e l (d.aK a.aK)) ?_⟩);rintro v m ⟨y,c,rfl,f⟩;have j:St w m (Sep [held y.In,ay h gj.cells.toArray 73,ay g x.cells.toArray 73,emp]):=a.and f;exact⟨_,y.u,_,_,_,_,rfl,j.aR 1 rfl y.cells rfl y.one λo b=>⟨_,y.u,_,_,_,_,b.cellsIn 1 rfl,y,c,rfl,b.first⟩⟩
end Go.Proofs.YtmhhlijfepaphaaGreatDoor
set_option maxHeartbeats 4000000
namespace Go.Proofs.YtmhhlijfepaphaaGreatDoor
open Go Go.Vc Go.Vt _root_.Go.Proofs.Tryz
def X3:=many xP [en func34 [] [(6,[(42,.s .bool)]),(58,[(5,.s (.int .i64))]),(122,[(6,.s (.int .i64))]),(250,[(7,.s (.int .i64))]),(506,[(8,.s (.int .i64))])],en func15 [(0,.k (.s .blk))] []] (by conv=>lhs;reduce) (by kernel_rfl) λx=>by
 dsimp only[qq,qm,qk,qj,qy,qA,qB,GH,uv,en,FG,wrap,dc,dn,DH,gU,ID,U.I,U.B,U.S,U.N,U.A,U.O,U.W,U.V,U.L,U.U6,U.C,U.M,U.F,U.E,HV,HA,GM,zS,jU,gJ,vZ,vI,TJ,Nat.reduceSub,Nat.reduceAdd,Int.reduceOfNat,Int.reduceNeg,UInt8.reduceOfNat] at x
 exact x
end Go.Proofs.YtmhhlijfepaphaaGreatDoor
namespace Go.Proofs.YtmhhlijfepaphaaGreatDoor
open Go Go.Vc _root_.Go.Proofs.Tryz
set_option maxHeartbeats 2000000 in
theorem Qh{w:ah}{S' S:Se}(h':S'.In w)(h:S.In w)(e:S'.er=S.er)(hz:S.Sz):CP 34 #[.agg S'.arr,.agg S.arr] w (λr I=>r=.bool true/\aZ w I []):=by
 refine X3.1 ?_;obtain⟨L,M,N,O⟩:=hz;have v:S'.ps=S.ps:=(congrArg Se.ps e:S'.er.ps=S.er.ps);have y:S'.bd=S.bd:=(congrArg Se.bd e:S'.er.bd=S.er.bd);have z:S'.cp=S.cp:=(congrArg Se.cp e:S'.er.cp=S.er.cp);have A:S'.sa=S.sa:=(congrArg Se.sa e:S'.er.sa=S.er.sa);refine bE S'.arr λt K H=>H.aY S.arr λu J l=>?_;have l:St w J (Sep [ay u S.arr 34,ay t S'.arr 34,emp]):=l;refine⟨λb G=>b=false/\St w G (Sep [ay u S.arr 34,ay t S'.arr 34,emp]),?_,_,_,_,l.aj 1 rfl 0,_,_,_,l.aj 0 rfl 0,cF (by rw[v];simp) ⟨_,_,_,l.aj 1 rfl 1,_,_,_,l.aj 0 rfl 1,cF (by rw[y];simp) ⟨_,_,_,l.aj 1 rfl 2,_,_,_,l.aj 0 rfl 2,cF (by rw[z];simp) ⟨_,_,_,l.aj 1 rfl 3,_,_,_,l.aj 0 rfl 3,by rw[A];simp,l⟩⟩⟩⟩;rintro G b ⟨rfl,F⟩-;refine cF rfl ⟨λi n m=>∃k:Nat,i=k/\k<=S.ps.length/\m=S.ps.length-k/\St w n (Sep [ay u S.arr 34,ay t S'.arr 34,emp]),⟨S.ps.length,0,rfl,by omega,by omega,F⟩,?_⟩;rintro n m i ⟨k,rfl,q,s,d⟩-;refine⟨_,_,_,d.aj 1 rfl 0,?_⟩;have c:=d.quiet (aZ.drew n [])
 by_cases a:k<S.ps.length
 .have j:S.ps[k]?=some (S.ps[k]'a):=gE a;generalize S.ps[k]'a=x at j;obtain⟨_,D,f,o⟩:=(h'.aK c.aK).ps k x (by rw[v];exact j);obtain⟨_,E,g,p⟩:=(h.aK c.aK).ps k x j;have C:(bs x.nm==bs x.nm)=true:=by first|exact nH _|(show((bs x.nm).data==(bs x.nm).data)=true;simp)|exact dT rfl
  exact cT (by rw[v];exact dT (by omega)) ⟨_,_,_,c.aj 1 rfl 0,av f ⟨by omega,by rw[v];omega,bs x.nm,_,_,_,_,o,_,_,_,c.aj 0 rfl 0,av g ⟨by omega,by omega,bs x.nm,_,_,_,_,p,cF (by rw[C];simp) (mS (by omega) c)⟩⟩⟩
 obtain rfl:k=S.ps.length:=by omega
 refine cF (by rw[v];simp) ⟨λi B m=>∃k:Nat,i=k/\k<=S.bd.length/\m=S.bd.length-k/\St w B (Sep [ay u S.arr 34,ay t S'.arr 34,emp]),⟨S.bd.length,0,rfl,by omega,by omega,d⟩,?_⟩;clear c d F q s a;rintro n m i ⟨k,rfl,q,s,d⟩-;refine⟨_,_,_,d.aj 1 rfl 1,?_⟩;have c:=d.quiet (aZ.drew n [])
 by_cases a:k<S.bd.length
 .have j:S.bd[k]?=some (S.bd[k]'a):=gE a;generalize S.bd[k]'a=x at j;obtain⟨_,D,f,o⟩:=(h'.aK c.aK).bd k x (by rw[y];exact j);obtain⟨_,E,g,p⟩:=(h.aK c.aK).bd k x j;have C:(bs x.nm==bs x.nm)=true:=by first|exact nH _|(show((bs x.nm).data==(bs x.nm).data)=true;simp)|exact dT rfl
  exact cT (by rw[y];exact dT (by omega)) ⟨_,_,_,c.aj 1 rfl 1,av f ⟨by omega,by rw[y];omega,bs x.nm,_,_,_,o,_,_,_,c.aj 0 rfl 1,av g ⟨by omega,by omega,bs x.nm,_,_,_,p,cF (by rw[C];simp) (mS (by omega) c)⟩⟩⟩
 obtain rfl:k=S.bd.length:=by omega
 refine cF (by rw[y];simp) ⟨λi B m=>∃k:Nat,i=k/\k<=S.cp.length/\m=S.cp.length-k/\St w B (Sep [ay u S.arr 34,ay t S'.arr 34,emp]),⟨S.cp.length,0,rfl,by omega,by omega,d⟩,?_⟩;clear c d q s a;rintro n m i ⟨k,rfl,q,s,d⟩-;refine⟨_,_,_,d.aj 1 rfl 2,?_⟩;have c:=d.quiet (aZ.drew n [])
 by_cases a:k<S.cp.length
 .have j:S.cp[k]?=some (S.cp[k]'a):=gE a;generalize S.cp[k]'a=x at j;obtain⟨D,f,o⟩:=(h'.aK c.aK).cp k x (by rw[z];exact j);obtain⟨E,g,p⟩:=(h.aK c.aK).cp k x j;exact cT (by rw[z];exact dT (by omega)) ⟨_,_,_,c.aj 1 rfl 2,av f ⟨by omega,by rw[z];omega,_,_,_,o,_,_,_,c.aj 0 rfl 2,av g ⟨by omega,by omega,_,_,_,p,cF (by simp) (mS (by omega) c)⟩⟩⟩
 obtain rfl:k=S.cp.length:=by omega
 refine cF (by rw[z];simp) ⟨λi B m=>∃k:Nat,i=k/\k<=S.sa.length/\m=S.sa.length-k/\St w B (Sep [ay u S.arr 34,ay t S'.arr 34,emp]),⟨S.sa.length,0,rfl,by omega,by omega,d⟩,?_⟩;clear c d q s a;rintro n m i ⟨k,rfl,q,s,d⟩-;refine⟨_,_,_,d.aj 1 rfl 3,?_⟩;have c:=d.quiet (aZ.drew n [])
 by_cases a:k<S.sa.length
 .have j:S.sa[k]?=some (S.sa[k]'a):=gE a;generalize S.sa[k]'a=x at j;obtain⟨D,f,o⟩:=(h'.aK c.aK).sa k x (by rw[A];exact j);obtain⟨E,g,p⟩:=(h.aK c.aK).sa k x j;exact cT (by rw[A];exact dT (by omega)) ⟨_,_,_,c.aj 1 rfl 3,av f ⟨by omega,by rw[A];omega,_,_,_,o,_,_,_,c.aj 0 rfl 3,av g ⟨by omega,by omega,_,_,_,p,cF (by simp) (mS (by omega) c)⟩⟩⟩
 obtain rfl:k=S.sa.length:=by omega
 exact cF (by rw[A];simp) ⟨rfl,d.aK⟩
section
variable {w0 w:ah} {b:Nat} {S:Sx} {C:Ck} {B:bP}
def Ut(s:St w0 w (star (xH b S C) B))(c:tJ S C):CP 35 #[pt b] w (λr e=>∃a:Se,a.er=S.s/\r=.agg a.arr/\St w e (held a.In)):=by
 obtain⟨g,f,rfl,rfl,i,d⟩:=mz s;exact UD (d.cellsIn 0 rfl) (d.eu 1 rfl).h.1 (Yl (rX c))
def SP(s:St w0 w (star (xH b S C) B)){i:Int}:CP 92 #[pt b,iv i] w (λr d=>r=.bool (decide (0<=i/\i<(S.s.bd.length:Int)))/\d=w):=by
 refine uq ?_;obtain⟨a,e,rfl,rfl,f,c⟩:=mz s;refine cBq (λh=>⟨a.s.a2,a.s.bd.length,a.s.c2,(c.aj 0 rfl 6).trans rfl,?_,rfl⟩) λh=>⟨by rw[dF (λk=>h k.1)],rfl⟩
 by_cases g:i<(a.s.bd.length:Int)
 .rw[dT g,dT ⟨h,g⟩]
 rw[dF g,dF (λk=>g k.2)]
def ZN(s:St w0 w (star (xH b S C) B))(a:tJ S C)(d:S.s.bd.length<=8){i:Int}:CP 41 #[pt b,iv i] w (λr c=>r=.bool (decide (0<=i/\i<(S.s.bd.length:Int))&&(S.bd.getD i.toNat gR).out)/\c=w):=by
 by_cases h:0<=i/\i<(S.s.bd.length:Int)
 .obtain⟨k,rfl⟩:=cZ h.1;exact kR (ZM s a (i:=k) (by omega) (by omega)) ⟨_,rfl,by rw[dT h];rfl,rfl⟩
 refine tE (kR (SP s) ⟨_,rfl,?_⟩);rw[dF h];exact cF rfl ⟨rfl,rfl⟩
def V9(s:St w0 w (star (xH b S C) B))(f:tJ S C)(M:S.s.bd.length<=8){i:Int}:
  CP 40 #[pt b,iv i] w (λr a=>((decide (0<=i/\i<(S.s.bd.length:Int))&&(S.bd.getD i.toNat gR).has)=false/\r=.tuple #[.agg gj.cells.toArray,.bool false]/\aZ w a [])\/((decide (0<=i/\i<(S.s.bd.length:Int))&&(S.bd.getD i.toNat gR).has)=true/\∃y:Xv,y.er=(S.bd.getD i.toNat gR).x/\r=.tuple #[.agg y.cells.toArray,.bool true]/\St w a (held y.In))):=by
 refine(p6 tO.2).2.2.1 ?_;obtain⟨a,L,rfl,rfl,N,K⟩:=mz s;have t:=(rX f).b8;refine bE gj.cells.toArray λJ r l=>?_;have D:=s.quiet l.aK;have E:=K.quiet l.aK
 by_cases h:0<=i/\i<(a.er.s.bd.length:Int)
 .obtain⟨k,rfl⟩:=cZ h.1;have e:k<8:=by have:=h.2;omega
  have o:a.bd[k]?=some (a.bd.getD k gR):=getD_at (by omega);have z:(a.er.bd.getD k gR).has=(a.bd.getD k gR).has:=by rw[oW];rfl
  have ex:(a.er.bd.getD k gR).x=(a.bd.getD k gR).x.er:=by rw[oW];rfl
  have c:∀(j:Nat) (v:Value),a.cells[10+k*11+j]?=some v->r.cell? (Addr.add (Addr.add ⟨b,10,none⟩ (((k:Nat):Int).toNat*11)) j)=some v:=λj v H=>by
   rw[XV,gW,E.aj 0 rfl];simpa using H
  rw[dT h];refine⟨λx m=>x = !(a.bd.getD k gR).has/\m=r,?_,bg (SP D) ?_⟩
  .rintro m x ⟨rfl,rfl⟩-
   cases hh:(a.bd.getD k gR).has with
   |false=>exact cT rfl (l.aR 0 rfl gj.cells rfl (Xv.one _) λn d=>⟨_,z6,_,_,_,_,d.cellsIn 0 rfl,.inl ⟨by show(true&&(a.er.bd.getD k gR).has)=false;rw[z,hh];rfl,rfl,d.aK⟩⟩)
   |true=>
    have p:=(rX f).x _ (ak o) hh;have O:=uM p;have q:=(E.eu 1 rfl).h.2 _ (ak o);have g:=fm _ 0 λj v G=>by
     rw[az];exact c j v (acq t e o j G)
    refine cF rfl ⟨by omega,by omega,_,(a.bd.getD k gR).x.u,_,_,_,_,g,bg (VM (by omega) q) ?_⟩;rintro _ n ⟨y,F,rfl,d⟩;have I:St w n (Sep [held y.In,ay J gj.cells.toArray 73,emp]):=l.and d;exact⟨_,y.u,_,_,_,_,rfl,I.aR 1 rfl y.cells rfl y.one λP A=>⟨_,y.u,_,_,_,_,A.cellsIn 1 rfl,.inr ⟨by show(true&&(a.er.bd.getD k gR).has)=true;rw[z,hh];rfl,y,by show y.er=(a.er.bd.getD k gR).x;rw[F,ex],rfl,A.first⟩⟩⟩
  rintro _ n ⟨rfl,rfl⟩;refine⟨_,rfl,?_⟩;rw[dT h];refine cF rfl ⟨by omega,by omega,(a.bd.getD k gR).has,?_,rfl,rfl⟩;have:=MP t e o;exact c 9 _ (by simpa using this)
 rw[dF h];refine⟨λx m=>x=true/\m=r,?_,bg (SP D) ?_⟩
 .rintro m x ⟨rfl,rfl⟩-;exact cT rfl (l.aR 0 rfl gj.cells rfl (Xv.one _) λn d=>⟨_,z6,_,_,_,_,d.cellsIn 0 rfl,.inl ⟨rfl,rfl,d.aK⟩⟩)
 rintro _ n ⟨rfl,rfl⟩;refine⟨_,rfl,?_⟩;rw[dF h];exact cT rfl ⟨rfl,rfl⟩
def WZ(s:St w0 w (star (xH b S C) B))(A:tJ S C):CP 18 #[pt b] w (λr E=>(S.ph<3/\r=.tuple #[.agg vo,.slice none 0 0,iv 10]/\aZ w E [])\/(3<=S.ph /\
  ((160<(lQ S.s (dN S C) (dN S C).length).length/\r=.tuple #[.agg vo,.slice none 0 0,iv 3]/\aZ w E [])\/((lQ S.s (dN S C) (dN S C).length).length<=160/\∃(k m p:OA) (n o q:Nat),r=.tuple #[.agg (xm (dD S.s.ps) (qS S.s.ps S.s.sa).1 (qS S.s.ps S.s.sa).2 (.slice k (S.s.bd.map Br.cls).length n) (.slice m (lQ S.s (dN S C) (dN S C).length).length o)),.slice p (qY S.s (dN S C) (dN S C).length).length q,iv 0] /\
   St w E (Sep [pJ p q (qY S.s (dN S C) (dN S C).length),pJ k n (S.s.bd.map Br.cls),dB m o (lQ S.s (dN S C) (dN S C).length),emp]))))):=by
 refine pY ?_;obtain⟨d,e,rfl,rfl,L,I⟩:=mz s;have g:=rX A;have M:=g.ph;rw[Ar,show lQ d.er.s (dN d e) (dN d e).length=lQ d.s (dN d e) (dN d e).length from HC _ _ _,show qY d.er.s (dN d e) (dN d e).length=qY d.s (dN d e) (dN d e).length from HB _ _ _];refine bE vo λQ P v=>?_;have t:=I.cellsIn 0 rfl;have G:=I.eu 1 rfl;refine⟨λx F=>x=decide (d.ph<3)/\F=P,?_,_,yl t v.aK 4 rfl,?_⟩
 rotate_left
 .by_cases a:d.ph=3
  .exact cF (by rw[a];rfl) ⟨by rw[a];rfl,rfl⟩
  refine gM a ⟨_,yl t v.aK 4 rfl,?_,rfl⟩
  by_cases c:d.ph=4
  .rw[c];rfl
  rw[dT (show d.ph<3 by omega)];simpa using c
 rintro F x ⟨rfl,rfl⟩-
 by_cases j:d.ph<3
 .exact di j (v.aR 0 rfl vo.toList rfl (nM _ _ _ rfl rfl) λJ i=>⟨z6,z6,z6,Ex4 ⟨_,_,i.cellsIn 0 rfl,.inl ⟨j,rfl,i.aK⟩⟩⟩)
 have H:=g.so (by omega);have y:=v.quiet (aZ.drew F []);have z:=Da G y.aK;refine dz j (Ex8<|Ex4<|⟨Gz t y.aK,bg (zB (ff y.aK t) z g L) ?_⟩);rintro _ R ⟨a,c,rfl,N⟩;have u:=St.cat (l:=[dB a c (dN d e)]) (y.and N);refine⟨_,_,_,rfl,Gz t u.aK,bg (Nl (Da G u.aK).h.1 H (St.rd Of.len u) (C5 H)) ?_⟩;rintro _ T (⟨f,rfl,K⟩|⟨f,k,m,p,n,o,q,rfl,O⟩)
 .have D:=u.quiet K;exact⟨z6,z6,z6,Ex8 ⟨_,_,rfl,D.aR 1 rfl vo.toList rfl (nM _ _ _ rfl rfl) λJ i=>⟨z6,z6,z6,Ex4 ⟨_,_,i.cellsIn 1 rfl,.inr ⟨(show 3<=d.ph by omega),.inl ⟨f,rfl,i.aK⟩⟩⟩⟩⟩⟩
 have D:=St.cat (l:=[pJ p q (qY d.s (dN d e) (dN d e).length),pJ k n (d.s.bd.map Br.cls),dB m o (lQ d.s (dN d e) (dN d e).length),emp]) (u.and O);exact⟨dD d.s.ps,(qS d.s.ps d.s.sa).1,(qS d.s.ps d.s.sa).2,Ex8 ⟨_,_,rfl,D.aR 5 rfl (xm (dD d.s.ps) (qS d.s.ps d.s.sa).1 (qS d.s.ps d.s.sa).2 (.slice k (d.s.bd.map Br.cls).length n) (.slice m (lQ d.s (dN d e) (dN d e).length).length o)).toList rfl (nM _ _ _ rfl rfl) λJ i=>⟨dD d.s.ps,(qS d.s.ps d.s.sa).1,(qS d.s.ps d.s.sa).2,Ex4 ⟨_,_,i.cellsIn 5 rfl,.inr ⟨(show 3<=d.ph by omega),.inr ⟨f,k,m,p,n,o,q,rfl,i.aM [0,1,2,9]⟩⟩⟩⟩⟩⟩
def O9(s:St w0 w (star (xH b S C) B))(h:tJ S C)(F:S.ph≠0):CP 39 #[pt b] w (λr U=>∃d a c,d.map Rn.er=C.cl.map Rn.er/\r=.slice a d.length c/\St w U (Sep [Is a c d,held (tW d)])):=by
 refine aaV.2.2.2.2.1 (bg (Jn s h) ?_);rintro _ V (⟨R,_⟩|⟨_,g,e,rfl,E,J⟩)
 .exact absurd R F
 have O:e.Inv:=by
  obtain⟨i,f,rfl,rfl,_,_⟩:=mz s;exact(h.c F).er (by rw[E,Jw])
 have G:=O.ok;have N:=G.cl;have o:e.cl.map Rn.er=C.cl.map Rn.er:=by
  have f:=congrArg Ck.cl E;have i:e.cl.map Rn.er=C.cl:=f;rw[<-i,cE];rfl
 refine⟨_,rfl,bg (FZ (J.imp (cV _)) G) ?_⟩;rintro v w1 ⟨d,A,D,el,rfl,u⟩;have Q:d.length=e.cl.length:=by have:=congrArg List.length el;simpa using this
 have T:=St.cat (l:=[U8 A D d,held (tW d)]) (J.one.and u.yW);refine⟨_,_,_,rfl,λa l c i z m=>∃k:Nat,i=k/\k<=d.length/\m=d.length-k/\l=(d.take k).length/\St w z (Sep [Is a c (d.take k),U8 A D d,held (tW d),held (e.Rd g)]),⟨d.length,0,rfl,by omega,by omega,rfl,T.gB⟩,?_⟩;rintro z m a l c i ⟨k,rfl,P,hm,rfl,y⟩-
 by_cases f:(k:Int)<(d.length:Int)
 rotate_left
 .obtain rfl:k=d.length:=by omega
  rw[aH] at y⊢;exact dz f ⟨d,a,c,by rw[el,o],rfl,y.aM [0,2]⟩
 obtain⟨x,I⟩:=dX d k (by omega);have K:=y.quiet (aZ.drew z []);obtain⟨q,j,t⟩:=(St.rd Rn.len (K.out 1 rfl)).at I;obtain⟨W,X,Y,Z⟩:=AL t;have H:(d.take k).length<=100:=by rw[aW];omega
 refine di f (av j ⟨by omega,by omega,x.p,W,av j ⟨by omega,by omega,_,_,_,X,av j ⟨by omega,by omega,_,_,_,Y,av j ⟨by omega,by omega,_,_,_,Z,K.aY x.cells.toArray λr1 w3 L=>dW (l2:=[x]) EV Rn.len Rn.one (L.out 1 rfl) (nJ (L.cellsIn 0 rfl) rfl) (by simp only[aG];omega) (by simp only[aG];omega) λa2 c2 w4 n=>?_⟩⟩⟩⟩);have n:=n.back (i:=1) (by show 1<5;decide);have M:d.take k++[x]=d.take (k+1):=by rw[bJ I]
 rw[M] at n⊢;exact mS (by omega) ⟨rfl,n.aM [1,2,3,4]⟩
end
def PrR(w a:ah)(r:Value)(ph:Int)(S:Se)(l:List Of):Prop:=(ph<3/\r=.tuple #[.agg vo,.slice none 0 0,iv 10]/\aZ w a [])\/(3<=ph /\
  ((160<(lQ S l l.length).length/\r=.tuple #[.agg vo,.slice none 0 0,iv 3]/\aZ w a [])\/((lQ S l l.length).length<=160/\∃(b c d:OA) (e f g:Nat),r=.tuple #[.agg (xm (dD S.ps) (qS S.ps S.sa).1 (qS S.ps S.sa).2 (.slice b (S.bd.map Br.cls).length e) (.slice c (lQ S l l.length).length f)),.slice d (qY S l l.length).length g,iv 0] /\
   St w a (Sep [pJ d g (qY S l l.length),pJ b e (S.bd.map Br.cls),dB c f (lQ S l l.length),emp]))))
structure Pd where
 u1:I6
 u2:I6
 u3:I6
 cls:List Int
 po:List Of
 src:List Int
 e:Int
def zM(ph:Int)(S:Se)(l:List Of):Pd:=
 if ph<3 then ⟨z6,z6,z6,[],[],[],10⟩ else if 160<(lQ S l l.length).length then ⟨z6,z6,z6,[],[],[],3⟩
 else ⟨dD S.ps,(qS S.ps S.sa).1,(qS S.ps S.sa).2,S.bd.map Br.cls,lQ S l l.length,qY S l l.length,0⟩
def TM{w k:ah}{r:Value}{ph:Int}{S:Se}{l:List Of}(h:PrR w k r ph S l):∃(a b d:OA) (f i j:Nat),r=.tuple #[.agg (xm (zM ph S l).u1 (zM ph S l).u2 (zM ph S l).u3 (.slice a (zM ph S l).cls.length f) (.slice b (zM ph S l).po.length i)),.slice d (zM ph S l).src.length j,iv (zM ph S l).e] /\
  St w k (Sep [pJ d j (zM ph S l).src,pJ a f (zM ph S l).cls,dB b i (zM ph S l).po,emp]):=by
 have nil:aZ w k []->St w k (Sep [pJ none 0 [],pJ none 0 [],dB none 0 [],emp]):=λc=>St.gB (St.gB (St.gB (St.start' c).one));rcases h with⟨h,rfl,c⟩|⟨h,⟨g,rfl,c⟩|⟨g,a,b,d,f,i,j,rfl,s⟩⟩
 .rw[zM,ag h];exact⟨none,none,none,0,0,0,rfl,nil c⟩
 .rw[zM,af (by omega),ag g];exact⟨none,none,none,0,0,0,rfl,nil c⟩
 rw[zM,af (by omega),af (by omega)];exact⟨a,b,d,f,i,j,rfl,s⟩
def WV{ph:Int}{S:Se}{l:List Of}(c:l.length<=320)(a:S.bd.length<=8):(zM ph S l).cls.length<=8/\(zM ph S l).po.length<=320/\(zM ph S l).src.length<=320:=by
 have b:=D1 S l l.length;unfold zM
 split
 .simp
 split
 .simp
 exact⟨by rw[bu];exact a,by show(lQ S l l.length).length<=320;omega,by show(qY S l l.length).length<=320;omega⟩
def ZS{ph:Int}{S:Se}{l:List Of}:zM ph S.er l=zM ph S l:=by
 unfold zM;rw[HC,HB];rfl
def Vo{R:Rs}(a:IV R)(c:R.ph=0->R.s.bd.length=0)(i:Int):(decide (0<=i/\i<(R.dV.er.s.bd.length:Int))&&(R.dV.er.bd.getD i.toNat gR).out)=(decide (0<=i/\i<(R.out.length:Int))&&R.out.getD i.toNat false)/\(decide (0<=i/\i<(R.dV.er.s.bd.length:Int))&&(R.dV.er.bd.getD i.toNat gR).has)=(decide (0<=i/\i<(R.out.length:Int))&&R.has.getD i.toNat false):=by
 have d:R.dV.er.s.bd.length=R.s.bd.length:=rfl;have en:R.out.length=R.s.bd.length:=by
  by_cases h:R.ph=0
  .rw[a.n0 h,c h]
  exact a.n h
 rw[d,<-en]
 by_cases h:0<=i/\i<(R.out.length:Int)
 .have e:R.s.bd.length<=8:=by
   by_cases b:R.ph=0
   .rw[c b];omega
   exact(a.so.so b).bd.l2
  have:=E0 (R:=R) (i:=i.toNat) (by omega) (by omega);rw[oW,this];exact⟨rfl,rfl⟩
 rw[dF h];exact⟨rfl,rfl⟩
set_option maxHeartbeats 8000000 in
theorem Vg{w0 w:ah}{b:Nat}{R:Rs}{B:bP}(s:St w0 w (star (xH b R.dV.er R.C.er) B))(hok:tJ R.dV.er R.C.er)(hR:R.Q6 w)(hokR:IV R)(hd:R.ph≠4->R.dec=0):
  CP 14 #[pt b,.agg R.cells.toArray] w (λr w'=>r=.bool true/\aZ w w' []):=by
 refine @D3 _ _ _ _ _ _ _ _ _ _ _ _ _ _ _ _ _ _ _ _ _ _ _ _ _ _ _ _ _ _ _ _ _ _ _ _ _ R.C.p _ _ _ _ _ _ _ _ _ _ _ _ _ _ _ _ _ _ _ _ _ _ _ _ ?_;have J:∀{w'},aZ w w' []->St w0 w' (star (xH b R.dV.er R.C.er) B):=λh=>s.quiet h;have E:=hokR.so;have hz:R.ph=0->R.s.bd.length=0:=λh=>by
  have:=congrArg Se.bd (E.z h);have Y:R.s.bd=[]:=this;rw[Y];rfl
 have h8:R.s.bd.length<=8:=by
  by_cases d:R.ph=0
  .rw[hz d];omega
  exact(E.so d).bd.l2
 have hsz:R.s.Sz:=Yl E;have hol:R.out.length<=8:=by
  by_cases d:R.ph=0
  .rw[hokR.n0 d];omega
  rw[hokR.n d];exact h8
 have hl8:=λi=>Vo hokR hz i;refine bE R.cells.toArray λr1 w1 k1=>bg (Jn (J k1.aK) hok) ?_;intro v w2 F;obtain⟨p,X,rfl,Q,hp⟩:∃(p:OA) (X:bP),v=.pointer p/\St w w2 (Sep [X,ay r1 R.cells.toArray 45,emp])/\((R.ph=0/\p=none)\/(R.ph≠0/\∃(g:Nat) (I:Ck),p=qs g/\I.er=R.C.er/\X=held (I.Rd g))):=by
  rcases F with⟨d,rfl,c⟩|⟨d,g,I,rfl,e,Q⟩
  .exact⟨none,emp,rfl,LM (k1.quiet c),.inl ⟨d,rfl⟩⟩
  exact⟨_,_,rfl,k1.and Q,.inr ⟨d,g,I,rfl,e,rfl⟩⟩
 let M:List bP:=[X,ay r1 R.cells.toArray 45,emp];have Q:St w w2 (Sep M):=Q;refine⟨p,rfl,bg (VP (J Q.aK) hok) ?_⟩;rintro _ w3 ⟨rfl,rfl⟩;have T:=Q.quiet (aZ.drew w3 []);refine⟨_,_,rfl,λb w4=>b=false/\St w w4 (Sep M),?_,_,T.aj 1 rfl 4,bg (N7 (J T.aK)) ?_⟩
 rotate_left
 .rintro _ w4 ⟨rfl,rfl⟩;refine⟨_,rfl,T.aj 1 rfl 4,cF (show(R.ph !=R.ph)=false by simp) (Ex8<|Ex4<|⟨T.bA 1 5 rfl rfl,bg (Ut (J T.aK) hok) ?_⟩)⟩;rintro _ w5 ⟨j,m,rfl,K⟩;have f:St w w5 (Sep (held j.In::M)):=T.and K;refine Ex8<|Ex4<|⟨rfl,f.bA 2 5 rfl rfl,bF (Qh (f.eu 0 rfl) (hR.aK f.aK).s (show j.er=R.s.er from m) hsz) λU k=>?_⟩;have r:St w U (Sep M):=(f.quiet k).aM [1,2,3];refine⟨_,rfl,cF rfl ⟨_,r.aj 1 rfl 33,kR (He (J r.aK) hok) ⟨_,rfl,r.aj 1 rfl 33,cF (show(R.dig !=R.dig)=false by simp) ⟨_,r.aj 1 rfl 4,cF ?_ ⟨_,r.aj 1 rfl 4,cF ?_ ⟨_,r.aj 1 rfl 31,?_,r⟩⟩⟩⟩⟩⟩
  .rcases hp with⟨d,rfl⟩|⟨d,g,I,rfl,_,_⟩
   .rw[d];rfl
   show(!((false:Bool)==(R.ph==0)))=false;rw[aC.2 d];rfl
  .show(!(decide (R.ph=4)==(R.ph==4)))=false
   by_cases a:R.ph=4
   .rw[a];rfl
   rw[dF a,aC.2 a];rfl
  show((if R.ph=4 then R.dec else 0) !=R.dec)=false
  by_cases a:R.ph=4
  .rw[ag a];simp
  rw[af a,hd a];rfl
 rintro w4 b4 ⟨rfl,k4⟩-;refine cF rfl ⟨λb w5=>b=false/\St w w5 (Sep M),?_,?_⟩
 rotate_left
 .have K:=k4.quiet (aZ.drew w4 []);rcases hp with⟨d,rfl⟩|⟨d,g,I,rfl,e,rfl⟩
  .exact cF rfl ⟨rfl,K⟩
  have H:I.p=R.C.p:=show I.er.p=R.C.er.p by rw[e]
  have k:I.ov=R.C.ov:=show I.er.ov=R.C.er.ov by rw[e]
  refine cT rfl ⟨R.C.p,K.bA 1 18 rfl rfl,K.qu (Px (K.eu 0 rfl)) λU f=>⟨_,rfl,f.bA 1 18 rfl rfl,cF (by rw[H];simp[I6.beq]) ⟨_,f.aj 1 rfl 27,kR (Wp (f.eu 0 rfl)) ⟨_,rfl,f.aj 1 rfl 27,cF (by rw[k];simp) ⟨_,_,_,f.aj 1 rfl 17,bg (O9 (J f.aK) hok d) ?_⟩⟩⟩⟩⟩;rintro _ w8 ⟨j,o,q,el,rfl,k8⟩;have t:=St.cat (l:=[Is o q j,held (tW j)]) (f.and k8);have a:=(E.c d).ok;have L:=a.cl;have Lf:j.map Rn.er=R.C.cl.map Rn.er:=by
   rw[el];show(R.C.cl.map Rn.er).map Rn.er=_;rw[cE];rfl
  have G:j.length=R.C.cl.length:=by have:=congrArg List.length Lf;simpa using this
  have m:=(hR.aK t.aK).C;refine⟨_,_,_,rfl,t.aj 3 rfl 17,bg (Qj (St.rd Rn.len (t.out 0 rfl)) (t.eu 1 rfl) m.cl m.i Lf (by omega) λx hx=>?_) ?_⟩
  .have:x.er∈R.C.cl.map Rn.er:=by rw[<-Lf];exact bV hx
   obtain⟨y,N,V⟩:=aN.1 this;have A:=(a.cz y N).ask;have Y:x.ask=y.ask:=show x.er.ask=y.er.ask by rw[V]
   have D:R.C.s.bd.length=R.s.bd.length:=by rw[hokR.cs d]
   rw[Y,A,D];omega
  rintro _ w9 ⟨rfl,D⟩;exact⟨_,rfl,rfl,(t.quiet D).aM [2,3,4]⟩
 rintro w5 b5 ⟨rfl,K⟩-;refine cF rfl ⟨λi U m=>∃k:Nat,i=(k:Int)-1/\k<=R.out.length+2/\m=R.out.length+2-k/\St w U (Sep M),⟨R.out.length+2,0,rfl,by omega,by omega,K⟩,?_⟩;clear K k4 T Q k1;rintro U m i ⟨k,hi,hk,hm,f⟩-;refine⟨_,_,_,f.aj 1 rfl 30,?_⟩
 by_cases hlt:i<=(R.out.length:Int)
 .refine di hlt ⟨λb w7=>b=decide (0<=i/\i<(R.out.length:Int))/\St w w7 (Sep M),?_,?_⟩
  rotate_left
  .refine cBq (λd=>⟨_,_,_,f.aj 1 rfl 30,?_,f⟩) λd=>⟨(dF λk=>d k.1).symm,f⟩
   by_cases A:i<(R.out.length:Int)
   .rw[dT A,dT ⟨d,A⟩]
   rw[dF A,dF λk=>A k.2]
  rintro w7 O ⟨D,r⟩-;refine bg (V9 (J r.aK) hok h8 (i:=i)) ?_;intro v w8 F;obtain⟨y,L,k8,rfl,o,V⟩:∃(y:Xv) (L:Bool),St w w8 (Sep (held y.In::M))/\v=.tuple #[.agg y.cells.toArray,.bool L]/\L=(O&&R.has.getD i.toNat false)/\(L=true->y.er=(R.dV.er.bd.getD i.toNat gR).x):=by
   rw[D,<-(hl8 i).2];rcases F with⟨A,rfl,c⟩|⟨A,y,V,rfl,kk⟩
   .exact⟨gj,false,(r.quiet c).oM wk,rfl,A.symm,λh=>by cases h⟩
   exact⟨y,true,r.and kk,rfl,A.symm,λ_=>V⟩
  refine⟨_,y.u,Ex4 ⟨_,rfl,k8.aY gj.cells.toArray λr2 w9 t=>t.aR 0 rfl y.cells rfl y.one λH G=>?_⟩⟩;let N:List bP:=ay r2 y.cells.toArray 73::held y.In::M;have G:St w H (Sep N):=G;have a:=G.quiet (aZ.drew H []);refine⟨λb c=>b=false/\St w c (Sep N),?_,bg (ZN (J a.aK) hok h8 (i:=i)) ?_⟩
  .rintro c b ⟨rfl,a⟩-;refine cF rfl ⟨R.out.length+2-(k+1),by omega,k+1,?_,by omega,rfl,a.aM [2,3,4]⟩;rw[gC (by omega)];omega
  rintro _ c ⟨rfl,rfl⟩;rw[(hl8 i).1,<-D];refine⟨_,rfl,?_⟩
  by_cases hc:0<=i/\i<(R.out.length:Int)
  rotate_left
  .have e:O=false:=D.trans (dF hc);subst e;have e2:L=false:=o;subst e2;exact cF rfl (cF rfl (cF rfl (cF rfl (cF rfl ⟨rfl,a⟩))))
  have e:O=true:=D.trans (dT hc);subst e;obtain⟨j,rfl⟩:=cZ hc.1;have P:j<R.out.length:=by omega
  have o:L=R.has.getD j false:=o;obtain⟨q1,hq1,hc1⟩:=GV (hR.aK a.aK).out P;obtain⟨q2,hq2,hc2⟩:=GV (hR.aK a.aK).has (k:=j) (by rw[hokR.h];exact P);refine cT rfl ⟨_,_,_,a.aj 3 rfl 30,av hq1 ⟨by omega,by omega,_,hc1,cF (by show(!((true&&R.out.getD j false)==R.out.getD j false))=false;simp) (cT rfl ⟨_,_,_,a.aj 3 rfl 28,av hq2 ⟨by omega,by rw[hokR.h];omega,_,hc2,cF (by rw[o];simp) ?_⟩⟩)⟩⟩
  cases L with
  |false=>exact cF rfl ⟨rfl,a⟩
  |true=>
  have hje:j<R.ex.length:=by rw[hokR.e];exact P
  have Z:R.ex[j]?=some (R.ex.getD j gj):=yd hje;have W:y.er=(R.ex.getD j gj).er:=by
   rw[V rfl];show(R.dV.er.bd.getD j gR).x=_;rw[oW,E0 P (by omega)];rfl
  obtain⟨q3,hq3,hc3⟩:∃q,R.ea=some q/\aU H.drew (Addr.add q (((j:Nat):Int).toNat*9)) 0 (R.ex.getD j gj).cells:=by rw[aq];exact(hR.aK a.aK).ex.at Z
  have hzx:fE y<=100000:=by
   have hx8:R.dV.bd[j]?=some (R.dV.bd.getD j gR):=yd (by show j<((List.range 8).map R.Fh).length;simp;omega);have A:=E.x _ (ak hx8) (by rw[E0 P (by omega)];exact o.symm);rw[E0 P (by omega)] at A;have Y:j4 y=0:=by rw[<-vz,W,vz];exact A
   have:=uM Y;omega
  exact cT rfl ⟨_,y.u,_,_,_,_,a.cellsIn 0 rfl,_,_,_,a.aj 3 rfl 29,av hq3 ⟨by omega,by omega,_,(R.ex.getD j gj).u,_,_,_,_,hc3,bF (Sl y hzx _ _ (a.eu 1 rfl) ((hR.aK a.aK).ei _ (ak Z)) W) λA Y=>⟨_,rfl,rfl,a.quiet Y⟩⟩⟩
 have r:=f.quiet (aZ.drew U []);refine dz hlt (Ex8<|Ex8<|Ex8<|Ex8<|Ex4<|⟨R.C.p,Ex8<|Ex8<|Ex4<|⟨_,_,r.cellsIn 1 rfl,bg (Gf (J r.aK) hok) ?_⟩⟩);rintro _ w8 ⟨a8,c8,rfl,k8⟩;have t:=St.cat (l:=[dB a8 c8 (dN R.dV.er R.C.er)]) (r.and k8);rw[Ar] at t⊢;have t:St w w8 (Sep (dB a8 c8 (dN R.dV R.C)::M)):=t;refine⟨_,_,_,rfl,t.cellsIn 2 rfl,bg (EA (hR.aK t.aK) hokR) ?_⟩;rintro _ H ⟨N,W,rfl,G⟩;have a:=St.cat (l:=[dB N W (dN R.dV R.C),emp]) (t.and G);refine⟨_,_,_,rfl,bg (WZ (J a.aK) hok) ?_⟩;intro v A F;have F:PrR H A v R.ph R.s.er (dN R.dV.er R.C.er):=F;obtain⟨O,V,b3,d1,d2,d3,rfl,k12⟩:=TM F;rw[Ar,ZS] at k12⊢;have q:(dN R.dV R.C).length<=320:=by
  by_cases d:R.ph=0
  .rw[dN,ag (show R.dV.ph=0 from d)];simp
  exact(C5 (E.so d)).n
 have hpl:=WV (ph:=R.ph) (S:=R.s) (l:=dN R.dV R.C) q h8;have j:=St.cat (l:=[pJ b3 d3 (zM R.ph R.s (dN R.dV R.C)).src,pJ O d1 (zM R.ph R.s (dN R.dV R.C)).cls,dB V d2 (zM R.ph R.s (dN R.dV R.C)).po,emp]) (a.and k12);refine⟨(zM R.ph R.s (dN R.dV R.C)).u1,(zM R.ph R.s (dN R.dV R.C)).u2,(zM R.ph R.s (dN R.dV R.C)).u3,Ex8 ⟨_,_,rfl,?_⟩⟩;let D:List bP:=[dB N W (dN R.dV R.C),emp,dB a8 c8 (dN R.dV R.C),X,ay r1 R.cells.toArray 45,emp];have j:St w A (Sep (pJ b3 d3 (zM R.ph R.s (dN R.dV R.C)).src::pJ O d1 (zM R.ph R.s (dN R.dV R.C)).cls::dB V d2 (zM R.ph R.s (dN R.dV R.C)).po::emp::D)):=j;generalize hD:zM R.ph R.s (dN R.dV R.C)=P at j hpl⊢;obtain⟨hp1,hp2,hp3⟩:=hpl;let P1:Array Value:=xm P.u1 P.u2 P.u3 (.slice O P.cls.length d1) (.slice V P.po.length d2);refine j.aY vo λr3 w14 k14=>k14.aR 0 rfl P1.toList rfl (nM _ _ _ rfl rfl) λw15 d=>?_;have d:St w w15 (Sep (ay r3 P1 66::pJ b3 d3 P.src::pJ O d1 P.cls::dB V d2 P.po::emp::D)):=d;refine Ex8<|Ex8<|Ex8<|Ex8<|Ex4<|⟨R.C.p,Ex8<|Ex8<|Ex4<|⟨_,_,d.cellsIn 9 rfl,bg (Ii (hR.aK d.aK) hokR) ?_⟩⟩;intro v w16 F;have F:PrR w15 w16 v R.ph R.s (dN R.dV R.C):=F;obtain⟨f1,f2,f3,g1,g2,g3,rfl,k16⟩:=TM F;rw[hD] at k16⊢;let P2:Array Value:=xm P.u1 P.u2 P.u3 (.slice f1 P.cls.length g1) (.slice f2 P.po.length g2);have k17:=St.cat (l:=[pJ f3 g3 P.src,pJ f1 g1 P.cls,dB f2 g2 P.po,emp]) (d.and k16);refine⟨P.u1,P.u2,P.u3,Ex8 ⟨_,_,rfl,k17.aY vo λr4 w18 k18=>k18.aR 0 rfl P2.toList rfl (nM _ _ _ rfl rfl) λw19 c=>?_⟩⟩;let Z:List bP:=ay r4 P2 66::pJ f3 g3 P.src::pJ f1 g1 P.cls::dB f2 g2 P.po::emp::ay r3 P1 66::pJ b3 d3 P.src::pJ O d1 P.cls::dB V d2 P.po::emp::D;have c:St w w19 (Sep Z):=c;refine⟨λb L=>b=false/\St w L (Sep Z),?_,cF (by simp) ⟨P.u1,P.u2,P.u3,Ex4 ⟨_,_,c.cellsIn 5 rfl,P.u1,P.u2,P.u3,Ex4 ⟨_,_,c.cellsIn 0 rfl,bg (Qi (St.rd gm (c.out 7 rfl)) (St.rd gm (c.out 2 rfl)) (by omega) (St.rd Of.len (c.out 8 rfl)) (St.rd Of.len (c.out 3 rfl)) (by omega)) ?_⟩⟩⟩⟩
 rotate_left
 .rintro _ L ⟨rfl,y⟩;have e:=c.quiet y;exact⟨_,rfl,cF rfl (bF (AF (St.rd gm (e.out 6 rfl)) (St.rd gm (e.out 1 rfl)) (by omega)) λo Y=>⟨_,rfl,cF rfl ⟨by simp,e.quiet Y⟩⟩)⟩
 rintro L b20 ⟨rfl,e⟩-;refine cF rfl ⟨λi o m=>∃k:Nat,i=k/\k<=(dN R.dV R.C).length/\m=(dN R.dV R.C).length-k/\St w o (Sep Z),⟨(dN R.dV R.C).length,0,rfl,by omega,by omega,e⟩,?_⟩;rintro o m i ⟨k,rfl,hk2,hm2,k21⟩-
 by_cases Y:(k:Int)<((dN R.dV R.C).length:Int)
 .obtain⟨x,hx⟩:=dX (dN R.dV R.C) k (by omega);have y:=k21.quiet (aZ.drew o []);obtain⟨q1,e1,t1⟩:=sj (St.rd Of.len (y.out 12 rfl)) hx;obtain⟨q2,e2,t2⟩:=sj (St.rd Of.len (y.out 10 rfl)) hx;exact di Y (av e1 ⟨by omega,by omega,x.b,x.want,x.v,t1,av e2 ⟨by omega,by omega,x.b,x.want,x.v,t2,cF (by simp[I6.beq]) (mS (by omega) y)⟩⟩)
 exact dz Y ⟨rfl,k21.aK⟩
def DpO(S:Sx)(C:Ck):Prop:=∀i,i<8->C.dp.getD i false=(S.bd.getD i gR).out
def Z7{R:Rs}(h:IV R)(d:R.ph≠0):DpO R.dV R.C:=λi e=>by
 rw[ur e,Rs.Fh]
 split
 .rename_i g;exact h.dp d i g
 rename_i g;have a:=(h.so.c d).ok.dp;have b:=h.n d;rw[h.cs d] at a;rw[au,aJ (by omega)];rfl
def KF{l:List Bd}{n i:Nat}{y:Bd}(h:y.out=(l.getD n gR).out):((l.set n y).getD i gR).out=(l.getD i gR).out:=by
 by_cases a:n<l.length
 .rw[nT a]
  split
  .rename_i e;rw[e];exact h
  rfl
 rw[kT (by omega)]
def zy(S:Sx)(n i:Nat):((gP S n).bd.getD i gR).out=(S.bd.getD i gR).out:=KF rfl
theorem Cb(S:Sx)(i:Nat):∀k,((jb S k).bd.getD i gR).out=(S.bd.getD i gR).out
 |0=>rfl
 |k+1=>(zy _ _ _).trans (Cb S i k)
def EB(C:Ck)(r:Nat):(jT C r).dp=C.dp/\(jT C r).ov=false:=by
 unfold jT;split<;>exact⟨rfl,rfl⟩
def TY{S:Sx}{C:Ck}{e:Ev}(p:S.bd.length=8)(a:e.kind≠1)(h:DpO S C)(m:e.kind=7->e.bidder.toNat<C.dp.length/\e.bidder.toNat<8):DpO (eU S C e) (gx S C e):=λi n=>by
 have f:=h i n
 by_cases b:e.kind=2
 .rw[eU,gx,af a,af a,ag b,ag b];exact f
 by_cases c:e.kind=3
 .rw[eU,gx,af a,af a,af b,af b,ag c,ag c]
  split<;>exact f
 by_cases d:e.kind=4
 .rw[eU,gx,af a,af a,af b,af b,af c,af c,ag d,ag d];exact f
 by_cases j:e.kind=5
 .rw[eU,gx,af a,af a,af b,af b,af c,af c,af d,af d,ag j,af (by omega),af (by omega)];exact f.trans (KF (y:={S.bd.getD e.bidder.toNat gR with x:=(fV S.s.ps e.text).1,has:=true}) rfl).symm
 by_cases k:e.kind=6
 .rw[eU,gx,af a,af a,af b,af b,af c,af c,af d,af d,af j,ag k,af (by omega),af (by omega)];exact f.trans (zy _ _ _).symm
 by_cases g:e.kind=7
 .rw[eU,gx,af a,af a,af b,af b,af c,af c,af d,af d,af j,af k,ag g,ag g,zy];obtain⟨l,o⟩:=m g;show(C.dp.set e.bidder.toNat true).getD i false=((S.bd.set e.bidder.toNat {S.bd.getD e.bidder.toNat gR with out:=true}).getD i gR).out;rw[nT l,nT (by omega)]
  split
  .rfl
  exact f
 by_cases l:e.kind=8
 .rw[eU,gx,af a,af a,af b,af b,af c,af c,af d,af d,af j,af k,af g,af g,ag l,ag l,(EB C _).1];exact f.trans (Cb S i 8).symm
 rw[eU,gx,af a,af a,af b,af b,af c,af c,af d,af d,af j,af k,af g,af g,af l,af l];unfold tN
 split<;>exact f
def TZ{S:Sx}{C:Ck}{e:Ev}(h:S.ph=1->C.ov=false)(a:(eU S C e).ph=1):(gx S C e).ov=false:=by
 by_cases b:e.kind=1
 .rw[gx,ag b];rfl
 by_cases c:e.kind=2
 .rw[eU,af b,ag c] at a;rw[gx,af b,ag c];exact h a
 by_cases d:e.kind=3
 .rw[eU,af b,af c,ag d] at a;rw[gx,af b,af c,ag d];show jG C=false
  cases g:jG C with
  |false=>rfl
  |true=>rw[g,ag rfl] at a;exact absurd (show(2:Int)=1 from a) (by decide)
 by_cases f:e.kind=4
 .rw[eU,af b,af c,af d,ag f] at a;exact absurd (show(2:Int)=1 from a) (by decide)
 by_cases k:e.kind=8
 .rw[gx,af b,af c,af d,af f,af (by omega),ag k];exact(EB C _).2
 by_cases i:e.kind=7
 .rw[eU,af b,af c,af d,af f,af (by omega),af (by omega),ag i] at a;rw[gx,af b,af c,af d,af f,ag i];exact h a
 rw[gx,af b,af c,af d,af f,af i,af k];refine h ?_
 by_cases j:e.kind=5
 .rw[eU,af b,af c,af d,af f,ag j] at a;exact a
 by_cases l:e.kind=6
 .rw[eU,af b,af c,af d,af f,af j,ag l] at a;exact a
 rw[eU,af b,af c,af d,af f,af j,af l,af i,af k,tN] at a
 split at a
 .exact absurd (show(4:Int)=1 from a) (by decide)
 exact absurd (show(3:Int)=1 from a) (by decide)
def Uf{R R':Rs}{v:Ev}(e:IV R)(x:tK R.dV R.C v=0)(hi:v.In)(q:R'.dV.er=(vZ R.dV R.C v).er)(p:R'.C.er=(XX R.dV R.C v).er)(B:R'.has.length=R'.out.length)(A:R'.ex.length=R'.out.length)(hc:(v.kind=1/\R'.out.length=R'.s.bd.length/\R'.C.s=R'.s)\/(v.kind≠1/\R'.out.length=R.out.length/\R'.s=R.s/\R'.C.s=R.C.s)):IV R':=by
 obtain⟨F,J⟩:=Dv x;obtain⟨y,L,w,I,M⟩:=tF F;obtain⟨G,H⟩:=Nf e.so x hi;have j:R'.ph=(eU R.dV R.C v).ph:=show R'.dV.er.ph=_ from(congrArg Sx.ph q).trans rfl;have m:R'.ph≠0:=by rw[j];exact H
 have k:v.kind≠1->R.ph≠0:=λf h=>f (N9 (Ab y) (by have:R.dV.ph=0:=h;rw[<-this];exact w));have o:=tJ.er G q p;have E:R'.out.length=R'.s.bd.length:=by
  rcases hc with⟨_,a,_⟩|⟨f,a,b,_⟩
  .exact a
  rw[a,b];exact e.n (k f)
 have t:R'.C.dp=(gx R.dV R.C v).dp:=show R'.C.er.dp=_ from(congrArg Ck.dp p).trans rfl;have r:R'.dV.bd.map Bd.er=(eU R.dV R.C v).bd.map Bd.er:=show R'.dV.er.bd=_ from(congrArg Sx.bd q).trans rfl;have u:∀i,i<8->(R'.Fh i).out=((eU R.dV R.C v).bd.getD i gR).out:=λi z=>by
  have a:((R'.dV.bd.map Bd.er).getD i gR).out=(((eU R.dV R.C v).bd.map Bd.er).getD i gR).out:=by rw[r]
  have g:∀l:List Bd,((l.map Bd.er).getD i gR).out=(l.getD i gR).out:=λl=>by
   rw[au,au,aL]
   cases l[i]? <;> rfl
  rw[g,g,ur z] at a;exact a
 refine⟨o,λ_=>E,λh=>absurd h m,B,A,λ_=>?_,λh=>?_,λ_ i D=>?_⟩
 .rcases hc with⟨_,_,a⟩|⟨f,_,b,c⟩
  .exact a
  rw[c,b];exact e.cs (k f)
 .have a:R'.C.ov=(gx R.dV R.C v).ov:=show R'.C.er.ov=_ from(congrArg Ck.ov p).trans rfl;rw[a];exact TZ (λg=>e.ov g) (j ▸ h)
 have g:R'.s.bd.length<=8:=(o.so m).bd.l2;have i8:i<8:=by omega
 have a:=u i i8;rw[Rs.Fh,ag D] at a;have a:R'.out.getD i false=((eU R.dV R.C v).bd.getD i gR).out:=a;rw[t,a]
 by_cases f:v.kind=1
 .rw[gx,eU,ag f,ag f];have b:R.ph=0:=by
   rw[f] at w;have:iK 1 R.ph=true:=w;simpa[iK] using this
  show(List.replicate (vL v.text).bd.length false).getD i false=(R.dV.bd.getD i gR).out;rw[T8,ur i8,I8 (e.n0 b)];rfl
 refine TY e.so.b8 f (Z7 e (k f)) (λc=>?_) i i8;have K:v.bidder<(R.s.bd.length:Int):=I (by rw[c];rfl);have b:=(lK y hi.d).b;have a:R.C.dp.length=R.C.s.bd.length:=(e.so.c (k f)).ok.dp;rw[e.cs (k f)] at a;have g:R.s.bd.length<=8:=(e.so.so (k f)).bd.l2;omega
def acK(w0:ah)(R:Rs)(v:Ev)(M:List bP):KP:=λr b=>∃a:Rs,r=.tuple #[.agg a.cells.toArray,iv (tK R.dV R.C v)]/\St w0 b (Sep (held a.C.gi::held a.kz::M))/\IV a/\(tK R.dV R.C v=0->a.dV.er=(vZ R.dV R.C v).er/\a.C.er=(XX R.dV R.C v).er)/\(tK R.dV R.C v≠0->a=R)
set_option maxHeartbeats 2000000 in
theorem Mi{w0 w:ah}{R:Rs}{v:Ev}{M:List bP}(s:St w0 w (Sep (held R.C.gi::held R.kz::M)))(hok:IV R)(hi:v.In)(htx:v.text.length<=80000):
  CP 11 #[.agg R.cells.toArray,v.v] w ((acK w0 R v M)):=by
 have o:v.text.length<=1000000000000:=by omega
 refine @Ko _ _ _ _ _ _ _ _ _ _ _ _ _ _ _ _ _ _ _ _ _ _ _ _ _ _ _ _ _ _ _ _ _ _ _ _ R.C.p _ _ _ _ _ _ _ _ _ _ _ _ _ _ _ _ _ _ _ _ _ _ _ _ _ v.want _ _ _ _ (s.aY R.cells.toArray λA w1 s1=>s1.aY v.cells.toArray λr2 w2 s2=>s2.aY _ λB w3 O=>?_);let y:bP:=ay r2 v.cells.toArray 52;obtain⟨Z,r,O⟩:∃Z:Array Value,Z.size=34/\St w0 w3 (Sep (ay B Z 45::y::ay A R.cells.toArray 45::held R.C.gi::held R.kz::M)):=⟨_,rfl,O⟩;refine⟨_,_,_,v.want,_,_,O.cellsIn 1 rfl,O.qu (Et w3 hi o) λw4 a=>⟨_,rfl,?_⟩⟩
 by_cases g:kn v=0
 rotate_left
 .have c:tK R.dV R.C v=kn v:=by
   have:pn R.dV v=kn v:=by rw[pn,ag g]
   rw[tK,this,ag g]
  exact gM g (Ex8<|Ex8<|Ex8<|Ex8<|Ex4<|⟨R.C.p,Ex8<|Ex8<|Ex4<|⟨_,_,a.cellsIn 2 rfl,a.aR 0 rfl R.cells (by rw[r];rfl) R.one λK e=>(Ex8<|Ex8<|Ex8<|Ex8<|Ex4<|⟨R.C.p,Ex8<|Ex8<|Ex4<|⟨_,_,St.cellsIn (cs:=R.cells.toArray) e 0 rfl,R,by rw[c];rfl,e.second.second.second,hok,λh=>absurd (c.symm.trans h) g,λ_=>rfl⟩⟩)⟩⟩)
 have k:pn R.dV v=if 600<=R.cnt then 18 else if iK v.kind R.ph=false then 10 else if gD v.kind=true/\(R.s.bd.length:Int)<=v.bidder then 6 else if gD v.kind=true/\(R.dV.bd.getD v.bidder.toNat gR).out=true then 10 else 0:=by rw[pn,af (λh=>h g)];rfl
 have N:∀{x:Int},x≠0->pn R.dV v=x->tK R.dV R.C v=x:=λ{x} hx h=>by rw[tK,h,ag hx]
 have hR:=lK g hi.d;have W:=Ab g;refine iI g ⟨_,a.aj 2 rfl 32,?_⟩
 by_cases f:600<=R.cnt
 .have c:=N (x:=18) (by decide) (by rw[k,ag f]);exact di f (Ex8<|Ex8<|Ex8<|Ex8<|Ex4<|⟨R.C.p,Ex8<|Ex8<|Ex4<|⟨_,_,a.cellsIn 2 rfl,a.aR 0 rfl R.cells (by rw[r];rfl) R.one λK e=>(Ex8<|Ex8<|Ex8<|Ex8<|Ex4<|⟨R.C.p,Ex8<|Ex8<|Ex4<|⟨_,_,St.cellsIn (cs:=R.cells.toArray) e 0 rfl,R,by rw[c];rfl,e.second.second.second,hok,λh=>absurd (c.symm.trans h) (by decide),λ_=>rfl⟩⟩)⟩⟩)
 rw[af f] at k;refine dz f ⟨_,a.aj 1 rfl 0,_,a.aj 2 rfl 4,bg (Fs w4 v.kind R.ph) ?_⟩;rintro _ w7 ⟨rfl,rfl⟩;refine⟨_,rfl,?_⟩
 cases hp:iK v.kind R.ph with
 |false=>
  have c:=N (x:=10) (by decide) (by rw[k,ag hp]);exact cT rfl (Ex8<|Ex8<|Ex8<|Ex8<|Ex4<|⟨R.C.p,Ex8<|Ex8<|Ex4<|⟨_,_,a.cellsIn 2 rfl,a.aR 0 rfl R.cells (by rw[r];rfl) R.one λK e=>(Ex8<|Ex8<|Ex8<|Ex8<|Ex4<|⟨R.C.p,Ex8<|Ex8<|Ex4<|⟨_,_,St.cellsIn (cs:=R.cells.toArray) e 0 rfl,R,by rw[c];rfl,e.second.second.second,hok,λh=>absurd (c.symm.trans h) (by decide),λ_=>rfl⟩⟩)⟩⟩)
 |true=>
 rw[af (by rw[hp];decide)] at k;refine cF rfl ⟨λw9=>St w0 w9 (Sep (ay B Z 45::y::ay A R.cells.toArray 45::held R.C.gi::held R.kz::M))/\pn R.dV v=0,?_,?_⟩
 .rintro w9 ⟨s9,H⟩-;have eE:tK R.dV R.C v=iq R.dV R.C v:=by rw[tK,H,af (λh=>h rfl)]
  have t9:=St.xo (m:=M) [ay B Z 45,y,ay A R.cells.toArray 45,held R.C.gi,held R.kz] [3,4,0,1,2] s9;refine Ex8<|Ex8<|Ex8<|Ex8<|Ex4<|⟨R.C.p,Ex8<|Ex8<|Ex4<|⟨_,_,s9.cellsIn 2 rfl,_,_,_,v.want,_,_,s9.cellsIn 1 rfl,bg (Kz t9 hok H hi htx) ?_⟩⟩;rintro _ w10 ⟨R',rfl,s10,V,E⟩;refine Ex8<|Ex8<|Ex8<|Ex8<|Ex4<|⟨R'.C.p,Ex8<|Ex8<|Ex4<|⟨_,_,_,rfl,s10.aY _ λr4 w11 q=>?_⟩⟩;obtain⟨P,X,q⟩:∃P:Array Value,P.size=34/\St w0 w11 (Sep (ay r4 P 45::held R'.C.gi::held R'.kz::ay B Z 45::y::ay A R.cells.toArray 45::M)):=⟨_,rfl,q⟩;refine q.aR 0 rfl R'.cells (by rw[X];rfl) R'.one λw12 t=>?_
  by_cases z:iq R.dV R.C v=0
  rotate_left
  .have b:=E z;subst b;have c:=eE;have t12:=St.xo (m:=M) [ay r4 R'.cells.toArray 45,held R'.C.gi,held R'.kz,ay B Z 45,y,ay A R'.cells.toArray 45] [3,4,5,1,2] t;exact gM z (Ex8<|Ex8<|Ex8<|Ex8<|Ex4<|⟨R'.C.p,Ex8<|Ex8<|Ex4<|⟨_,_,t12.cellsIn 2 rfl,t12.aR 0 rfl R'.cells (by rw[r];rfl) R'.one λK e=>(Ex8<|Ex8<|Ex8<|Ex8<|Ex4<|⟨R'.C.p,Ex8<|Ex8<|Ex4<|⟨_,_,St.cellsIn (cs:=R'.cells.toArray) e 0 rfl,R',by rw[c];rfl,e.second.second.second,hok,λh=>absurd (c.symm.trans h) z,λ_=>rfl⟩⟩)⟩⟩)
  obtain⟨f1,f2,f3,f4,f5⟩:=V z;have Q:tK R.dV R.C v=0:=by rw[eE,z]
  refine cF (by rw[z];rfl) ⟨_,_,_,v.want,_,_,t.cellsIn 4 rfl,bF (KA w12 hi o) λw14 S=>?_⟩;rw[ag g];have I:=t.quiet S;have G:R'.cnt=R.cnt:=by
   have:R'.dV.er.cnt=(eU R.dV R.C v).er.cnt:=congrArg Sx.cnt f1;exact this.trans (DI R.dV R.C v).1
  have F:=hok.so.cnt;have F:0<=R.cnt/\R.cnt<=600:=F;have Y:0<=R.dig/\R.dig<18446744073709551616:=hok.so.dig;let L:Rs:={R' with cnt:=R'.cnt+1};refine⟨_,_,rfl,_,I.aj 0 rfl 32,I.cL 0 rfl (j:=32) (by show 32<34;decide) rfl λw15 l=>?_⟩;rw[fQ (n:=R'.cnt+1) ⟨by omega,by omega⟩] at l;have T:R'.cells.toArray.setIfInBounds 32 (iv (R'.cnt+1))=L.cells.toArray:=by simp[L,Rs.cells,Po.cells,Se.arr,Ck.cells,I6.on]
  rw[T] at l;have hdn:(R.dig.toNat:Int)=R.dig:=gN Y.1;refine⟨R.dig,(l.aj 5 rfl 33).trans rfl,?_⟩;rw[<-hdn];refine l.qu (Mk w15 R.dig.toNat (by omega) (gq v) (by have:=FT g;omega)) λw16 s16=>?_;let b:Rs:={R' with cnt:=R'.cnt+1,dig:=((o6 R.dig.toNat (gq v):Nat):Int)};refine⟨_,rfl,s16.cL 0 rfl (j:=33) (by show 33<34;decide) rfl λw17 u=>?_⟩;have U:L.cells.toArray.setIfInBounds 33 (.int .u64 ((o6 R.dig.toNat (gq v):Nat):Int))=b.cells.toArray:=by simp[b,L,Rs.cells,Po.cells,Se.arr,Ck.cells,I6.on]
  rw[U] at u;have D:b.dV.er=(vZ R.dV R.C v).er:=by
   show({R'.dV.er with cnt:=R'.cnt+1,dig:=((o6 R.dig.toNat (gq v):Nat):Int)}:Sx)={(eU R.dV R.C v).er with cnt:=R.cnt+1,dig:=((o6 R.dig.toNat (gq v):Nat):Int)};rw[f1,G]
  refine Ex8<|Ex8<|Ex8<|Ex8<|Ex4<|⟨b.C.p,Ex8<|Ex8<|Ex4<|⟨_,_,u.cellsIn 0 rfl,u.aR 3 rfl b.cells (by rw[r];rfl) b.one λw18 J=>(Ex8<|Ex8<|Ex8<|Ex8<|Ex4<|⟨b.C.p,Ex8<|Ex8<|Ex4<|⟨_,_,St.cellsIn (cs:=b.cells.toArray) J 3 rfl,b,by rw[Q];rfl,?_,?_,λ_=>⟨?_,f2⟩,λh=>absurd Q h⟩⟩)⟩⟩
  .have t18:=St.xo (m:=M) [ay r4 b.cells.toArray 45,held R'.C.gi,held R'.kz,ay B b.cells.toArray 45,y,ay A R.cells.toArray 45] [1,2] J;exact St.weak t18 (dU.right (dU.left (jY λw h=>(⟨h.s,h.has,h.ex,h.ei,h.out⟩:b.kz w))))
  .exact Uf (R':=b) hok Q hi D f2 f3 f4 f5
  exact D
 refine⟨λb D=>b=gD v.kind/\D=w7,?_,_,a.aj 1 rfl 0,?_⟩
 .rintro J _ ⟨rfl,rfl⟩-
  cases hn:gD v.kind with
  |false=>exact cF rfl ⟨a,by rw[k,af (λh=>by rw[hn] at h;cases h.1),af (λh=>by rw[hn] at h;cases h.1)]⟩
  |true=>
   have u:R.ph≠0:=λh=>by
    rw[h] at hp;have:=N9 W hp;rw[this] at hn;cases hn
   have t:=hok.n u;have F:=hR.b.1;have L:R.s.bd.length<=8:=(hok.so.so u).bd.l2;refine cT rfl ⟨_,a.aj 1 rfl 1,_,_,_,a.aj 2 rfl 30,?_⟩
   by_cases g1:v.bidder>=(R.out.length:Int)
   .have c:=N (x:=6) (by decide) (by rw[k,ag ⟨hn,by rw[<-t];exact g1⟩]);exact di g1 (Ex8<|Ex8<|Ex8<|Ex8<|Ex4<|⟨R.C.p,Ex8<|Ex8<|Ex4<|⟨_,_,a.cellsIn 2 rfl,a.aR 0 rfl R.cells (by rw[r];rfl) R.one λK e=>(Ex8<|Ex8<|Ex8<|Ex8<|Ex4<|⟨R.C.p,Ex8<|Ex8<|Ex4<|⟨_,_,St.cellsIn (cs:=R.cells.toArray) e 0 rfl,R,by rw[c];rfl,e.second.second.second,hok,λh=>absurd (c.symm.trans h) (by decide),λ_=>rfl⟩⟩)⟩⟩)
   rw[af (λh=>g1 (by rw[t];exact h.2))] at k;obtain⟨n,l⟩:∃n:Nat,v.bidder=n:=⟨v.bidder.toNat,by omega⟩;have E:(R.dV.bd.getD v.bidder.toNat gR).out=R.out.getD n false:=by rw[l,aq,ur (by omega),Rs.Fh,ag (by omega)]
   refine dz g1 ⟨_,_,_,a.aj 2 rfl 30,_,a.aj 1 rfl 1,?_⟩;rw[l] at g1⊢;have I:=a.eu 4 rfl;obtain⟨q,H,G⟩:=I.out.at (i:=n) (x:=R.out.getD n false) (by rw[au,gE (by omega)];rfl);have z:J.cell? (Addr.add q (((n:Nat):Int).toNat*1))=some (.bool (R.out.getD n false)):=by
    have:=bX G 0 _ rfl;rw[Addr.add_add] at this;rw[aq];exact this
   refine av H ⟨by omega,by omega,_,z,?_⟩
   cases ho:R.out.getD n false with
   |true=>
    have c:=N (x:=10) (by decide) (by rw[k,ag ⟨hn,E.trans ho⟩]);exact cT rfl (Ex8<|Ex8<|Ex8<|Ex8<|Ex4<|⟨R.C.p,Ex8<|Ex8<|Ex4<|⟨_,_,a.cellsIn 2 rfl,a.aR 0 rfl R.cells (by rw[r];rfl) R.one λK e=>(Ex8<|Ex8<|Ex8<|Ex8<|Ex4<|⟨R.C.p,Ex8<|Ex8<|Ex4<|⟨_,_,St.cellsIn (cs:=R.cells.toArray) e 0 rfl,R,by rw[c];rfl,e.second.second.second,hok,λh=>absurd (c.symm.trans h) (by decide),λ_=>rfl⟩⟩)⟩⟩)
   |false=>exact cF rfl ⟨a,by rw[k,af (λh=>by rw[E,ho] at h;cases h.2)]⟩
 by_cases c:v.kind=2
 .exact gM c ⟨by rw[c];rfl,rfl⟩
 exact iI c ⟨_,a.aj 1 rfl 0,cBq (λe=>⟨_,a.aj 1 rfl 0,nI.2 (by omega),rfl⟩) λe=>⟨(dF (by omega)).symm,rfl⟩⟩
def Cp:Po:=⟨1,0,1,2⟩
def wJ:List Ev:=[⟨1,0,0,z6,[112,114,111,100,117,99,116,32,97,32,49,32,48,32,49,32,48,10,98,105,100,100,101,114,32,120,32,48,32,48,32,53,10,98,105,100,100,101,114,32,121,32,48,32,48,32,53,10],0⟩,⟨4,0,0,z6,[],0⟩,⟨5,1,0,z6,[123,97,58,49,125,64,55],0⟩,⟨9,0,0,z6,[],0⟩]
def aw3:Ev:=⟨3,0,0,z6,[],0⟩
def RC:Ev:=⟨10,0,0,z6,[],9⟩
def abg:tK (uA Cp) Q4 aw3=10:=by kernel_rfl
def acW:(List.range 4).all (λk=>tK (made Cp (wJ.take k)).1 (made Cp (wJ.take k)).2 (wJ.getD k aw3)==0)=true:=by kernel_rfl
def Lt:∀e∈wJ,e.In:=by
 intro e a;simp only[wJ,aP,dR,iS] at a;rcases a with rfl|rfl|rfl|rfl<;>exact⟨by show(0:Int)<=0;decide,by show(0:Int)<18446744073709551616;decide⟩
structure AwF (S:Sx) (C:Ck):Prop where
 o:dN S C=[⟨1,⟨1,0,0,0,0,0⟩,7⟩]
 k:(lQ S.s [⟨1,⟨1,0,0,0,0,0⟩,7⟩] 1).length=1
 p:S.ph=3
 d:(S.dig !=0)=true
 a:tK S C RC=0
 q:(vw S C RC).1.ph=4
 ok:tJ S C
def abd:dN (made Cp wJ).1 (made Cp wJ).2=[⟨1,⟨1,0,0,0,0,0⟩,7⟩]:=by kernel_rfl
def abc:(lQ (made Cp wJ).1.s [⟨1,⟨1,0,0,0,0,0⟩,7⟩] 1).length=1:=by kernel_rfl
def abe:(made Cp wJ).1.ph=3:=by kernel_rfl
def abb:((made Cp wJ).1.dig !=0)=true:=by kernel_rfl
def aba:tK (made Cp wJ).1 (made Cp wJ).2 RC=0:=by kernel_rfl
def abf:(vw (made Cp wJ).1 (made Cp wJ).2 RC).1.ph=4:=by kernel_rfl
def awF:AwF (made Cp wJ).1 (made Cp wJ).2:=⟨abd,abc,abe,abb,aba,abf,Am Cp wJ Lt⟩
abbrev wK:Prop:=∀w,CP 7 #[] w (λr a=>r=.bool true/\aZ w a [])
def aac(w:ah):CP 16 #[] w (λr c=>∃a:Nat,r=.slice (some ⟨a,0,none⟩) 4 4/\St w c (Sep [ay a (wJ.flatMap Ev.cells).toArray 52,emp])):=by
 exact(p6 tO.2).1 ((St.start w).one.aY (wJ.flatMap Ev.cells).toArray λa d b=>⟨a,rfl,b.aM [0,9]⟩)
def Xk{w0 w:ah}{l:List bP}{r1:Nat}(a:St w0 w (Sep l))(i:Nat)(e:l[i]?=some (ay r1 (wJ.flatMap Ev.cells).toArray 52)):iA 11 Ev.cells w (some ⟨r1,0,none⟩) wJ:=λj x b=>by
 match j,b with
 |0,rfl=>exact⟨_,_,rfl,by rw[gW];exact a.bA i 0 e rfl,rfl,rfl⟩
 |1,rfl=>exact⟨_,_,rfl,by rw[gW];exact a.bA i 11 e rfl,rfl,rfl⟩
 |2,rfl=>exact⟨_,_,rfl,by rw[gW];exact a.bA i 22 e rfl,rfl,rfl⟩
 |3,rfl=>exact⟨_,_,rfl,by rw[gW];exact a.bA i 33 e rfl,rfl,rfl⟩
def Eb{w0 w:ah}{L:List bP}(s:St w0 w (Sep L))(o:Po):CP 8 #[o.v] w (λr e=>∃b,r=pt b/\St w0 e (Sep (xH b (uA o) Q4::L))):=by
 refine bg (aas w o) ?_;rintro v f ⟨b,rfl,a⟩;have c:=St.cat (l:=[ay b (uA o).cells.toArray 78]) (s.and a);have d:=c.oM (NZ o);exact⟨_,rfl,b,rfl,AQ (NY o) rfl ⟨λ_=>rfl,λh=>absurd rfl h⟩ d.sP.sU⟩
def Lr{S:Sx}{C:Ck}{e:Ev}(h:tK S C e≠0):vw S C e=(S,C):=by rw[vw,af h]
set_option maxHeartbeats 1000000 in
theorem A6:wK:=by
 intro w;refine(p6 tO.2).2.1 (bg (Eb (St.start w).one Cp) ?_);rintro _ w1 ⟨b,rfl,Q⟩;refine⟨_,rfl,λx y=>x=false/\St w y (Sep (xH b (uA Cp) Q4::[emp])),?_,cF rfl (bg (tf Q (HN Cp) (e:=aw3) ⟨by show(0:Int)<=0;decide,by show(0:Int)<18446744073709551616;decide⟩) ?_)⟩
 rotate_left
 .rintro _ f ⟨rfl,c⟩;rw[abg];rw[Lr (by rw[abg];decide)] at c;exact⟨_,rfl,cF rfl (kR (He c (HN Cp)) ⟨_,rfl,rfl,c⟩)⟩
 rintro y x ⟨rfl,R⟩-;refine cF rfl (bg (aac y) ?_);rintro _ w3 ⟨A,rfl,M⟩;have T:=(St.cat (l:=[ay A (wJ.flatMap Ev.cells).toArray 52,emp]) (R.and M)).aM [2,0,9];refine⟨_,_,_,rfl,λn B m=>∃k:Nat,n=k/\k<=4/\m=4-k/\St w B (Sep [xH b (made Cp (wJ.take k)).1 (made Cp (wJ.take k)).2,ay A (wJ.flatMap Ev.cells).toArray 52,emp]),⟨4,0,rfl,by omega,by omega,T⟩,?_⟩;rintro B m n ⟨k,rfl,hk,hm,g⟩-
 by_cases t:(k:Int)<((4:Nat):Int)
 .have h:wJ[k]?=some (wJ.getD k aw3):=getD_at (by show k<4;omega);have f:=bw.1 acW k (by simp;omega);have f:tK (made Cp (wJ.take k)).1 (made Cp (wJ.take k)).2 (wJ.getD k aw3)=0:=by simpa using f
  generalize wJ.getD k aw3=e at h f;obtain⟨q,u,j⟩:=(Xk g 1 rfl).at h;have c:=Am Cp (wJ.take k) λe f=>Lt e (bC f);refine cT (dT t) (av u ⟨by omega,by omega,e.kind,e.bidder,e.round,e.want,bs e.text,e.digest,j,bF (tf g c (Lt e (ak h))) λv r=>?_⟩);rw[f];refine⟨_,rfl,cF rfl ⟨4-(k+1),by omega,k+1,fQ ⟨by omega,by omega⟩,by omega,rfl,?_⟩⟩;rw[bJ h,ye];exact r
 obtain rfl:k=4:=by omega
 rw[show wJ.take 4=wJ from rfl] at g;obtain⟨S,C,eq,F⟩:∃S C,made Cp wJ=(S,C)/\AwF S C:=⟨_,_,rfl,awF⟩;rw[eq] at g;have c:=F.ok;have r:(lQ S.s (dN S C) (dN S C).length).length=1:=by rw[F.o];exact F.k
 have z:=(D1 _ _ _).1.trans r;refine cF rfl (bg (Gf g c) ?_);rintro _ w6 ⟨E,J,rfl,N⟩;have v:=(St.cat (l:=[dB E J (dN S C)]) (g.and N)).aM [1,0,9];refine⟨_,_,_,rfl,bg (WY v c F.p) ?_⟩;generalize hO:lQ S.s (dN S C) (dN S C).length=O at r;generalize Z:qY S.s (dN S C) (dN S C).length=I at z;rw[F.o] at v⊢;rintro _ w7 (⟨f,_⟩|⟨_,D,G,X,H,K,Y,rfl,P⟩)
 .rw[r] at f;omega
 have U:=v.quiet P.aK;refine⟨dD S.s.ps,(qS S.s.ps S.s.sa).1,(qS S.s.ps S.s.sa).2,Ex8 ⟨_,_,rfl,U.aY vo λr9 w8 V=>V.aR 0 rfl (xm (dD S.s.ps) (qS S.s.ps S.s.sa).1 (qS S.s.ps S.s.sa).2 (.slice D (S.s.bd.map Br.cls).length H) (.slice G O.length K)).toList rfl (nM _ _ _ rfl rfl) λw9 j=>kR (N7 (j.out 1 rfl)) ?_⟩⟩;obtain⟨q,u,L⟩:=(St.rd Of.len (j.out 2 rfl)).at (i:=0) rfl;refine⟨_,rfl,cT (by rw[F.p];rfl) (cT rfl (av u ⟨by decide,by decide,_,⟨1,0,0,0,0,0⟩,_,L,cT rfl ⟨_,_,_,j.aj 0 rfl 19,cT (by rw[r];rfl) (cT (by rw[z];rfl) (cT rfl (kR (He (j.out 1 rfl) c) ⟨_,rfl,cT F.d (bF (tf (j.out 1 rfl) c (e:=RC) ⟨by show(0:Int)<=9;decide,by show(9:Int)<18446744073709551616;decide⟩) λW h=>?_)⟩)))⟩⟩))⟩;rw[F.a];refine⟨_,rfl,cT rfl (kR (N7 h) ?_)⟩;rw[F.q];exact⟨_,rfl,rfl,h.aK⟩
def Nv{S:Sx}{C:Ck}(d:Fc S):nY (XR S.k C) (λw=>∀q,S.k=some q->∃g,q=⟨g,0,none⟩/\C.Rd g w):=λw F c q a=>by
 by_cases b:S.ph=0
 .rw[d.1 b] at a;cases a
 obtain⟨g,e⟩:=d.2 b;rw[e] at a c
 cases a
 exact⟨g,rfl,BV w F c⟩
section
variable {w0 w:ah} {bx bY:Nat} {S Sy:Sx} {C Cy:Ck} {B:bP}
def ZL(bx bY:Nat)(S:Sx)(C:Ck)(Sy:Sx)(Cy:Ck)(B:bP):List bP:=[ay bY Sy.cells.toArray 78,XR Sy.k Cy,ay bx S.cells.toArray 78,held (BR S C),B]
def asY(s:St w0 w (Sep (ZL bx bY S C Sy Cy B)))(e:Sy.s=S.s)(d:Sy.bd=S.bd)(b:Fc Sy):St w0 w (star (xH bY Sy.er Cy.er) B):=by
 have f:=s.aM [1,3,0,4];have g:=f.kr (S:=BR Sy Cy) (Nv b) (cV _) (λw c a=>⟨⟨by rw[e];exact a.h.1,by rw[d];exact a.h.2⟩,c⟩);exact AQ rfl rfl b (g.aM [1,0,2])
def Xn(s:St w0 w (Sep [ay bx S.cells.toArray 78,held (BR S C),B]))(f:tJ S C)(E:Fc S):
  CP 15 #[pt bx] w (λr a=>∃(b:Nat) (p:OA) (c:Ck),r=pt b/\c.er=C.er/\Fc {S with k:=p}/\St w0 a (Sep (ZL bx b S C {S with k:=p} c B))):=by
 have d:=f.b8;obtain⟨n,o,q,r,t,y,z,A,D⟩:=iU d;refine X3.2.1 ?_;have e:=s.cellsIn 0 rfl;have a:=Sx.len d;have b:=MQ S;have k:=MO D;rw[k] at e a b;refine Ex8<|Ex8<|⟨_,_,_,n.x.u,Ex4 ⟨_,_,_,o.x.u,Ex4 ⟨_,_,_,q.x.u,Ex4 ⟨_,_,_,r.x.u,Ex4 ⟨_,_,_,t.x.u,Ex4 ⟨_,_,_,y.x.u,Ex4 ⟨_,_,_,z.x.u,Ex4 ⟨_,_,_,A.x.u,Ex8 ⟨_,e,s.aY (uA ⟨0,0,0,0⟩).cells.toArray λl J G=>G.aR 0 rfl _ (by rw[a];rfl) b λK g=>?_⟩⟩⟩⟩⟩⟩⟩⟩⟩;rw[<-k] at g;refine⟨S.k,by rw[g.aj 1 rfl];exact rM d,bg (G9 (g.eu 2 rfl) f E) ?_⟩;rintro v I ⟨p,c,rfl,h,i,F⟩;have H:St w0 I (Sep [XR p c,ay l S.cells.toArray 78,ay bx S.cells.toArray 78,held (BR S C),B]):=g.and F;refine⟨p,rfl,H.cL 1 rfl (j:=9) (by rw[nk d];decide) rfl λL m=>⟨l,p,c,rfl,h,i,?_⟩⟩;rw[aaz d] at m;exact m.aM [1,0,2,3,4]
end
def Aj{w:ah}{a:OA}{c:Nat}{l:List Ev}(h:iA 11 Ev.cells w a l):
  CP 6 #[.slice a l.length c] w (λr f=>∃b:Bool,r=.bool b/\f=w/\(b=false->l.length<=120/\∀e∈l,e.text.length<=80000)):=by
 refine tO.2.2.2.2.2.2.1 (cBq (λ_=>⟨true,rfl,rfl,λh=>by cases h⟩) λg=>⟨λn f m=>∃k:Nat,n=k/\k<=l.length/\m=l.length-k/\(∀e∈l.take k,e.text.length<=80000)/\f=w,⟨l.length,0,rfl,by omega,by omega,by simp,rfl⟩,?_⟩);rintro f m n ⟨k,rfl,s,t,i,rfl⟩-
 by_cases b:(k:Int)<(l.length:Int)
 .obtain⟨e,o⟩:=dX l k (by omega);obtain⟨q,r,j⟩:=h.at o;have p:=bX j 9 (sv e.text) rfl;refine di b (av r ⟨by omega,by omega,bs e.text,p,?_⟩)
  by_cases g2:(((bs e.text).size:Nat):Int)>5000
  .exact di g2 ⟨true,rfl,rfl,λh=>by cases h⟩
  have u:(bs e.text).size=e.text.length:=rfl;refine dz g2 (mS (by omega) ⟨λd hd=>?_,rfl⟩);rw[bJ o] at hd;rcases aB.1 hd with hd|hd
  .exact i d hd
  rw[aI.1 hd];omega
 obtain rfl:k=l.length:=by omega
 rw[aH] at i;exact dz b ⟨false,rfl,rfl,λ_=>⟨by omega,i⟩⟩
def xW(aw:wK){w0 w:ah}(hc:aZ w0 w []):CC 7 #[] w (λe d=>∃b,e=.returned (.bool b)/\(Value.bool b=.bool true/\aZ w0 d [])):=
 bg (aw _) λv f ⟨a,c⟩=>by subst a;exact⟨true,rfl,rfl,hc.trans c (by simp)⟩
def R0(o:Po):Rs:={o:=o,ph:=0,s:=jt,C:=Q4,has:=[],ex:=[],out:=[],dec:=0,cnt:=0,dig:=0,ha:=none,hc:=0,ea:=none,ec:=0,oa:=none,oc:=0}
def aaZ(o:Po):IV (R0 o):=⟨HN o,λh=>absurd rfl h,λ_=>rfl,rfl,rfl,λh=>absurd rfl h,λh=>absurd (show(0:Int)=1 from h) (by decide),λh=>absurd rfl h⟩
def aaP(w:ah):jt.In w:=(NZ (⟨0,0,0,0⟩:Po) w).h.1
def Ez(w:ah)(o:Po):CP 9 #[o.v] w (λr d=>r=.agg (R0 o).cells.toArray/\aZ w d []):=by
 exact aaV.2.1 (bE o.cells.toArray λe g c=>c.aY _ λf h a=>⟨_,_,_,_,a.cellsIn 1 rfl,a.aR 0 rfl (R0 o).cells rfl (R0 o).one λi b=>(Ex8<|Ex8<|Ex8<|Ex8<|Ex4<|⟨z6,Ex8<|Ex8<|Ex4<|⟨_,_,St.cellsIn (cs:=(R0 o).cells.toArray) b 0 rfl,rfl,b.aK⟩⟩)⟩)
def QJ(w0 a:ah)(X:Sx×Ck)(r:Nat)(B:List bP):Prop:=∃R:Rs,R.dV.er=X.1/\R.C.er=X.2/\IV R/\(R.ph≠4->R.dec=0)/\St w0 a (Sep (ay r R.cells.toArray 45::held R.C.gi::held R.kz::B))
def ab2(k:Int):iK k 4=false:=by
 unfold iK
 split
 .rfl
 split
 .rfl
 split
 .rfl
 split
 .rfl
 split<;>rfl
theorem ER(S:Sx):∀k,(jb S k).dec=S.dec
 |0=>rfl
 |k+1=>ER S k
def VW{S:Sx}{C:Ck}{e:Ev}(h:S.dec=0):(eU S C e).ph≠4->(eU S C e).dec=0:=by
 unfold eU
 split
 .exact λ_=>h
 split
 .exact λ_=>h
 split
 .split<;>exact λ_=>h
 split
 .exact λ_=>h
 split
 .exact λ_=>h
 split
 .exact λ_=>h
 split
 .exact λ_=>h
 split
 .have h:=(ER S 8).trans h;generalize jb S 8=X at h;exact λ_=>h
 unfold tN
 split
 .exact λg=>absurd rfl g
 exact λ_=>h
def W3{R R':Rs}{e:Ev}(k:IV R)(hd:R.ph≠4->R.dec=0)(i:tK R.dV R.C e=0->R'.dV.er=(vZ R.dV R.C e).er/\R'.C.er=(XX R.dV R.C e).er)(j:tK R.dV R.C e≠0->R'=R):R'.dV.er=(vw R.dV.er R.C.er e).1/\R'.C.er=(vw R.dV.er R.C.er e).2/\(R'.ph≠4->R'.dec=0):=by
 by_cases a:tK R.dV R.C e=0
 .obtain⟨b,g⟩:=i a;have c:vw R.dV.er R.C.er e=((vZ R.dV.er R.C.er e).er,(XX R.dV.er R.C.er e).er):=by rw[vw,ag (by rw[Du];exact a)]
  have l:R.ph≠4:=λh=>by
   have:=(tF (Dv a).1).2.2.1;rw[show R.dV.ph=4 from h,ab2] at this
   cases this
  have d:R'.ph=(eU R.dV R.C e).ph:=show R'.dV.er.ph=(vZ R.dV R.C e).er.ph by rw[b]
  have f:R'.dec=(eU R.dV R.C e).dec:=show R'.dV.er.dec=(vZ R.dV R.C e).er.dec by rw[b]
  refine⟨by rw[c,b,Ru],by rw[c,g];exact(CR R.dV R.C e).symm,?_⟩;rw[d,f];exact VW (hd l)
 have e:=j a;subst e;rw[Lr (by rw[Du];exact a)];exact⟨rfl,rfl,hd⟩
def aaO(w:ah):Q4.gi w:=⟨Dn.nil,Dn.nil,Dn.nil,Dn.nil,λx a=>(by cases a),aD 0⟩
def ZY(o:Po)(w:ah):(R0 o).kz w:=⟨aaP w,Dn.nil,Dn.nil,λx a=>(by cases a),Dn.nil⟩
def Mq{w0 w:ah}{o:Po}{r:Nat}{B:List bP}(s:St w0 w (Sep (ay r (R0 o).cells.toArray 45::B))):QJ w0 w (uA o,Q4) r B:=
 ⟨R0 o,NY o,rfl,aaZ o,λ_=>rfl,((s.oM (ZY o)).oM aaO).out 2 rfl⟩
section
variable {w:ah} {a:OA} {c:Nat} {l:List Ev}
def AI{w0 w:ah}{X:Sx×Ck}{R:Rs}{r:Nat}{B:List bP}{e:Ev}(g:R.dV.er=X.1)(f:R.C.er=X.2)(b:IV R)(hd:R.ph≠4->R.dec=0)(s:St w0 w (Sep (ay r R.cells.toArray 45::held R.C.gi::held R.kz::B)))(hi:e.In)(k:e.text.length<=80000):
  CP 11 #[.agg R.cells.toArray,e.v] w (λv h=>∃a:Rs,v=.tuple #[.agg a.cells.toArray,iv (tK X.1 X.2 e)]/\a.dV.er=(vw X.1 X.2 e).1/\a.C.er=(vw X.1 X.2 e).2/\IV a/\(a.ph≠4->a.dec=0)/\St w0 h (Sep (ay r R.cells.toArray 45::held a.C.gi::held a.kz::B))):=by
 have l:St w0 w (Sep (held R.C.gi::held R.kz::ay r R.cells.toArray 45::B)):=(s.out 1 rfl).eqv (fF.right fF.sP);refine bg (Mi l b hi k) ?_;rintro _ h ⟨a,rfl,m,c,i,j⟩;obtain⟨f1,f2,f3⟩:=W3 b hd i j;have d:tK R.dV R.C e=tK X.1 X.2 e:=by rw[<-g,<-f,Du]
 rw[g,f] at f1 f2;have n:=m.out 2 rfl;exact⟨_,rfl,a,by rw[d],f1,f2,c,f3,n⟩
def xy{w0 w:ah}{b:Nat}{X:Sx×Ck}{B:List bP}{R:Rs}(e:R.dV.er=X.1)(d:R.C.er=X.2)(a:tJ X.1 X.2)(c:IV R)(hd:R.ph≠4->R.dec=0)(s:St w0 w (star (xH b X.1 X.2) (Sep B)))(f:R.Q6 w):
  CP 14 #[pt b,.agg R.cells.toArray] w (λr g=>r=.bool true/\aZ w g []):=by
 rw[<-e,<-d] at s a;exact Vg s a f c hd
set_option maxHeartbeats 4000000 in
theorem Uj(aw:wK)(o:Po)(h:iA 11 Ev.cells w a l)(hi:∀e∈l,e.In):
  CP 3 #[o.v,.slice a l.length c] w (λr i=>r=.bool true/\aZ w i []):=by
 refine abk.2.1 (bE o.cells.toArray λr1 w1 O=>bg (Aj (h.aK O.aK)) ?_);rintro _ w2 ⟨gb,rfl,rfl,J⟩;refine⟨_,rfl,?_⟩
 cases gb with
 |true=>exact cT rfl (xW aw O.aK)
 |false=>
 obtain⟨J,N⟩:=J rfl;refine cF rfl ⟨_,_,_,_,O.cellsIn 0 rfl,bg (Eb O o) ?_⟩;rintro _ w4 ⟨b,rfl,s4⟩;refine⟨_,rfl,_,_,_,_,s4.cellsIn 1 rfl,bF (Ez w4 o) λw5 c5=>(Ex8<|Ex8<|Ex8<|Ex8<|Ex4<|⟨z6,Ex8<|Ex8<|Ex4<|⟨_,_,rfl,(s4.quiet c5).aY _ λr w6 P=>?_⟩⟩)⟩;obtain⟨Z,E,P⟩:∃Z:Array Value,Z.size=34/\St w w6 (Sep [ay r Z 45,xH b (uA o) Q4,ay r1 o.cells.toArray 23,emp]):=⟨_,rfl,P⟩;refine P.aR 0 rfl (R0 o).cells (by rw[E];rfl) (R0 o).one λw7 s7=>cF rfl ?_;let B:Sx×Ck->List bP:=λX=>[xH b X.1 X.2,ay r1 o.cells.toArray 23,emp];have q7:=Mq s7;refine⟨λn i m=>∃k:Nat,n=k/\k<=l.length/\m=l.length-k/\QJ w i (made o (l.take k)) r (B (made o (l.take k))),⟨l.length,0,rfl,by omega,by omega,q7⟩,?_⟩;clear q7 s7 P s4 c5 E;rintro w8 m n ⟨k,rfl,hk,hm,R,H,G,t,hd,z⟩-;have j:=Am o (l.take k) λe F=>hi e (bC F)
 by_cases K:(k:Int)<(l.length:Int)
 .obtain⟨e,U⟩:=dX l k (by omega);have A:=ak U;have F:=hi e A;have em:made o (l.take (k+1))=vw (made o (l.take k)).1 (made o (l.take k)).2 e:=by rw[bJ U,ye]
  generalize made o (l.take k)=X at H G z j em;have ev:∀{i},aZ w i []->∃q,a=some q/\aU i (Addr.add q (((k:Nat):Int).toNat*11)) 0 e.cells:=λhc=>by rw[aq];exact(h.aK hc).at U
  obtain⟨q,hq,T⟩:=ev z.aK;have s9:=z.out 3 rfl;refine di K (av hq ⟨by omega,by omega,e.kind,e.bidder,e.round,e.want,bs e.text,e.digest,T,bF (tf s9 j F) λw10 W=>?_⟩);have L:=Rv j F;have Y:=(St.IS W).aM [1,2,3,0,4,5];have x:=Y.quiet (aZ.drew w10 []);obtain⟨q2,M,I⟩:=ev x.aK;refine⟨_,rfl,λD n i=>n=tK X.1 X.2 e/\∃d:Rs,d.dV.er=(vw X.1 X.2 e).1/\d.C.er=(vw X.1 X.2 e).2/\IV d/\(d.ph≠4->d.dec=0)/\St w i (Sep (ay D d.cells.toArray 45::ay r R.cells.toArray 45::held d.C.gi::held d.kz::B (vw X.1 X.2 e))),?_,Ex8<|Ex8<|Ex8<|Ex8<|Ex4<|⟨R.C.p,Ex8<|Ex8<|Ex4<|⟨_,_,x.cellsIn 0 rfl,av M ⟨by omega,by omega,e.kind,e.bidder,e.round,e.want,bs e.text,e.digest,I,?_,?_⟩⟩⟩⟩
  .rintro w13 D n ⟨rfl,d,f1,f2,f3,f4,y⟩-;refine Ex8<|Ex8<|Ex8<|Ex8<|Ex4<|⟨d.C.p,Ex8<|Ex8<|Ex4<|⟨_,_,y.cellsIn 0 rfl,y.aR 1 rfl d.cells rfl d.one λu f=>?_⟩⟩;have V:∀{i},St w i (Sep (ay D d.cells.toArray 45::ay r d.cells.toArray 45::held d.C.gi::held d.kz::B (vw X.1 X.2 e)))->QJ w i (vw X.1 X.2 e) r (B (vw X.1 X.2 e)):=λs=>⟨d,f1,f2,f3,f4,s.aM [1,2,3,4,5,6]⟩;refine⟨λb i=>b=false/\QJ w i (vw X.1 X.2 e) r (B (vw X.1 X.2 e)),?_,cF (by simp) ?_⟩
   .rintro w15 b ⟨rfl,g⟩-;exact cF rfl (mS (by omega) (by rw[em];exact g))
   have g:=f.quiet (aZ.drew u []);have S:(vw X.1 X.2 e).1.ph=d.ph:=by rw[<-f1];rfl
   have Q:(vw X.1 X.2 e).1.dig=d.dig:=by rw[<-f1];rfl
   exact⟨_,g.aj 1 rfl 4,kR (N7 (g.out 4 rfl)) ⟨_,rfl,g.aj 1 rfl 4,cF (by rw[S];simp) ⟨_,g.aj 1 rfl 33,kR (He (g.out 4 rfl) L) ⟨_,rfl,g.aj 1 rfl 33,by rw[Q];simp,V g⟩⟩⟩⟩
  .refine bg (AI H G t hd x F (N e A)) ?_;rintro _ w13 ⟨d,rfl,f1,f2,f3,f4,y⟩;refine Ex8<|Ex8<|Ex8<|Ex8<|Ex4<|⟨d.C.p,Ex8<|Ex8<|Ex4<|⟨_,_,_,rfl,y.aY _ λD u f=>?_⟩⟩;obtain⟨Z,E,f⟩:∃Z:Array Value,Z.size=34/\St w u (Sep (ay D Z 45::ay r R.cells.toArray 45::held d.C.gi::held d.kz::B (vw X.1 X.2 e))):=⟨_,rfl,f⟩;exact f.aR 0 rfl d.cells (by rw[E];rfl) d.one λw15 g=>⟨rfl,d,f1,f2,f3,f4,g⟩
  refine x.aY _ λD u f=>?_;obtain⟨Z,E,f⟩:∃Z:Array Value,Z.size=34/\St w u (Sep (ay D Z 45::ay r R.cells.toArray 45::held R.C.gi::held R.kz::B (vw X.1 X.2 e))):=⟨_,rfl,f⟩;obtain⟨q3,y,s⟩:=ev f.aK;rw[M] at y;cases y;have g:=f.aM [1,2,3,0,4,5,6];refine⟨s,f.cellsIn 1 rfl,bg (AI H G t hd g F (N e A)) ?_⟩;rintro _ V ⟨d,rfl,f1,f2,f3,f4,Q⟩;refine Ex8<|Ex8<|Ex8<|Ex8<|Ex4<|⟨d.C.p,Ex8<|Ex8<|Ex4<|⟨_,_,_,rfl,Q.aR 3 rfl d.cells (by rw[E];rfl) d.one λw17 S=>⟨rfl,d,f1,f2,f3,f4,S.aM [3,0,1,2,4,5,6]⟩⟩⟩
 obtain rfl:k=l.length:=by omega
 rw[aH] at H G z j;exact dz K (Ex8<|Ex8<|Ex8<|Ex8<|Ex4<|⟨R.C.p,Ex8<|Ex8<|Ex4<|⟨_,_,z.cellsIn 0 rfl,bF (xy H G j t hd (z.out 3 rfl) (.of (z.eu 1 rfl) (z.eu 2 rfl))) λf d=>⟨_,rfl,cT rfl (xW aw (z.quiet d).aK)⟩⟩⟩)
end
section
variable {w:ah} {a:OA} {c:Nat} {l:List Ev}
set_option maxHeartbeats 4000000 in
theorem VT(aw:wK)(o:Po)(h:iA 11 Ev.cells w a l)(hi:∀e∈l,e.In):
  CP 4 #[o.v,.slice a l.length c] w (λr t=>r=.bool true/\aZ w t []):=by
 refine abu.1 (bE o.cells.toArray λW w1 L=>bg (Aj (h.aK L.aK)) ?_);rintro _ w2 ⟨gb,rfl,rfl,E⟩;refine⟨_,rfl,?_⟩
 cases gb with
 |true=>exact cT rfl (xW aw L.aK)
 |false=>
 obtain⟨E,J⟩:=E rfl;have O:=L.quiet (aZ.drew w2 []);refine cF rfl ⟨_,_,_,_,O.cellsIn 0 rfl,_,_,_,_,O.cellsIn 0 rfl,bg (Eb O o) ?_⟩;rintro _ w3 ⟨b,rfl,Y⟩;refine⟨_,rfl,Y.cellsIn 1 rfl,bg (Eb Y o) ?_⟩;rintro _ w4 ⟨S,rfl,P⟩;refine⟨_,rfl,_,_,_,_,P.cellsIn 2 rfl,bF (Ez w4 o) λw5 T=>(Ex8<|Ex8<|Ex8<|Ex8<|Ex4<|⟨z6,Ex8<|Ex8<|Ex4<|⟨_,_,rfl,(P.quiet T).aY _ λr w6 H=>?_⟩⟩)⟩;obtain⟨Z,U,H⟩:∃Z:Array Value,Z.size=34/\St w w6 (Sep [ay r Z 45,xH S (uA o) Q4,xH b (uA o) Q4,ay W o.cells.toArray 23,emp]):=⟨_,rfl,H⟩;refine H.aR 0 rfl (R0 o).cells (by rw[U];rfl) (R0 o).one λw7 s7=>?_;let B:Sx×Ck->List bP:=λX=>[xH S X.1 X.2,xH b X.1 X.2,ay W o.cells.toArray 23,emp];have V:=Mq s7;refine⟨λn t m=>∃k:Nat,n=k/\k<=l.length/\m=l.length-k/\QJ w t (made o (l.take k)) r (B (made o (l.take k))),⟨l.length,0,rfl,by omega,by omega,V⟩,?_⟩;clear V s7 H P T U;rintro w8 m n ⟨k,rfl,hk,hm,R,z,y,i,hd,s⟩-;have d:=Am o (l.take k) λe A=>hi e (bC A)
 by_cases F:(k:Int)<(l.length:Int)
 .obtain⟨e,K⟩:=dX l k (by omega);have D:=ak K;have A:=hi e D;have em:made o (l.take (k+1))=vw (made o (l.take k)).1 (made o (l.take k)).2 e:=by rw[bJ K,ye]
  generalize made o (l.take k)=X at z y s d em;have ev:∀{t},aZ w t []->∃q,a=some q/\aU t (Addr.add q (((k:Nat):Int).toNat*11)) 0 e.cells:=λhc=>by rw[aq];exact(h.aK hc).at K
  obtain⟨q,hq,I⟩:=ev s.aK;have x:=s.out 4 rfl;refine di F ⟨λbb t=>bb=false/\St w t (Sep (ay r R.cells.toArray 45::held R.C.gi::held R.kz::B (vw X.1 X.2 e))),?_,av hq ⟨by omega,by omega,e.kind,e.bidder,e.round,e.want,bs e.text,e.digest,I,bg (tf x d A) ?_⟩⟩
  .rintro Q _ ⟨rfl,f⟩-;have j:=f.quiet (aZ.drew Q []);obtain⟨q2,u,g⟩:=ev j.aK;refine cF rfl (Ex8<|Ex8<|Ex8<|Ex8<|Ex4<|⟨R.C.p,Ex8<|Ex8<|Ex4<|⟨_,_,j.cellsIn 0 rfl,av u ⟨by omega,by omega,e.kind,e.bidder,e.round,e.want,bs e.text,e.digest,g,bg (AI z y i hd j A (J e D)) ?_⟩⟩⟩);rintro _ w13 ⟨G,rfl,f1,f2,f3,f4,M⟩;exact Ex8<|Ex8<|Ex8<|Ex8<|Ex4<|⟨G.C.p,Ex8<|Ex8<|Ex4<|⟨_,_,_,rfl,M.aR 0 rfl G.cells rfl G.one λw14 N=>mS (by omega) (by rw[em];exact⟨G,f1,f2,f3,f4,N⟩)⟩⟩
  rintro _ N ⟨rfl,M⟩;have f:=(St.IS M).aM [1,2,3,4,0,5,6];refine⟨_,rfl,?_⟩
  by_cases G:tK X.1 X.2 e=0
  .obtain⟨q2,u,g⟩:=ev f.aK;exact cT (by simp[G]) (av u ⟨by omega,by omega,e.kind,e.bidder,e.round,e.want,bs e.text,e.digest,g,bF (tf (f.out 3 rfl) d A) λQ j=>⟨_,rfl,by simp[G],(St.IS j).aM [1,2,3,0,4,5,6]⟩⟩)
  refine iI G ⟨rfl,?_⟩;rw[Lr G] at f⊢;exact f
 obtain rfl:k=l.length:=by omega
 rw[aH] at z y s d;exact dz F (Ex8<|Ex8<|Ex8<|Ex8<|Ex4<|⟨R.C.p,Ex8<|Ex8<|Ex4<|⟨_,_,s.cellsIn 0 rfl,s.qu (xy z y d i hd (s.out 4 rfl) (.of (s.eu 1 rfl) (s.eu 2 rfl))) λg x=>⟨_,rfl,cT rfl (Ex8<|Ex8<|Ex8<|Ex8<|Ex4<|⟨R.C.p,Ex8<|Ex8<|Ex4<|⟨_,_,x.cellsIn 0 rfl,bF (xy z y d i hd (x.out 3 rfl) (.of (x.eu 1 rfl) (x.eu 2 rfl))) λN f=>⟨_,rfl,cT rfl (xW aw (x.quiet f).aK)⟩⟩⟩)⟩⟩⟩)
end
def Yk(b:Nat)(P:ah->Prop):bP:=V4 λp:{p:Sx×Ck // tJ p.1 p.2/\Fc p.1}=>star (ay b p.1.1.cells.toArray 78) (held (Dm P p.1.1 p.1.2))
section
variable {w0 w:ah} {b:Nat} {P:ah->Prop} {B:bP}
def Iw{S:Sx}{C:Ck}{Q:ah->Prop}(a:tJ S C)(c:Fc S)(d:∀w,Q w->Dm P S C w)(s:St w0 w (Sep [ay b S.cells.toArray 78,held Q,B])):St w0 w (star (Yk b P) B):=by
 have e:=s.aM [1,0,2];have g:=e.we (Q:=Dm P S C) ((cV _).mono d);have h:=g.aM [1,0,2];exact St.xe (f:=λp:{p:Sx×Ck // tJ p.1 p.2/\Fc p.1}=>star (ay b p.1.1.cells.toArray 78) (held (Dm P p.1.1 p.1.2))) ⟨(S,C),a,c⟩ (h.triple.eqv fF.assoc')
def Ry(s:St w0 w (star (Yk b P) B)){e:Ev}(hi:e.In):
  CP 10 #[pt b,e.v] w (λr a=>∃n,r=iv n/\St w0 a (star (Yk b P) B)):=by
 obtain⟨⟨⟨S,C⟩,a,j⟩,o⟩:=s.ex;refine bg (IZ (λw h=>h.1) o.assoc.sU a j hi) ?_;rintro v r ⟨rfl,m,n⟩;refine⟨_,rfl,_,rfl,?_⟩
 by_cases h:tK S C e=0
 .obtain⟨g,q,i,k,l,p⟩:=n h;obtain⟨c,f⟩:=Nf a h hi;have d:g.ph=(vZ S C e).ph:=show g.er.ph=(vZ S C e).er.ph by rw[i]
  exact Iw (c.er i k) ⟨λx=>absurd (d.symm.trans x) f,λ_=>l⟩ (λw h=>⟨h.1,h.2.2⟩) p
 exact Iw a j (λ_ h=>h) (m h)
def XA:nY (Yk b P) P:=λ_ _ ⟨_,_,_,_,_,a,_⟩=>(JG a).2
def ack{a:Nat}{S:Sx}{C:Ck}{l:List bP}(c:Fc S)(s:St w0 w (Sep (Yk b (BR S C)::ay a S.cells.toArray 78::l))):St w0 w (star (xH a S.er C.er) (Sep l)):=by
 have d:=s.we XA;exact AQ rfl rfl c d.sP.sU
def adH{f e:Nat}{S a:Sx}{C b:Ck}{l:List bP}(s:St w0 w (Sep (ZL f e S C a b (Sep l))))(k:a.s=S.s)(j:a.bd=S.bd)(d:tJ a b)(g:Fc a):St w0 w (Sep (Yk e (BR S C)::ay f S.cells.toArray 78::l)):=by
 have m:=s.aM [1,3,0,2,4];have n:=m.kr (S:=Dm (BR S C) a b) (Nv g) (cV _) (λw i c=>⟨⟨⟨by rw[k];exact c.h.1,by rw[j];exact c.h.2⟩,i⟩,c⟩);have o:=n.mT [_,_,_];exact Iw d g (λ_ h=>h) o.sP.sU
end
section
variable {w:ah} {a:OA} {c:Nat} {l:List Ev} {a2:OA} {c2:Nat} {l2:List Ev}
set_option maxHeartbeats 4000000 in
theorem LC(aw:wK)(o:Po)(h:iA 11 Ev.cells w a l)(hi:∀e∈l,e.In)(h2:iA 11 Ev.cells w a2 l2)(hi2:∀e∈l2,e.In):
  CP 5 #[o.v,.slice a l.length c,.slice a2 l2.length c2] w (λr j=>r=.bool true/\aZ w j []):=by
 refine abu.2.1 (bE o.cells.toArray λL w1 M=>⟨λU j=>j=w1/\(U=false->l.length<=120/\l2.length<=120/\∀e∈l,e.text.length<=80000),?_,bg (Aj (h.aK M.aK)) ?_⟩)
 rotate_left
 .rintro _ d ⟨O,rfl,rfl,s⟩;refine⟨_,rfl,?_⟩
  cases O with
  |true=>exact cT rfl ⟨rfl,λh=>by cases h⟩
  |false=>
  refine cF rfl (bg (Aj (h2.aK M.aK)) ?_);rintro _ w3 ⟨O,rfl,rfl,y⟩;exact⟨_,rfl,rfl,λh=>⟨(s rfl).1,(y h).1,(s rfl).2⟩⟩
 rintro w3 O ⟨rfl,s⟩-
 cases O with
 |true=>exact cT rfl (xW aw M.aK)
 |false=>
 obtain⟨s,y,htx⟩:=s rfl;refine cF rfl ⟨_,_,_,_,M.cellsIn 0 rfl,bg (Eb M o) ?_⟩;rintro _ w4 ⟨b,rfl,s4⟩;refine⟨_,rfl,_,_,_,_,s4.cellsIn 1 rfl,bF (Ez w4 o) λw5 c5=>(Ex8<|Ex8<|Ex8<|Ex8<|Ex4<|⟨z6,Ex8<|Ex8<|Ex4<|⟨_,_,rfl,(s4.quiet c5).aY _ λr w6 P=>?_⟩⟩)⟩;obtain⟨Z,hZ,P⟩:∃Z:Array Value,Z.size=34/\St w w6 (Sep [ay r Z 45,xH b (uA o) Q4,ay L o.cells.toArray 23,emp]):=⟨_,rfl,P⟩;refine P.aR 0 rfl (R0 o).cells (by rw[hZ];rfl) (R0 o).one λw7 s7=>?_;let B:Sx×Ck->List bP:=λX=>[xH b X.1 X.2,ay L o.cells.toArray 23,emp];have q7:=Mq s7;refine⟨λn j m=>∃k:Nat,n=k/\k<=l.length/\m=l.length-k/\QJ w j (made o (l.take k)) r (B (made o (l.take k))),⟨l.length,0,rfl,by omega,by omega,q7⟩,?_⟩;clear q7 s7 P s4 c5 hZ;rintro w8 m n ⟨k,rfl,hk,hm,R,F,E,u,hd,I⟩-;have g:=Am o (l.take k) λe G=>hi e (bC G)
 by_cases t:(k:Int)<(l.length:Int)
 .obtain⟨e,H⟩:=dX l k (by omega);have z:=ak H;have G:=hi e z;have em:made o (l.take (k+1))=vw (made o (l.take k)).1 (made o (l.take k)).2 e:=by rw[bJ H,ye]
  generalize made o (l.take k)=X at F E I g em;have ev:∀{j},aZ w j []->∃q,a=some q/\aU j (Addr.add q (((k:Nat):Int).toNat*11)) 0 e.cells:=λK=>by rw[aq];exact(h.aK K).at H
  obtain⟨q,hq,D⟩:=ev I.aK;have Q:=I.out 3 rfl;refine di t (av hq ⟨by omega,by omega,e.kind,e.bidder,e.round,e.want,bs e.text,e.digest,D,bF (tf Q g G) λN x=>?_⟩);have d:=(St.IS x).aM [1,2,3,0,4,5];have i:=d.quiet (aZ.drew N []);obtain⟨S,C,p⟩:=ev i.aK;refine⟨_,rfl,Ex8<|Ex8<|Ex8<|Ex8<|Ex4<|⟨R.C.p,Ex8<|Ex8<|Ex4<|⟨_,_,i.cellsIn 0 rfl,av C ⟨by omega,by omega,e.kind,e.bidder,e.round,e.want,bs e.text,e.digest,p,bg (AI F E u hd i G (htx e z)) ?_⟩⟩⟩⟩;rintro _ w13 ⟨A,rfl,f1,f2,f3,f4,f⟩;exact Ex8<|Ex8<|Ex8<|Ex8<|Ex4<|⟨A.C.p,Ex8<|Ex8<|Ex4<|⟨_,_,_,rfl,f.aR 0 rfl A.cells rfl A.one λw14 J=>mS (by omega) (by rw[em];exact⟨A,f1,f2,f3,f4,J⟩)⟩⟩
 obtain rfl:k=l.length:=by omega
 rw[aH] at F E I g;obtain⟨S,C,eS1,W,J,Q⟩:=mz (I.out 3 rfl:St w w8 (star (xH b (made o l).1 (made o l).2) (Sep [ay r R.cells.toArray 45,held R.C.gi,held R.kz,ay L o.cells.toArray 23,emp])));rw[<-eS1] at F g;rw[<-W] at E g;have z:=rX g;refine dz t (bg (Xn Q z J) ?_);rintro _ N ⟨bY,p,T,rfl,e1,K,x⟩;have A:tJ {S with k:=p} T:=z.er rfl e1;have d:=St.IS (asY x rfl rfl K);have Y:R.C.er=T.er:=E.trans e1.symm;refine⟨_,rfl,λU j=>U=false/\St w j (Sep (Yk bY (BR S C)::ay b S.cells.toArray 78::[ay r R.cells.toArray 45,held R.C.gi,held R.kz,ay L o.cells.toArray 23,emp])),?_,cF rfl (Ex8<|Ex8<|Ex8<|Ex8<|Ex4<|⟨R.C.p,Ex8<|Ex8<|Ex4<|⟨_,_,d.cellsIn 1 rfl,bg (xy (X:=(({S with k:=p}:Sx).er,T.er)) F Y (A.er (pZ _) (Jw _)) u hd d (.of (d.eu 2 rfl) (d.eu 3 rfl))) ?_⟩⟩)⟩
 rotate_left
 .rintro _ w11 ⟨rfl,V⟩;exact⟨_,rfl,rfl,adH (x.quiet V) rfl rfl A K⟩
 rintro w11 _ ⟨rfl,d⟩-;refine cF rfl ⟨λn j m=>∃k:Nat,n=k/\k<=l2.length/\m=l2.length-k/\St w j (Sep (Yk bY (BR S C)::ay b S.cells.toArray 78::[ay r R.cells.toArray 45,held R.C.gi,held R.kz,ay L o.cells.toArray 23,emp])),⟨l2.length,0,rfl,by omega,by omega,d⟩,?_⟩;clear d x Q I;rintro V m n ⟨k,rfl,hk,hm,i⟩-
 by_cases t:(k:Int)<(l2.length:Int)
 .obtain⟨e,H⟩:=dX l2 k (by omega);have G:=hi2 e (ak H);obtain⟨q,hq,D⟩:∃q,a2=some q/\aU V (Addr.add q (((k:Nat):Int).toNat*11)) 0 e.cells:=by rw[aq];exact(h2.aK i.aK).at H
  refine di t (av hq ⟨by omega,by omega,e.kind,e.bidder,e.round,e.want,bs e.text,e.digest,D,bg (Ry i G) ?_⟩);rintro _ w13 ⟨n,rfl,f⟩;exact⟨_,rfl,mS (by omega) f⟩
 have f:=St.IS (ack J i);exact dz t (Ex8<|Ex8<|Ex8<|Ex8<|Ex4<|⟨R.C.p,Ex8<|Ex8<|Ex4<|⟨_,_,f.cellsIn 1 rfl,bF (xy (X:=(S.er,C.er)) F E g u hd f (.of (f.eu 2 rfl) (f.eu 3 rfl))) λw14 q=>⟨_,rfl,cT rfl (xW aw (f.quiet q).aK)⟩⟩⟩)
end
end Go.Proofs.YtmhhlijfepaphaaGreatDoor
namespace Go.Proofs.YtmhhlijfepaphaaGreatDoor
open Go Go.Vc Go.RowKit Go.Deep
def mN{P:Program}{w:ah}{d:Nat}{t:TypeId}{cs:List Value}{a:Array Field}(h:wm P w (d+1) t cs)(c:P.underlying t=some (.struct a))(i:Nat)(f:Field)(b:a[i]?=some f):
  wm P w d f.type ((cs.drop f.offset).take (P.cellsOf f.type)):=by
 unfold wm at h;simp only[c] at h;exact h.2 f (by simpa using kS b)
theorem NQ{e:Type}{Q:Nat->e->Prop}:∀{l:Nat},(∀i,i<l->∃a,Q i a)->∃L:List e,L.length=l/\∀i a,L[i]?=some a->Q i a
 |0,_=>⟨[],rfl,λi a h=>by simp at h⟩
 |l+1,h=>by
  obtain⟨L,g,j⟩:=NQ (l:=l) λi d=>h i (by omega);obtain⟨a,k⟩:=h l (by omega);refine⟨L++[a],by simp[g],λi b c=>?_⟩;rcases aQ i L.length with d|d
  .rw[dK d] at c;exact j i b c
  rw[dJ d] at c;have f:i-L.length=0:=by
   have:=(ai.1 c).1;simp at this;omega
  rw[f] at c;simp at c;subst c;rw[show i=l by omega];exact k
theorem NM:∀{cs:List Value},(∀v∈cs,∃n,v=iv n/\In n)->∃a:List Int,cs=a.map iv/\∀n∈a,In n
 |[],_=>⟨[],rfl,by simp⟩
 |v::cs,h=>by
  obtain⟨n,rfl,c⟩:=h v (dw ..);obtain⟨a,rfl,d⟩:=NM (cs:=cs) λu e=>h u (cR _ e);refine⟨n::a,rfl,λx b=>?_⟩;rcases aP.1 b with rfl|b
  .exact c
  exact d x b
def ug{w:ah}{d t:Nat}{cs:List Value}(h:wm Tryz.prog w (d+1) t cs)(a:Tryz.prog.underlying t=some (.int .i64)):∃n,cs=[iv n]/\In n:=by
 unfold wm at h;simp only[a] at h;obtain⟨n,rfl,b⟩:=h;refine⟨n,rfl,?_⟩;simp[Lit.wf,IntKind.min,IntKind.max,IntKind.signed,IntKind.bits] at b;exact⟨by omega,by omega⟩
def WR{w:ah}{d t k e:Nat}{cs:List Value}(h:wm Tryz.prog w (d+2) t cs)(q:Tryz.prog.underlying t=some (.array k e))(m:Tryz.prog.underlying e=some (.int .i64))(hc:Tryz.prog.cellsOf t=k)(j:Tryz.prog.cellsOf e=1):
  ∃a:List Int,cs=a.map iv/\a.length=k/\∀n∈a,In n:=by
 unfold wm at h;simp only[q] at h;obtain⟨f,o⟩:=h;rw[hc] at f;obtain⟨a,rfl,p⟩:=NM (cs:=cs) λv r=>by
  obtain⟨i,b,rfl⟩:=dY.1 r;obtain⟨n,c,l⟩:=ug (o i (by omega)) m;rw[j,eZ] at c;have g:(cs.drop i).take 1=[cs[i]]:=by
   rw[bO b];rfl
  rw[g] at c;exact⟨n,by simpa using c,l⟩
 exact⟨a,rfl,by simpa using f,p⟩
def PW{w:ah}{d t e:Nat}{cs:List Value}(h:wm Tryz.prog w (d+1) t cs)(y:Tryz.prog.underlying t=some (.slice e)):
  ∃(a:OA) (l c:Nat),cs=[.slice a l c]/\l<=c/\l<=9223372036854775807/\l*Tryz.prog.bytesOf e<=140737488351232 /\
   ∀i,i<l->∃q b,a=some q/\b.length=Tryz.prog.cellsOf e/\aU w (q.add (i*Tryz.prog.cellsOf e)) 0 b/\wm Tryz.prog w d e b:=by
 unfold wm at h;simp only[y] at h;obtain⟨a,l,c,rfl,m,g,_,p,s⟩:=h;refine⟨a,l,c,rfl,m,by unfold maxLen at g;omega,p,λi u=>?_⟩;obtain⟨q,b,o,k,x⟩:=s i u;obtain⟨_,f,r⟩:=World.cells?_some k;exact⟨q,b,o,f,fm _ 0 λj v n=>by
  rw[az,r j (by have:=(ai.1 n).1;omega)];exact n,x⟩
def Lw:Tryz.prog.cellsOf 3=1:=by kernel_rfl
def RQ:Tryz.prog.cellsOf 2=1:=by kernel_rfl
def Nu:Tryz.prog.cellsOf 50=6:=by kernel_rfl
def VH:Tryz.prog.cellsOf 9=1:=by kernel_rfl
def VE:Tryz.prog.cellsOf 43=1:=by kernel_rfl
def VF:Tryz.prog.cellsOf 52=11:=by kernel_rfl
def VG:Tryz.prog.cellsOf 23=4:=by kernel_rfl
def ZH{w:ah}{cs:List Value}(h:wm Tryz.prog w 5 52 cs)(o:cs.length=11):∃e:Ev,cs=e.cells/\e.In:=by
 match cs,o with
 |[b,c,f,g,i,j,k,l,m,n,a],_=>
  have z:wm Tryz.prog w 4 3 (([b,c,f,g,i,j,k,l,m,n,a].drop 0).take (Tryz.prog.cellsOf 3)):=mN h Tryz.underlying52 0 _ rfl;have A:wm Tryz.prog w 4 3 (([b,c,f,g,i,j,k,l,m,n,a].drop 1).take (Tryz.prog.cellsOf 3)):=mN h Tryz.underlying52 1 _ rfl;have B:wm Tryz.prog w 4 3 (([b,c,f,g,i,j,k,l,m,n,a].drop 2).take (Tryz.prog.cellsOf 3)):=mN h Tryz.underlying52 2 _ rfl;have C:wm Tryz.prog w 4 50 (([b,c,f,g,i,j,k,l,m,n,a].drop 3).take (Tryz.prog.cellsOf 50)):=mN h Tryz.underlying52 3 _ rfl;have p:wm Tryz.prog w 4 9 (([b,c,f,g,i,j,k,l,m,n,a].drop 9).take (Tryz.prog.cellsOf 9)):=mN h Tryz.underlying52 4 _ rfl;have q:wm Tryz.prog w 4 43 (([b,c,f,g,i,j,k,l,m,n,a].drop 10).take (Tryz.prog.cellsOf 43)):=mN h Tryz.underlying52 5 _ rfl;rw[Lw] at z A B;rw[Nu] at C;rw[VH] at p;rw[VE] at q;obtain⟨E,r,_⟩:=ug z Tryz.underlying3;obtain⟨F,t,_⟩:=ug A Tryz.underlying3;obtain⟨G,u,_⟩:=ug B Tryz.underlying3;obtain⟨H,v,D,_⟩:=WR C Tryz.underlying50 Tryz.underlying3 Nu Lw;unfold wm at p q;simp only[Tryz.underlying9] at p;simp only[Tryz.underlying43] at q;obtain⟨s,x,_⟩:=p;obtain⟨d,y,hd⟩:=q
  match H,D with
  |[I,J,K,L,M,N],_=>
   simp at r t u v x y;obtain⟨rfl,rfl,rfl,rfl,rfl,rfl⟩:=v;subst r t u x y;refine⟨⟨E,F,G,⟨I,J,K,L,M,N⟩,s.data.toList,d⟩,rfl,⟨?_⟩⟩;simp[Lit.wf,IntKind.min,IntKind.max,IntKind.signed,IntKind.bits] at hd;show 0<=d/\d<18446744073709551616;omega
def As{w:ah}{cs:List Value}(h:wm Tryz.prog w 6 24 cs):∃(a:OA) (c:Nat) (l:List Ev),cs=[.slice a l.length c]/\l.length<=c/\iA 11 Ev.cells w a l/\∀e∈l,e.In:=by
 obtain⟨a,n,c,rfl,d,_,_,o⟩:=PW h Tryz.underlying24;obtain⟨L,k,g⟩:=NQ (Q:=λi (e:Ev)=>e.In/\∃q,a=some q/\aU w (q.add (i*11)) 0 e.cells) (l:=n) λi p=>by
  obtain⟨q,j,m,b,d,r⟩:=o i p;rw[VF] at b d;obtain⟨e,rfl,f⟩:=ZH r b;exact⟨e,f,q,m,d⟩
 refine⟨a,c,L,by rw[k],by omega,λi e f=>let ⟨_,q,hq,d⟩:=g i e f;⟨q,_,hq,d,rfl,rfl⟩,λe f=>?_⟩;obtain⟨i,b,rfl⟩:=dY.1 f;exact(g i _ (gE b)).1
def HT{w:ah}{cs:List Value}(h:wm Tryz.prog w 6 23 cs):∃o:Po,cs=o.cells:=by
 have a:cs.length=4:=by
  have b:=h;unfold wm at b;simp only[Tryz.underlying23] at b;rw[<-VG];exact b.1
 match cs,a with
 |[b,c,d,e],_=>
  have k:wm Tryz.prog w 5 2 (([b,c,d,e].drop 0).take (Tryz.prog.cellsOf 2)):=mN h Tryz.underlying23 0 _ rfl;have l:wm Tryz.prog w 5 3 (([b,c,d,e].drop 1).take (Tryz.prog.cellsOf 3)):=mN h Tryz.underlying23 1 _ rfl;have m:wm Tryz.prog w 5 3 (([b,c,d,e].drop 2).take (Tryz.prog.cellsOf 3)):=mN h Tryz.underlying23 2 _ rfl;have n:wm Tryz.prog w 5 3 (([b,c,d,e].drop 3).take (Tryz.prog.cellsOf 3)):=mN h Tryz.underlying23 3 _ rfl;rw[RQ] at k;rw[Lw] at l m n;obtain⟨p,f,_⟩:=ug k Tryz.underlying2;obtain⟨q,g,_⟩:=ug l Tryz.underlying3;obtain⟨r,i,_⟩:=ug m Tryz.underlying3;obtain⟨s,j,_⟩:=ug n Tryz.underlying3;simp at f g i j;subst f g i j;exact⟨⟨p,q,r,s⟩,rfl⟩
end Go.Proofs.YtmhhlijfepaphaaGreatDoor
namespace Go.Proofs.YtmhhlijfepaphaaGreatDoor
open Go Go.Vc Go.ChangeShapes Go.WideShapes Go.ChangeAt Go.RowKit _root_.Go.Proofs.Tryz
def own:ownKnob prog.godebug=none:=by kernel_rfl
def laidOut:laidOutB prog=true:=by kernel_rfl
def pf3:mapsRowed prog=true:=by kernel_rfl
def pf7:(prog.stops==[])=true:=by kernel_rfl
def pf9:(prog.stopKnobs==[])=true:=by kernel_rfl
def ZP:prog.stopsHeard=true:=by kernel_rfl
def ZQ:prog.mayEnter=true:=by kernel_rfl
def pfl:true=Tryz.pinned.checked.prog.looks []:=by kernel_rfl
def SD{P:Program}(h:P.funcs.any Func.goes=false)(s:Start)(f:String):P.goesAt s f=false:=by
 have g:∀f,P.goes f=false:=λf=>by
  have e:∀g:Nat,(P.funcs[g]?).any Func.goes=false:=λg=>by
   cases e:P.funcs[g]? with
   |none=>rfl
   |some x=>exact Bool.eq_false_iff.2 λa=>Bool.eq_false_iff.1 h (Array.any_eq_true'.2 ⟨x,kS e,a⟩)
  unfold Program.goes;rw[h,Bool.and_false,Bool.or_false];exact Bool.eq_false_iff.2 λa=>by
   obtain⟨y,_,b⟩:=gG.1 a;rw[e] at b;cases b
 unfold Program.goesAt Program.goesFrom;have c:(P.funcNamed f).any P.goes=false:=by
  cases P.funcNamed f with
  |none=>rfl
  |some x=>exact g x
 rw[c,fO]
 split
 .rfl
 exact Bool.eq_false_iff.2 λa=>by
  obtain⟨y,_,b⟩:=gG.1 a;rw[g] at b;cases b
def Zy:Tryz.pinned.checked.prog.funcs.any Func.goes=false:=by kernel_rfl
def Dy{w a:ah}(h:aZ w a []):Below w.heap.size w a:=⟨h.env.os,h.env.tape,h.env.out,h.size,λk b=>h.same k b (by simp)⟩
def S8(P:Program)(a:List (String×DataW Unit))(w:ah)(h:(a.all λx=>x.2.handleName?.isNone)=true):laidMetH P a w=laidMet P a w:=by
 have e:(a.filter λx=>x.2.handleName?.isSome)=[]:=by
  rw[lS];intro x c b;have:=bw.1 h x c;rw[Option.isNone_iff_eq_none] at this;rw[this] at b
  cases b
 unfold laidMetH;rw[e]
def yP:List (String×DataW Unit):=Rows.stateRunsRow.laid.filter λx=>x.2.handleName?.isNone
noncomputable def qO(os:Os):ah:=(World.holding prog os ⟨#[],#[],[]⟩).layVars prog yP
def vF(os:Os):(qO os).os=os:=(World.layVars_os _ _ _).trans rfl
def Py(os:Os)(args:Array Value):laidMet prog yP ((qO os).forCall (λ_ _=>0) ⟨#[],args,[]⟩).memory:=by
 have a:(yP.filter λx=>(yP.map (·.1)).contains x.1)=yP:=nC.2 λx b=>jJ.2 (aN.2 ⟨x,b,rfl⟩);have c:(yP.filter λx=>!(yP.map (·.1)).contains x.1)=[]:=lS.2 λx b=>by rw[jJ.2 (aN.2 ⟨x,b,rfl⟩)];simp
 have h:laidMet prog yP (qO os):=laidMet_layVars (w0:=World.holding prog os ⟨#[],#[],[]⟩) (yP.map (·.1)) [] (by rw[a];rfl) (by rw[a];kernel_rfl) (by rw[a];kernel_rfl) (by rw[c];exact LaidIn.none);exact h.of_heap (by simp[World.memory,World.forCall,Input.heap])
def Kf:(Rows.stateRunsRow.laid.all λx=>x.2.handleName?.isNone)=true:=by kernel_rfl
def uz(os:Os)(args:Array Value):laidMetH prog Rows.stateRunsRow.laid ((qO os).forCall (λ_ _=>0) ⟨#[],args,[]⟩).memory:=by
 rw[S8 _ _ _ Kf];have e:yP=Rows.stateRunsRow.laid:=nC.2 (bw.1 Kf);rw[<-e];exact Py os args
