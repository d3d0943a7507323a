import Derived.Test.YtmffhopdpbikgaaGreatDoorE08
set_option linter.unusedVariables false
set_option maxRecDepth 100000
namespace Go.Proofs.YtmffhopdpbikgaaGreatDoor
open Go Go.Vc _root_.Go.Proofs.Tryz
section
variable {w0 w:World} {B:aD} {r r2:Nat} {l l2:List KV} {lim:I6} {f g:Wf}
theorem oH(s:St w0 w (star (mapA r l) B)):(l.map (·.1)).Nodup:=by
 obtain⟨x,_⟩:=s.ex;exact x.2.ky
theorem bQ.key(h:bQ lim l f)(hn:(l.map (·.1)).Nodup){p:KV}(hp:p∈l):I6.Le p.1 4/\0<p.2/\p.2<=1000000:=by
 have h1:=(h.mem hn p).1 hp;have:=h.le p.1;exact⟨(h.s p.1 h1.1).1,by omega,by omega⟩
theorem lF(s:St w0 w (star (mapA r l) B))(h:bQ lim l f)(hl:I6.Le lim 4){b:I6}(hb:I6.Le b 1000000)(v:Int) :
  CP 155 #[.map (some r),.agg lim.vs.toArray,.agg b.vs.toArray,iv v] w (λ x w'=>x=.tuple #[]/\∃ l',bQ lim l' (iP lim f (b,v))/\St w0 w' (star (mapA r l') B)):=by
 refine jm ?_;unfold eY;refine(s.v8).ax lim.vs.toArray λ r1 w1 s1=>s1.ax b.vs.toArray λ r2 w2 s2=>?_;have hr:=h.raise hl (p:=(b,v)) hb;have back:∀ {w' : World} {l' : List KV},St w0 w' (Sep [ai r2 b.vs.toArray 34,ai r1 lim.vs.toArray 34,mapA r l',B])->St w0 w' (star (mapA r l') B):=λ s=>(s.au [2,3]).pair;refine⟨λ x w3=>x=decide (qg v>f b/\within b lim=true)/\St w0 w3 (Sep [ai r2 b.vs.toArray 34,ai r1 lim.vs.toArray 34,mapA r l,B]),?_,b,s2.cellsIn 0 rfl,?_⟩
 ·rintro w3 _ ⟨rfl,s3⟩ -
  by_cases g:qg v>f b/\within b lim=true
  ·rw[if_pos g] at hr;refine cT (dT g) ⟨b,s3.cellsIn 0 rfl,G6 I3 (s3.out 2 rfl) b (qg v) λ w4 s4=>⟨rfl,_,hr,?_⟩⟩;exact back (s4.back (show 2<4 by decide))
  ·rw[if_neg g] at hr;exact cF (dF g) ⟨rfl,_,hr,back s3⟩
 ·refine DN I3 (s2.out 2 rfl) b ?_;rw[h.get]
  by_cases g1:qg v>f b
  ·refine cT (dT g1) ⟨b,s2.cellsIn 0 rfl,lim,s2.cellsIn 1 rfl,aj (uh _ _ _) ?_⟩;rintro x w6 ⟨rfl,c6⟩;refine⟨_,rfl,?_,s2.quiet c6⟩
   cases hw:within b lim with
   | true=>rw[dT (p:=qg v>f b/\true=true) ⟨g1,rfl⟩]
   | false=>rw[dF (p:=qg v>f b/\false=true) (λ h=>by cases h.2)]
  ·exact cF (dF g1) ⟨by rw[dF (λ h=>g1 h.1)],s2⟩
theorem ue(s:St w0 w (star (mapA r l) (star (mapA r2 l2) B)))(h:bQ lim l f)(h2:bQ lim l2 g)(hl:I6.Le lim 4) :
  CP 156 #[.map (some r),.agg lim.vs.toArray,.map (some r2)] w (λ x w'=>x=.tuple #[]/\∃ l',bQ lim l' (bp lim f l2)/\St w0 w' (star (mapA r l') (star (mapA r2 l2) B))):=by
 refine jl ?_;unfold eX;have hn2:=oH s.zU;refine(s.p4).ax lim.vs.toArray λ r1 w1 s1=>gZ I3 (s1.out 2 rfl) λ it w2 s2=>?_;have s2:St w0 w2 (Sep [uR r2 it l2 [],ai r1 lim.vs.toArray 34,mapA r l,B]):=s2;refine⟨λ w3 m=>∃ (S l' : List KV),m=l2.length-S.length/\(∀ p∈S,p∈l2)/\bQ lim l' (bp lim f S)/\St w0 w3 (Sep [uR r2 it l2 S,ai r1 lim.vs.toArray 34,mapA r l',B]),⟨_,[],l,rfl,by simp,h,s2⟩,?_⟩;rintro w3 m ⟨S,l',rfl,hS,hr,s3⟩ -;refine kV s3 (λ hend=>⟨rfl,l',?_,?_⟩) (λ p hp hlen w4 s4=>?_)
 ·rw[dK (Q:=l2) (Q':=S) λ p=>⟨hend p,hS p⟩]; exact hr
 ·have s5:St w0 w3 (Sep [mapA r2 l2,ai r1 lim.vs.toArray 34,mapA r l',B]):=St.uS s3;exact(s5.au [2,0,3]).triple
 ·have s4:St w0 w4 (Sep [uR r2 it l2 (S++[p]),ai r1 lim.vs.toArray 34,mapA r l',B]):=s4;have hk:=h2.key hn2 hp;refine s4.ax z6.vs.toArray λ r3 w6 s6=>s6.ay 0 rfl p.1.vs rfl (I6.one _) λ w7 s7=>⟨lim,s7.cellsIn 2 rfl,p.1,s7.cellsIn 0 rfl,aj (lF (s7.out 3 rfl) hr hl (sD hk.1 (by omega)) p.2) ?_⟩;rintro x w8 ⟨rfl,l'',hr2,s8⟩;have s9:=(s8.back (show 3<5 by decide)).au [1,2,3,4];refine⟨rfl,_,?_,S++[p],l'',rfl,?_,?_,s9⟩
  ·rw[List.length_append,List.length_singleton]; omega
  ·intro q hq;rcases List.mem_append.1 hq with hq|hq
   ·exact hS q hq
   ·rw[List.mem_singleton.1 hq]; exact hp
  ·rw[<- gr]; exact hr2
end
section
variable {w0 w:World} {B:aD} {r r1 r2:Nat} {l l1 l2:List KV} {lim:I6} {f g:Wf}
theorem St.OD(s:St w0 w (star (bg r (.map #[] 0)) B)):St w0 w (star (mapA r []) B) :=
 St.qx (f:=λ (x:{ p:Array MapEntry×Nat // Bt p.1.toList p.2 [] })=>bg r (.map x.1.1 x.1.2)) ⟨(#[],0),rfl,by simp,by simp,by simp⟩ s
def xK(p q:KV):KV:=(p.1.zip (· + ·) q.1,p.2+q.2)
def Cf(l1 l2:List KV):List KV:=l1.flatMap λ p=>l2.map (xK p)
theorem xA{l1 l2:List KV}{x:KV}:x∈Cf l1 l2<->∃ p∈l1,∃ q∈l2,xK p q=x:=by simp[Cf]
theorem LR{p q:KV}(hp:I6.Le p.1 4)(hq:I6.Le q.1 4):I6.Le (xK p q).1 1000000:=λ k hk=>by
 have h1:=hp k hk; have h2:=hq k hk;show 0<=(p.1.zip (· + ·) q.1).at' k/\_;rw[I6.jf _ _ _ _ hk];show 0<=p.1.at' k+q.1.at' k/\(p.1.zip (· + ·) q.1).at' k<=1000000;rw[I6.jf _ _ _ _ hk];omega
theorem QC(s:St w0 w (star (mapA r1 l1) (star (mapA r2 l2) B)))(h1:bQ lim l1 f)(h2:bQ lim l2 g)(hl:I6.Le lim 4) :
  CP 157 #[.agg lim.vs.toArray,.map (some r1),.map (some r2)] w (λ x w'=>∃ r3 l3,x=.map (some r3)/\bQ lim l3 (bp lim (λ _=>0) (l1++(l2++Cf l1 l2)))/\St w0 w' (star (mapA r3 l3) (star (mapA r1 l1) (star (mapA r2 l2) B)))):=by
 refine vC ?_;unfold ri;have hn1:=oH s;have hn2:=oH s.zU;refine(s.p4).ax lim.vs.toArray λ b1 w1 s1=>kU s1 λ r3 w2 c2 s2=>?_;have s3:St w0 w2 (Sep [mapA r3 [],ai b1 lim.vs.toArray 34,mapA r1 l1,mapA r2 l2,B]):=St.OD s2;refine⟨lim,s3.cellsIn 1 rfl,aj (ue (f:=λ _=>0) (g:=f) (s3.au [0,2,1,3,4]) (bQ.nil lim) h1 hl) ?_⟩;rintro x w3 ⟨rfl,l4,hr4,s4⟩;have s4:St w0 w3 (Sep [mapA r3 l4,mapA r1 l1,ai b1 lim.vs.toArray 34,mapA r2 l2,B]):=s4;refine⟨rfl,lim,s4.cellsIn 2 rfl,aj (ue (g:=g) (s4.au [0,3,1,2,4]) hr4 h2 hl) ?_⟩;rintro x w5 ⟨rfl,l5,hr5,s5⟩;rw[FD] at hr5;have s5:St w0 w5 (Sep [mapA r3 l5,mapA r2 l2,mapA r1 l1,ai b1 lim.vs.toArray 34,B]):=s5;refine⟨rfl,gZ I3 (s5.out 2 rfl) λ it w6 s6=>?_⟩;have s6:St w0 w6 (Sep [uR r1 it l1 [],mapA r3 l5,mapA r2 l2,ai b1 lim.vs.toArray 34,B]):=s6;refine⟨λ w7 m=>∃ (S l' : List KV),m=l1.length-S.length/\(∀ p∈S,p∈l1)/\bQ lim l' (bp lim (λ _=>0) ((l1++l2)++Cf S l2))/\St w0 w7 (Sep [uR r1 it l1 S,mapA r3 l',mapA r2 l2,ai b1 lim.vs.toArray 34,B]),⟨_,[],l5,rfl,by simp,by simpa[Cf] using hr5,s6⟩,?_⟩;rintro w7 m ⟨S,l',rfl,hS,hr,s7⟩ -;refine kV s7 (λ hend=>⟨r3,l',rfl,?_,?_⟩) (λ p hp hlen w8 s8=>?_)
 ·rw[dK (Q:=l1++(l2++Cf l1 l2)) (Q':=(l1++l2)++Cf S l2) λ x=>?_]; exact hr;have:x∈Cf l1 l2<->x∈Cf S l2:=by
   rw[xA,xA];exact⟨λ ⟨p,h1,h2⟩=>⟨p,hend p h1,h2⟩,λ ⟨p,h1,h2⟩=>⟨p,hS p h1,h2⟩⟩
  rw[List.mem_append,List.mem_append,List.mem_append,List.mem_append,this,or_assoc]
 ·have t:St w0 w7 (Sep [mapA r1 l1,mapA r3 l',mapA r2 l2,ai b1 lim.vs.toArray 34,B]):=St.uS s7;exact(t.au [1,0,2,4]).eqv (aT.right (aT.right (aT.right (aT.unit' _))))
 ·have s8:St w0 w8 (Sep [uR r1 it l1 (S++[p]),mapA r3 l',mapA r2 l2,ai b1 lim.vs.toArray 34,B]):=s8;have hk:=h1.key hn1 hp;refine s8.ax z6.vs.toArray λ b3 w9 s9=>s9.ay 0 rfl p.1.vs rfl (I6.one _) λ w10 s10=>gZ I3 (s10.out 3 rfl) λ it2 w11 s11=>?_;have s11:St w0 w11 (Sep [uR r2 it2 l2 [],ai b3 p.1.vs.toArray 34,uR r1 it l1 (S++[p]),mapA r3 l',ai b1 lim.vs.toArray 34,B]):=s11;refine⟨λ w12 m=>∃ (T l' : List KV),m=l2.length-T.length/\(∀ q∈T,q∈l2)/\bQ lim l' (bp lim (λ _=>0) (((l1++l2)++Cf S l2)++T.map (xK p)))/\St w0 w12 (Sep [uR r2 it2 l2 T,ai b3 p.1.vs.toArray 34,uR r1 it l1 (S++[p]),mapA r3 l',ai b1 lim.vs.toArray 34,B]),⟨_,[],l',rfl,by simp,by simpa using hr,s11⟩,?_⟩;rintro w12 m ⟨T,l',rfl,hT,hr,s12⟩ -;refine kV s12 (λ hend=>?_) (λ q hq hlen2 w14 s14=>?_)
  ·have t:St w0 w12 (Sep [mapA r2 l2,ai b3 p.1.vs.toArray 34,uR r1 it l1 (S++[p]),mapA r3 l',ai b1 lim.vs.toArray 34,B]):=St.uS s12;refine⟨_,?_,S++[p],l',rfl,?_,?_,t.au [2,3,0,4,5]⟩
   ·rw[List.length_append,List.length_singleton]; omega
   ·intro q hq;rcases List.mem_append.1 hq with hq|hq
    ·exact hS q hq
    ·rw[List.mem_singleton.1 hq]; exact hp
   ·rw[dK (Q:=(l1++l2)++Cf (S++[p]) l2) (Q':=((l1++l2)++Cf S l2)++T.map (xK p)) λ x=>?_]; exact hr;have e1:Cf (S++[p]) l2=Cf S l2++l2.map (xK p):=by simp[Cf]
    have e2:x∈l2.map (xK p)<->x∈T.map (xK p):=by
     rw[List.mem_map,List.mem_map];exact⟨λ ⟨q,h1,h2⟩=>⟨q,hend q h1,h2⟩,λ ⟨q,h1,h2⟩=>⟨q,hT q h1,h2⟩⟩
    rw[e1,<- List.append_assoc,List.mem_append,List.mem_append (t:=T.map (xK p)),e2]
  ·have s14:St w0 w14 (Sep [uR r2 it2 l2 (T++[q]),ai b3 p.1.vs.toArray 34,uR r1 it l1 (S++[p]),mapA r3 l',ai b1 lim.vs.toArray 34,B]):=s14;have hk2:=h2.key hn2 hq;refine s14.ax z6.vs.toArray λ b5 w15 s15=>s15.ay 0 rfl q.1.vs rfl (I6.one _) λ w16 s16=>?_;have s17:=s16.quiet (aA.drew w16 []);refine⟨lim,s17.cellsIn 5 rfl,p.1,s17.cellsIn 2 rfl,q.1,s17.cellsIn 0 rfl,aj (QN _ p.1 q.1 (sD hk.1 (by omega)) (sD hk2.1 (by omega))) ?_⟩;rintro x w18 ⟨rfl,c18⟩;have s18:=s17.quiet c18;refine⟨_,rfl,s18.cellsIn 5 rfl,?_⟩;rw[aB (n:=p.2+q.2) ⟨by omega,by omega⟩];refine aj (lF (s18.out 4 rfl) hr hl (b:=(xK p q).1) (LR hk.1 hk2.1) (xK p q).2) ?_;rintro x w19 ⟨rfl,l'',hr2,s19⟩;have s20:=(s19.back (show 4<7 by decide)).au [1,2,3,4,5,6];refine⟨rfl,_,?_,T++[q],l'',rfl,?_,?_,s20⟩
   ·rw[List.length_append,List.length_singleton]; omega
   ·intro y hy;rcases List.mem_append.1 hy with hy|hy
    ·exact hT y hy
    ·rw[List.mem_singleton.1 hy]; exact hq
   ·rw[List.map_append,List.map_singleton,<- List.append_assoc,<- gr]; exact hr2
end
def r5:List Int:=[0,1,2,3,4]
theorem uW{a:Int}(h:0<=a/\a<=4):a∈r5:=by
 have:a=0\/a=1\/a=2\/a=3\/a=4:=by omega
 simpa[r5] using this
def ON:List I6:=r5.flatMap λ a=>r5.flatMap λ b=>r5.flatMap λ c=>r5.flatMap λ d=>r5.flatMap λ e=>r5.map λ f=>⟨a,b,c,d,e,f⟩
theorem Kn{u:I6}(h:I6.Le u 4):u∈ON:=by
 have h0:=uW (h 0 (by decide)); have h1:=uW (h 1 (by decide)); have h2:=uW (h 2 (by decide));have h3:=uW (h 3 (by decide)); have h4:=uW (h 4 (by decide)); have h5:=uW (h 5 (by decide));unfold ON;exact List.mem_flatMap.2 ⟨_,h0,List.mem_flatMap.2 ⟨_,h1,List.mem_flatMap.2 ⟨_,h2,List.mem_flatMap.2 ⟨_,h3,List.mem_flatMap.2 ⟨_,h4,List.mem_map.2 ⟨_,h5,rfl⟩⟩⟩⟩⟩⟩
def zR(f:Wf):List KV:=(ON.filter λ u=>decide (0<f u)).map λ u=>(u,f u)
theorem bQ.zR{lim:I6}{l:List KV}{f:Wf}(h:bQ lim l f)(hn:(l.map (·.1)).Nodup)(p:KV):p∈l<->p∈zR f:=by
 rw[h.mem hn];constructor
 ·rintro⟨h1,h2⟩;exact List.mem_map.2 ⟨p.1,List.mem_filter.2 ⟨Kn (h.s _ h1).1,dT h1⟩,Prod.ext rfl h2.symm⟩
 ·intro hp;obtain⟨u,hu,rfl⟩:=List.mem_map.1 hp;exact⟨of_decide_eq_true (List.mem_filter.1 hu).2,rfl⟩
def vU(k p:KV):KV:=(p.1.zip (λ x y=>if y>x then y else x) k.1,p.2+k.2)
def Kp(v:Int)(p:KV):KV:=(p.1,if v<p.2 then v else p.2)
def zW:Wf:=λ _=>0
def F7(lim:I6)(f g:Wf):Wf:=bp lim f (zR g)
def M7(lim:I6)(f g:Wf):Wf:=bp lim zW (zR f++(zR g++Cf (zR f) (zR g)))
def O1(lim:I6)(k:KV)(g:Wf):Wf:=bp lim zW (zR g++([k]++(zR g).map (vU k)))
def PD(lim:I6)(v:Int)(g:Wf):Wf:=bp lim zW ((zR g).map (Kp v))
mutual
def lI(lim:I6):Xv->Wf
 | .mk op u v _ _ args =>
  if op=1 then bp lim zW [(u,v)]
  else if op=2 then (Fm lim args).foldl (F7 lim) zW
  else if op=3 then (Fm lim args).foldl (M7 lim) zW
  else if op=4 then O1 lim (u,v) ((Fm lim args).headD zW)
  else if op=5 then PD lim v ((Fm lim args).headD zW)
  else zW
def Fm(lim:I6):List Xv->List Wf
 | []=>[]
 | x :: l=>lI lim x :: Fm lim l
end
theorem GN(lim:I6):∀ l:List Xv,Fm lim l=l.map (lI lim)
 | []=>rfl
 | x :: l=>by rw[Fm,GN lim l]; rfl
theorem Fo(lim:I6)(x:Xv):lI lim x=if x.op=1 then bp lim zW [(x.u,x.v)]
  else if x.op=2 then (x.args.map (lI lim)).foldl (F7 lim) zW
  else if x.op=3 then (x.args.map (lI lim)).foldl (M7 lim) zW
  else if x.op=4 then O1 lim (x.u,x.v) ((x.args.map (lI lim)).headD zW)
  else if x.op=5 then PD lim x.v ((x.args.map (lI lim)).headD zW)
  else zW:=by cases x; rw[lI,GN]; rfl
theorem Ou(lim:I6):∀ x,lI lim x.er=lI lim x:=Xv.ind λ x ih=>by
 rw[Fo,Fo lim x,pR,List.map_map];have:x.args.map (lI lim ∘ Xv.er)=x.args.map (lI lim):=List.map_congr_left λ y hy=>ih y hy;rw[this,Xv.ot]; rfl
inductive Am:Xv->Prop where
 | mk {x:Xv} (f:fm x=true) (r:gu x=true) (k:∀ y∈x.args,Am y):Am x
theorem MX{x:Xv}:oJ 0 x=0<->fm x=true/\gu x=true:=by
 unfold oJ
 cases fm x<;>cases gu x<;>simp
theorem yZ:∀ (l:List Xv) (r:Int×Bool),r.2=false->eZ cZ l r=r
 | [],_,_=>rfl
 | y :: l,r,h=>by
  unfold eZ;rw[List.foldl_cons,if_neg (by rw[h]; decide)];exact yZ l r h
theorem MY:∀ (x:Xv),(bt cZ x 0).2=((bt cZ x 0).1==0):=Xv.ind λ x ih=>by
 rw[lG]
 by_cases h:(cZ 0 x).2=true
 ·rw[if_pos h];have h0:(cZ 0 x).1=0:=by simpa[cZ] using h
  rw[h0];have:∀ (l:List Xv),(∀ y∈l,(bt cZ y 0).2=((bt cZ y 0).1==0))->(eZ cZ l (0,true)).2=((eZ cZ l (0,true)).1==0):=λ l=>by
   induction l with
   | nil=>intro _; rfl
   | cons y l ih2 =>
    intro hl;have hy:=hl y (by simp);unfold eZ;rw[List.foldl_cons,if_pos rfl]
    cases hb:(bt cZ y 0).2 with
    | true =>
     have e0:(bt cZ y 0).1=0:=by rw[hb] at hy; simpa using hy.symm
     have:bt cZ y 0=(0,true):=Prod.ext e0 hb;rw[this]; exact ih2 λ z hz=>hl z (by simp[hz])
    | false =>
     have:=yZ l (bt cZ y 0) hb;unfold eZ at this;rw[this]; exact hy
  exact this x.args ih
 ·rw[if_neg h];show false=((cZ 0 x).1==0);have:(cZ 0 x).2=false:=by simpa using h
  rw[<- this]; rfl
theorem MD:∀ (x:Xv),(bt cZ x 0).1=0->Am x:=Xv.ind λ x ih h=>by
 rw[lG] at h
 by_cases hb:(cZ 0 x).2=true
 ·rw[if_pos hb] at h;have h0:oJ 0 x=0:=by simpa[cZ] using hb
  have h0' : (cZ 0 x).1=0:=h0;rw[h0'] at h;obtain⟨hf,hr⟩:=MX.1 h0;refine .mk hf hr λ y hy=>ih y hy ?_;have:∀ (l:List Xv),(eZ cZ l (0,true)).1=0->∀ y∈l,(bt cZ y 0).1=0:=λ l=>by
   induction l with
   | nil=>intro _ y hy; cases hy
   | cons z l ih2 =>
    intro hl y hy;unfold eZ at hl;rw[List.foldl_cons,if_pos rfl] at hl;have hz:=MY z
    cases hb:(bt cZ z 0).2 with
    | true =>
     have e0:(bt cZ z 0).1=0:=by rw[hb] at hz; simpa using hz.symm
     have ee:bt cZ z 0=(0,true):=Prod.ext e0 hb;rw[ee] at hl;rcases List.mem_cons.1 hy with rfl|hy
     ·exact e0
     ·exact ih2 hl y hy
    | false =>
     have:=yZ l (bt cZ z 0) hb;unfold eZ at this;rw[this] at hl;rw[hl,hb] at hz; cases hz
  exact this _ h y hy
 ·rw[if_neg hb] at h;exact absurd (show(cZ 0 x).2=true by show(oJ 0 x==0)=true; rw[show oJ 0 x=0 from h]; rfl) hb
theorem J1{x:Xv}(h:dH x=0):Am x:=by
 unfold dH at h
 split at h
 ·cases h
 ·split at h
  ·cases h
  ·exact MD x h
section
variable {lim:I6}
def RW(lim:I6)(x:Xv):Prop:=∀ (w0 w:World) (B:aD),(∀ {w'},aA w0 w' []->x.In w')->St w0 w B ->
 CP 106 #[.agg x.cells.toArray,.agg lim.vs.toArray] w (λ v w'=>∃ r l,v=.map (some r)/\bQ lim l (lI lim x)/\St w0 w' (star (mapA r l) B))
theorem xE{w0 w:World}{L:List aD}{x y:Xv}{r1 r2:Nat}{i:Nat}(H:RW lim y)(hx:∀ {w'},aA w0 w' []->x.In w')(s:St w0 w (Sep L)){j1 j2:Nat}(e1:L[j1]?=some (ai r1 x.cells.toArray 60))(e2:L[j2]?=some (ai r2 lim.vs.toArray 34))(hy:x.args[i]?=some y) :
  CP 154 #[iv i,pt r1,pt r2] w (λ v w'=>∃ r l,v=.map (some r)/\bQ lim l (lI lim y)/\St w0 w' (Sep (mapA r l :: L))):=by
 refine ud ?_;unfold pH;have s1:=s.quiet (aA.drew w []);have hi:=(List.getElem?_eq_some_iff.1 hy).1;obtain⟨q,hq,hcl⟩:=(hx s1.av).fl.at hy;refine⟨_,_,_,s1.ag j1 e1 8,ak hq ⟨by omega,by omega,_,y.u,_,_,_,_,by rw[Int.toNat_natCast]; exact hcl,lim,s1.cellsIn j2 e2,aj (H w0 _ _ (λ hc=>(hx hc).sub y (List.mem_of_getElem? hy)) s1) ?_⟩⟩;rintro v w1 ⟨r,l,rfl,hr,s2⟩;exact⟨_,rfl,r,l,rfl,hr,s2⟩
theorem kN{α β:Type}{f:α->β->α}{a:α}{l:List β}{k:Nat}{x:β}(h:l[k]?=some x):(l.take (k+1)).foldl f a=f ((l.take k).foldl f a) x:=by rw[aG h,List.foldl_append]; rfl
theorem R9(hl:I6.Le lim 4):∀ x,Am x->aO x<=100000->RW lim x:=Xv.ind λ x ih hg hz w0 w B hx s=>by
 refine xo (u1:=x.u) ?_;unfold uc;have hlen:=xQ x;obtain⟨hf,hrg,hk⟩:fm x=true/\gu x=true/\∀ y∈x.args,Am y:=by cases hg; exact⟨‹_›,‹_›,‹_›⟩
 have eF:=Fo lim x;have HY:∀ y∈x.args,RW lim y:=λ y hy=>ih y hy (hk y hy) (by have:=zA hy; omega);refine s.one.ax x.cells.toArray λ r1 w1 s1=>s1.ax lim.vs.toArray λ r2 w2 s2=>kU s2 λ r3 w3 c3 s3=>?_;let M:List KV->List aD:=λ l=>[mapA r3 l,ai r2 lim.vs.toArray 34,ai r1 x.cells.toArray 60,B];have s3:St w0 w3 (Sep (M [])):=St.OD s3;have fin:∀ {w' : World} {l:List KV},St w0 w' (Sep (M l))->St w0 w' (star (mapA r3 l) B):=λ s=>(s.au [0,3]).pair;refine⟨λ m w4=>∃ r l,m=some r/\bQ lim l (lI lim x)/\St w0 w4 (star (mapA r l) B),?_,_,s3.ag 2 rfl 0,?_⟩
 ·rintro w4 m ⟨r,l,rfl,hr,s4⟩ -;exact⟨r,l,rfl,hr,s4⟩
 have hu:x.op≠2->x.op≠3->x.op≠5->I6.Le x.u 4:=λ h2 h3 h5=>by
  unfold gu at hrg;rw[if_neg (by rintro(h|h); exact h2 h; exact h3 h)] at hrg
  split at hrg
  ·cases hrg
  ·first|rw[if_neg h5] at hrg|skip
   rw[Bool.and_eq_true] at hrg;exact It hrg.1
 have hv:x.op≠2->x.op≠3->1<=x.v/\x.v<=1000000:=λ h2 h3=>by
  unfold gu at hrg;rw[if_neg (by rintro(h|h); exact h2 h; exact h3 h)] at hrg
  split at hrg
  ·cases hrg
  ·rename_i h; omega
 by_cases h1:x.op=1
 ·rw[if_pos h1] at eF;refine cT (by simpa using h1) ⟨lim,s3.cellsIn 1 rfl,x.u,s3.aF 2 1 rfl rfl,_,s3.ag 2 rfl 7,aj (lF s3 (bQ.nil lim) hl (sD (hu (by omega) (by omega) (by omega)) (by omega)) x.v) ?_⟩;rintro v w5 ⟨rfl,l',hr,s5⟩;exact⟨rfl,r3,l',rfl,by rw[eF]; exact hr,fin s5⟩
 rw[if_neg h1] at eF;refine cF (by simpa using h1) ?_
 by_cases h2:x.op=2
 ·rw[if_pos h2] at eF;refine cT (by simpa using h2) ⟨_,_,_,s3.ag 2 rfl 8,λ i w6 m=>∃ (k:Nat) (l:List KV),i=k/\k<=x.args.length/\m=x.args.length-k/\bQ lim l (((x.args.take k).map (lI lim)).foldl (F7 lim) zW)/\St w0 w6 (Sep (M l)),⟨x.args.length,0,[],rfl,by omega,by omega,bQ.nil lim,s3⟩,?_⟩;rintro w6 m i ⟨k,l,rfl,hk1,hm,hr,s6⟩ -
  by_cases hlt:(k:Int)<(x.args.length:Int)
  ·have hy:x.args[k]?=some (x.args[k]'(by omega)):=gE (by omega);generalize x.args[k]'(by omega)=y at hy;have s7:=s6.quiet (aA.drew w6 []);refine cT (dT hlt) ⟨lim,s7.cellsIn 1 rfl,aj (xE (HY y (List.mem_of_getElem? hy)) hx s7 (j1:=2) (j2:=1) rfl rfl hy) ?_⟩;rintro v w7 ⟨r4,l4,rfl,hr4,s8⟩;have s8:St w0 w7 (Sep [mapA r4 l4,mapA r3 l,ai r2 lim.vs.toArray 34,ai r1 x.cells.toArray 60,B]):=s8;have hn4:=oH s8;refine⟨_,rfl,s8.cellsIn 2 rfl,aj (ue (s8.au [1,0,2,3,4]) hr hr4 hl) ?_⟩;rintro v w9 ⟨rfl,l5,hr5,s9⟩;have s9:St w0 w9 (Sep [mapA r3 l5,mapA r4 l4,ai r2 lim.vs.toArray 34,ai r1 x.cells.toArray 60,B]):=s9;refine⟨rfl,x.args.length-(k+1),by omega,k+1,l5,aB ⟨by omega,by omega⟩,by omega,rfl,?_,s9.au [0,2,3,4]⟩;have e:((x.args.take (k+1)).map (lI lim)).foldl (F7 lim) zW=F7 lim (((x.args.take k).map (lI lim)).foldl (F7 lim) zW) (lI lim y):=by
    rw[aG hy,List.map_append,List.foldl_append]; rfl
   rw[e,F7,<- dK (Q:=l4) λ p=>hr4.zR hn4 p]; exact hr5
  ·obtain rfl:x.args.length=k:=by omega
   rw[List.take_length] at hr;exact cF (dF hlt) ⟨r3,l,rfl,by rw[eF]; exact hr,fin s6⟩
 rw[if_neg h2] at eF;refine cF (by simpa using h2) ?_
 by_cases h3:x.op=3
 ·rw[if_pos h3] at eF;let M3:Nat->List KV->List aD:=λ r l=>[mapA r l,ai r2 lim.vs.toArray 34,ai r1 x.cells.toArray 60,B];refine cT (by simpa using h3) ⟨_,_,_,s3.ag 2 rfl 8,λ m i w6 k'=>∃ (k:Nat) (r:Nat) (l:List KV),m=some r/\i=k/\k<=x.args.length/\k' = x.args.length-k/\bQ lim l (((x.args.take k).map (lI lim)).foldl (M7 lim) zW)/\St w0 w6 (Sep (M3 r l)),⟨x.args.length,0,r3,[],rfl,rfl,by omega,by omega,bQ.nil lim,s3⟩,?_⟩;rintro w6 k' m i ⟨k,r,l,rfl,rfl,hk1,hm,hr,s6⟩ -
  by_cases hlt:(k:Int)<(x.args.length:Int)
  ·have hy:x.args[k]?=some (x.args[k]'(by omega)):=gE (by omega);generalize x.args[k]'(by omega)=y at hy;have s7:=s6.quiet (aA.drew w6 []);have hn:=oH s7;refine cT (dT hlt) ⟨lim,s7.cellsIn 1 rfl,aj (xE (HY y (List.mem_of_getElem? hy)) hx s7 (j1:=2) (j2:=1) rfl rfl hy) ?_⟩;rintro v w7 ⟨r4,l4,rfl,hr4,s8⟩;have s8:St w0 w7 (Sep [mapA r4 l4,mapA r l,ai r2 lim.vs.toArray 34,ai r1 x.cells.toArray 60,B]):=s8;have hn4:=oH s8;refine⟨_,rfl,s8.cellsIn 2 rfl,aj (QC (s8.au [1,0,2,3,4]) hr hr4 hl) ?_⟩;rintro v w9 ⟨r5,l5,rfl,hr5,s9⟩;have s9:St w0 w9 (Sep [mapA r5 l5,mapA r l,mapA r4 l4,ai r2 lim.vs.toArray 34,ai r1 x.cells.toArray 60,B]):=s9;refine⟨_,rfl,x.args.length-(k+1),by omega,k+1,r5,l5,rfl,aB ⟨by omega,by omega⟩,by omega,rfl,?_,s9.au [0,3,4,5]⟩;have e:((x.args.take (k+1)).map (lI lim)).foldl (M7 lim) zW=M7 lim (((x.args.take k).map (lI lim)).foldl (M7 lim) zW) (lI lim y):=by
    rw[aG hy,List.map_append,List.foldl_append]; rfl
   rw[e,M7,<- dK (Q:=l++(l4++Cf l l4)) λ p=>?_]; exact hr5;have e1:∀ p,p∈l<->p∈zR (((x.args.take k).map (lI lim)).foldl (M7 lim) zW):=λ p=>hr.zR hn p;have e2:∀ p,p∈l4<->p∈zR (lI lim y):=λ p=>hr4.zR hn4 p;have e3:p∈Cf l l4<->p∈Cf (zR (((x.args.take k).map (lI lim)).foldl (M7 lim) zW)) (zR (lI lim y)):=by
    rw[xA,xA];exact⟨λ ⟨a,ha,b,hb,h⟩=>⟨a,(e1 a).1 ha,b,(e2 b).1 hb,h⟩,λ ⟨a,ha,b,hb,h⟩=>⟨a,(e1 a).2 ha,b,(e2 b).2 hb,h⟩⟩
   rw[List.mem_append,List.mem_append,List.mem_append,List.mem_append,e1,e2,e3]
  ·obtain rfl:x.args.length=k:=by omega
   rw[List.take_length] at hr;exact cF (dF hlt) ⟨r,l,rfl,by rw[eF]; exact hr,(s6.au [0,3]).pair⟩
 rw[if_neg h3] at eF;refine cF (by simpa using h3) ?_;have one:x.op=4\/x.op=5->∃ y,x.args[0]?=some y/\(x.args.map (lI lim)).headD zW=lI lim y:=λ h=>by
  have h1' : x.args.length=1:=by
   unfold fm at hf;rw[if_neg h1,if_neg (by rintro(h|h); exact h2 h; exact h3 h)] at hf;rcases h with h|h
   ·rw[if_pos h] at hf; simpa using hf
   ·rw[if_neg (by omega),if_pos h,Bool.and_eq_true] at hf; simpa using hf.1
  cases ha:x.args with
  | nil=>rw[ha] at h1'; cases h1'
  | cons y l=>exact⟨y,rfl,rfl⟩
 have hv':=hv h2 h3
 by_cases h4:x.op=4
 ·rw[if_pos h4] at eF;obtain⟨y,hy,ey⟩:=one (.inl h4);rw[ey] at eF;refine cT (by simpa using h4) (aj (xE (i:=0) (HY y (List.mem_of_getElem? hy)) hx s3 (j1:=2) (j2:=1) rfl rfl hy) ?_);rintro v w12 ⟨r4,l4,rfl,hr4,s4⟩;have s4:St w0 w12 (Sep [mapA r4 l4,mapA r3 [],ai r2 lim.vs.toArray 34,ai r1 x.cells.toArray 60,B]):=s4;have hn4:=oH s4;refine⟨_,rfl,lim,s4.cellsIn 2 rfl,aj (ue (s4.au [1,0,2,3,4]) (bQ.nil lim) hr4 hl) ?_⟩;rintro v w13 ⟨rfl,l5,hr5,s5⟩;have s5:St w0 w13 (Sep [mapA r3 l5,mapA r4 l4,ai r2 lim.vs.toArray 34,ai r1 x.cells.toArray 60,B]):=s5;have hxu:=hu (by omega) (by omega) (by omega);refine⟨rfl,lim,s5.cellsIn 2 rfl,x.u,s5.aF 3 1 rfl rfl,_,s5.ag 3 rfl 7,aj (lF s5 hr5 hl (sD hxu (by omega)) x.v) ?_⟩;rintro v w14 ⟨rfl,l6,hr6,s6⟩;rw[gr] at hr6;have s6:St w0 w14 (Sep [mapA r3 l6,mapA r4 l4,ai r2 lim.vs.toArray 34,ai r1 x.cells.toArray 60,B]):=s6;refine⟨rfl,gZ I3 (s6.out 1 rfl) λ it w15 s7=>?_⟩;have s7:St w0 w15 (Sep [uR r4 it l4 [],mapA r3 l6,ai r2 lim.vs.toArray 34,ai r1 x.cells.toArray 60,B]):=s7;refine⟨λ w16 m=>∃ (S l' : List KV),m=l4.length-S.length/\(∀ p∈S,p∈l4)/\bQ lim l' (bp lim zW ((l4++[(x.u,x.v)])++S.map (vU (x.u,x.v))))/\St w0 w16 (Sep [uR r4 it l4 S,mapA r3 l',ai r2 lim.vs.toArray 34,ai r1 x.cells.toArray 60,B]),⟨_,[],l6,rfl,by simp,by rw[List.map_nil,List.append_nil]; exact hr6,s7⟩,?_⟩;rintro w16 m ⟨S,l',rfl,hS,hr,s8⟩ -;refine kV s8 (λ hend=>⟨r3,l',rfl,?_,?_⟩) (λ p hp hlen2 w18 s9=>?_)
  ·rw[eF,O1,<- dK (Q:=(l4++[(x.u,x.v)])++S.map (vU (x.u,x.v))) λ q=>?_]; exact hr;have e2:∀ q,q∈l4<->q∈zR (lI lim y):=λ q=>hr4.zR hn4 q;have e3:q∈S.map (vU (x.u,x.v))<->q∈(zR (lI lim y)).map (vU (x.u,x.v)):=by
    rw[List.mem_map,List.mem_map];exact⟨λ ⟨a,ha,h⟩=>⟨a,(e2 a).1 (hS a ha),h⟩,λ ⟨a,ha,h⟩=>⟨a,hend a ((e2 a).2 ha),h⟩⟩
   rw[List.mem_append,List.mem_append,List.mem_append,List.mem_append,e2,e3,or_assoc]
  ·have t:St w0 w16 (Sep [mapA r4 l4,mapA r3 l',ai r2 lim.vs.toArray 34,ai r1 x.cells.toArray 60,B]):=St.uS s8;exact(t.au [1,4]).pair
  ·have s9:St w0 w18 (Sep [uR r4 it l4 (S++[p]),mapA r3 l',ai r2 lim.vs.toArray 34,ai r1 x.cells.toArray 60,B]):=s9;have hkp:=hr4.key hn4 hp;refine s9.ax z6.vs.toArray λ b4 w19 s10=>s10.ay 0 rfl p.1.vs rfl (I6.one _) λ w20 s11=>?_;have s12:=s11.quiet (aA.drew w20 []);refine⟨lim,s12.cellsIn 3 rfl,p.1,s12.cellsIn 0 rfl,x.u,s12.aF 4 1 rfl rfl,_,s12.ag 4 rfl 7,aj (PB _ p.1 x.u) ?_⟩;rintro v w21 ⟨rfl,c21⟩;have s13:=s12.quiet c21;refine⟨_,rfl,s13.ag 4 rfl 7,s13.cellsIn 3 rfl,?_⟩;have hw:IntKind.i64.wrap (p.2+x.v)=p.2+x.v:=aB ⟨by omega,by omega⟩;show Calls _ _ #[_,_,_,iv (IntKind.i64.wrap (p.2+x.v))] _ _;rw[hw];have hj:I6.Le (vU (x.u,x.v) p).1 1000000:=λ k hk=>by
    have q1:=hkp.1 k hk; have q2:=hxu k hk;show 0<=(p.1.zip _ x.u).at' k/\(p.1.zip _ x.u).at' k<=1000000;rw[I6.jf _ _ _ _ hk]
    split<;>omega
   refine aj (lF (s13.out 2 rfl) hr hl (b:=(vU (x.u,x.v) p).1) hj (vU (x.u,x.v) p).2) ?_;rintro v w22 ⟨rfl,l'',hr2,s14⟩;have s15:=(s14.back (show 2<6 by decide)).au [1,2,3,4,5];refine⟨rfl,_,?_,S++[p],l'',rfl,?_,?_,s15⟩
   ·rw[List.length_append,List.length_singleton]; omega
   ·intro q hq;rcases List.mem_append.1 hq with hq|hq
    ·exact hS q hq
    ·rw[List.mem_singleton.1 hq]; exact hp
   ·rw[List.map_append,List.map_singleton,<- List.append_assoc,<- gr]; exact hr2
 rw[if_neg h4] at eF;refine cF (by simpa using h4) ?_
 by_cases h5:x.op=5
 ·rw[if_pos h5] at eF;obtain⟨y,hy,ey⟩:=one (.inr h5);rw[ey] at eF;refine cT (by simpa using h5) (aj (xE (i:=0) (HY y (List.mem_of_getElem? hy)) hx s3 (j1:=2) (j2:=1) rfl rfl hy) ?_);rintro v w12 ⟨r4,l4,rfl,hr4,s4⟩;have s4:St w0 w12 (Sep [mapA r4 l4,mapA r3 [],ai r2 lim.vs.toArray 34,ai r1 x.cells.toArray 60,B]):=s4;have hn4:=oH s4;refine⟨_,rfl,gZ I3 s4 λ it w15 s7=>?_⟩;have s7:St w0 w15 (Sep [uR r4 it l4 [],mapA r3 [],ai r2 lim.vs.toArray 34,ai r1 x.cells.toArray 60,B]):=s7;refine⟨λ w16 m=>∃ (S l' : List KV),m=l4.length-S.length/\(∀ p∈S,p∈l4)/\bQ lim l' (bp lim zW (S.map (Kp x.v)))/\St w0 w16 (Sep [uR r4 it l4 S,mapA r3 l',ai r2 lim.vs.toArray 34,ai r1 x.cells.toArray 60,B]),⟨_,[],[],rfl,by simp,bQ.nil lim,s7⟩,?_⟩;rintro w16 m ⟨S,l',rfl,hS,hr,s8⟩ -;refine kV s8 (λ hend=>⟨r3,l',rfl,?_,?_⟩) (λ p hp hlen2 w18 s9=>?_)
  ·rw[eF,PD,<- dK (Q:=S.map (Kp x.v)) λ q=>?_]; exact hr;have e2:∀ q,q∈l4<->q∈zR (lI lim y):=λ q=>hr4.zR hn4 q;rw[List.mem_map,List.mem_map];exact⟨λ ⟨a,ha,h⟩=>⟨a,(e2 a).1 (hS a ha),h⟩,λ ⟨a,ha,h⟩=>⟨a,hend a ((e2 a).2 ha),h⟩⟩
  ·have t:St w0 w16 (Sep [mapA r4 l4,mapA r3 l',ai r2 lim.vs.toArray 34,ai r1 x.cells.toArray 60,B]):=St.uS s8;exact(t.au [1,4]).pair
  ·have s9:St w0 w18 (Sep [uR r4 it l4 (S++[p]),mapA r3 l',ai r2 lim.vs.toArray 34,ai r1 x.cells.toArray 60,B]):=s9;have hkp:=hr4.key hn4 hp;refine s9.ax z6.vs.toArray λ b4 w19 s10=>s10.ay 0 rfl p.1.vs rfl (I6.one _) λ w20 s11=>?_;refine⟨lim,s11.cellsIn 3 rfl,p.1,s11.cellsIn 0 rfl,_,s11.ag 4 rfl 7,aj (lF (s11.out 2 rfl) hr hl (b:=(Kp x.v p).1) (sD hkp.1 (by omega)) (Kp x.v p).2) ?_⟩;rintro v w22 ⟨rfl,l'',hr2,s14⟩;have s15:=(s14.back (show 2<6 by decide)).au [1,2,3,4,5];refine⟨rfl,_,?_,S++[p],l'',rfl,?_,?_,s15⟩
   ·rw[List.length_append,List.length_singleton]; omega
   ·intro q hq;rcases List.mem_append.1 hq with hq|hq
    ·exact hS q hq
    ·rw[List.mem_singleton.1 hq]; exact hp
   ·rw[List.map_append,List.map_singleton,<- gr]; exact hr2
 ·rw[if_neg h5] at eF;exact cF (by simpa using h5) ⟨r3,[],rfl,by rw[eF]; exact bQ.nil lim,fin s3⟩
end
abbrev tO (a:OA) (c:Nat) (l:List Int):aD:=bM 2 1 i1 a c l
def RJ(T:List Int)(i k:Nat):List Int:=T.set i (if T.getD k 0>T.getD i 0 then T.getD k 0 else T.getD i 0)
theorem NU(T:List Int)(i k:Nat):(RJ T i k).length=T.length:=by simp[RJ]
section
variable {w0 w:World} {B:aD} {g r3 r5:Nat} {n:Nat} {T:List Int} {i k:Nat}
def OC(g r3 r5 n i:Nat)(T:List Int)(B:aD):List aD:=[tO (some ⟨g,0,none⟩) n T,ai r3 #[.slice (some ⟨g,0,none⟩) n n] 130,ai r5 #[iv i] 3,B]
theorem Hu(s:St w0 w (Sep (OC g r3 r5 n i T B)))(hk:k<T.length):w.cell? (Addr.add ⟨g,0,none⟩ (((k:Nat):Int).toNat*1))=some (iv (T.getD k 0)):=by
 obtain⟨q,hq,hc⟩:=fG (St.rd bU (s.out 0 rfl)) (i:=k) (x:=T.getD k 0) (by rw[List.getD_eq_getElem?_getD,gE hk]; rfl)
 cases hq; exact hc
theorem Qw(s:St w0 w (Sep (OC g r3 r5 n i T B)))(hn:T.length=n)(hi:i<n)(hk:k<n) :
  CP 109 #[iv k,pt r3,pt r5] w (λ r w'=>r=.tuple #[]/\St w0 w' (Sep (OC g r3 r5 n i (RJ T i k) B))):=by
 refine pG ?_;unfold jU;have s1:=s.quiet (aA.drew w []);have c0:w.drew.cell? ⟨r3,0,none⟩=some (.slice (some ⟨g,0,none⟩) n n):=s1.ag 1 rfl 0;have c1:w.drew.cell? ⟨r5,0,none⟩=some (iv i):=s1.ag 2 rfl 0;refine⟨_,_,_,c0,_,c1,_,_,_,c0,_,c1,ak rfl ⟨by omega,by omega,_,Hu s1 (by omega),_,_,_,c0,ak rfl ⟨by omega,by omega,_,Hu s1 (by omega),ak rfl ⟨by omega,by omega,?_⟩⟩⟩⟩;rw[Int.toNat_natCast];exact St.iV (v:=iv) rfl (s1.out 0 rfl) (i:=i) (by omega) λ w2 s2=>⟨rfl,s2.back (show 0<4 by decide)⟩
def vw(m:I6):Nat->Int
 | 0=>1
 | j+1=>vw m j*(m.at' (5-j)+1)
theorem zF{m:I6}(h:I6.Le m 4):∀ j,j<=6->1<=vw m j/\vw m j<=5 ^ j
 | 0,_=>by show(1:Int)<=1/\(1:Int)<=5 ^ 0; decide
 | j+1,hj=>by
  have ih:=zF h j (by omega);have hm:=h (5-j) (by omega);have h1:vw m j*1<=vw m j*(m.at' (5-j)+1):=Int.mul_le_mul_of_nonneg_left (by omega) (by omega);have h2:vw m j*(m.at' (5-j)+1)<=vw m j*5:=Int.mul_le_mul_of_nonneg_left (by omega) (by omega);show 1<=vw m j*_/\vw m j*_<=5 ^ j*5;omega
def rz(m u:I6)(i:Nat):Nat->List Int->List Int
 | 0,T=>T
 | j+1,T=>if 0<u.at' (5-j) then RJ (rz m u i j T) i (i-(vw m j).toNat) else rz m u i j T
theorem sK(m u:I6)(i:Nat)(T:List Int):∀ j,(rz m u i j T).length=T.length
 | 0=>rfl
 | j+1=>by
  rw[rz]
  split
  ·rw[NU,sK m u i T j]
  ·exact sK m u i T j
theorem LZ{m u:I6}(hm:I6.Le m 4)(s:St w0 w (Sep (OC g r3 r5 n i T B)))(hn:T.length=n)(hi:i<n)(hu:∀ j,j<6->0<u.at' (5-j)->vw m j<=i)(h9:n<=100000) :
  CP 108 #[.agg m.vs.toArray,.agg u.vs.toArray,iv i,.func (.func 109) #[] #[pt r3,pt r5]] w (λ r w'=>r=.tuple #[]/\St w0 w' (Sep (OC g r3 r5 n i (rz m u i 6 T) B))):=by
 refine sw ?_;unfold ng;refine s.ax m.vs.toArray λ r1 w1 s1=>s1.ax u.vs.toArray λ r2 w2 s2=>?_;let M:List Int->List aD:=λ T=>ai r2 u.vs.toArray 34 :: ai r1 m.vs.toArray 34 :: OC g r3 r5 n i T B;refine⟨λ st k w3 x=>∃ j:Nat,st=vw m j/\k=5-(j:Int)/\j<=6/\x=6-j/\St w0 w3 (Sep (M (rz m u i j T))),⟨6,0,rfl,rfl,by omega,by omega,s2⟩,?_⟩;rintro w3 x st k ⟨j,rfl,rfl,hj,hx,s3⟩ -;have hb:=zF hm j hj;have h5:(5:Int) ^ j<=15625:=by
  have:j=0\/j=1\/j=2\/j=3\/j=4\/j=5\/j=6:=by omega
  rcases this with rfl|rfl|rfl|rfl|rfl|rfl|rfl<;>decide
 by_cases hj6:j<6
 ·have hk6:5-j<6:=by omega
  have ek:(5:Int)-(j:Int)=((5-j:Nat):Int):=by omega
  rw[ek];refine cT (dT (by omega)) ⟨λ w4=>St w0 w4 (Sep (M (rz m u i (j+1) T))),?_,by omega,by omega,u.at' (5-j),by rw[e9]; exact aH s3 0 rfl hk6,?_⟩
  ·rintro w4 s4 -;have hmk:=hm (5-j) hk6;have hb2:=zF hm (j+1) (by omega);have e2:vw m (j+1)=vw m j*(m.at' (5-j)+1):=rfl;have h52:(5:Int) ^ (j+1)<=15625:=by
    have:j=0\/j=1\/j=2\/j=3\/j=4\/j=5:=by omega
    rcases this with rfl|rfl|rfl|rfl|rfl|rfl<;>decide
   refine⟨by omega,by omega,m.at' (5-j),by rw[e9]; exact aH s4 1 rfl hk6,6-(j+1),by omega,j+1,?_,?_,by omega,rfl,s4⟩
   ·rw[aB (n:=m.at' (5-j)+1) ⟨by omega,by omega⟩,<- e2,aB ⟨by omega,by omega⟩]
   ·rw[aB ⟨by omega,by omega⟩]; omega
  ·by_cases hp:0<u.at' (5-j)
   ·have hs:=hu j hj6 hp;have e3:rz m u i (j+1) T=RJ (rz m u i j T) i (i-(vw m j).toNat):=by rw[rz,if_pos hp]
    have e4:IntKind.i64.wrap ((i:Int)-vw m j)=((i-(vw m j).toNat:Nat):Int):=by rw[aB ⟨by omega,by omega⟩]; omega
    refine cT (dT hp) (bn (by kernel_rfl) ?_);rw[e4];have s4:St w0 w3 (Sep (OC g r3 r5 n i (rz m u i j T) (Sep [B,ai r2 u.vs.toArray 34,ai r1 m.vs.toArray 34]))):=((s3.au [2,3,4,5,0,1]).split [_,_,_]).eqv (aT.right (aT.unit _)) |> St.cat;refine aj (Qw s4 (by rw[sK,hn]) hi (by omega)) ?_;rintro v w5 ⟨rfl,s5⟩;refine⟨rfl,?_⟩;rw[e3];have s6:=s5.dw [_,_,_];exact s6.au [4,5,0,1,2,3]
   ·have e3:rz m u i (j+1) T=rz m u i j T:=by rw[rz,if_neg hp]
    exact cF (dF hp) (by rw[e3]; exact s3)
 ·obtain rfl:j=6:=by omega
  exact cF (dF (by decide)) ⟨rfl,s3.au [2,3,4,5]⟩
end
def HO(_ u:I6)(k:Nat):I6:=u.put k (u.at' k-1)
def E6(m u:I6)(T:List Int):Nat->Int
 | 0=>-1
 | k+1=>if u.at' k=0 then E6 m u T k else if T.getD (rk m (HO m u k)).toNat 0>E6 m u T k then T.getD (rk m (HO m u k)).toNat 0 else E6 m u T k
theorem Pt{m u:I6}(h:EF m u){k:Nat}(hk:k<6)(h0:u.at' k≠0):EF m (HO m u k):=⟨h.mm,λ j hj=>by
 have h1:=h.u j hj; have h2:=h.u k hk;unfold HO;rw[I6.zf _ _ _ _ hk hj]
 split
 ·rename_i e; subst e; omega
 ·exact h1⟩
theorem JW{w:World}{m u:I6}(h:EF m u)(hp:pr m.l<=1024){a:OA}{c:Nat}{T:List Int}(hr:cW 1 i1 w a T)(hT:pr m.l=T.length) :
  CP 110 #[.agg m.vs.toArray,.agg u.vs.toArray,.slice a T.length c] w (λ r w'=>r=iv (E6 m u T 6)/\aA w w' []):=by
 refine uO ?_;unfold qP;refine(St.start w).one.ax m.vs.toArray λ r1 w1 s1=>s1.ax u.vs.toArray λ r2 w2 s2=>⟨u,s2.cellsIn 0 rfl,?_⟩;refine⟨λ n i w3 x=>∃ k:Nat,i=k/\k<=6/\x=6-k/\n=E6 m u T k/\St w w3 (Sep [ai r2 u.vs.toArray 34,ai r1 m.vs.toArray 34,emp]),⟨6,0,rfl,by omega,by omega,rfl,s2⟩,?_⟩;rintro w3 x n i ⟨k,rfl,hk,hx,rfl,s3⟩ -
 by_cases hlt:(k:Int)<6
 ·have hk' : k<6:=by omega
  refine cT (dT hlt) ⟨λ n w4=>n=E6 m u T (k+1)/\St w w4 (Sep [ai r2 u.vs.toArray 34,ai r1 m.vs.toArray 34,emp]),?_,by omega,by omega,u.at' k,u.get k hk',?_⟩
  ·rintro w4 n ⟨rfl,s4⟩ -;exact⟨6-(k+1),by omega,k+1,inc (by decide) hk',by omega,rfl,rfl,s4⟩
  by_cases h0:u.at' k=0
  ·exact cT (by simpa using h0) ⟨by rw[E6,if_pos h0],s3⟩
  have hin:=Pt h hk' h0;have hbd:=vn hin 6 (Nat.le_refl _);rw[<- FA] at hbd;have hu:=h.u k hk';have hmm:=h.mm k hk';have e1:E6 m u T (k+1)=if T.getD (rk m (HO m u k)).toNat 0>E6 m u T k then T.getD (rk m (HO m u k)).toNat 0 else E6 m u T k:=by rw[E6,if_neg h0]
  refine cF (by simpa using h0) ⟨u,s3.cellsIn 0 rfl,s3.ax z6.vs.toArray λ r3 w5 s5=>s5.ay 0 rfl u.vs rfl (I6.one _) λ w6 s6=>⟨by omega,by omega,?_⟩⟩;rw[e9,aB ⟨by omega,by omega⟩];refine s6.aJ 0 rfl hk' rfl λ w7 s7=>?_;rw[I6.pX _ _ _ hk'] at s7;refine⟨m,s7.cellsIn 2 rfl,HO m u k,s7.cellsIn 0 rfl,aj (P5 w7 m (HO m u k)) ?_⟩;rintro v w8 ⟨⟨n,e,rfl,he,hn⟩,c8⟩;obtain rfl:=he.2 ⟨hp,hin⟩;obtain rfl:=hn rfl;have s8:=(s7.quiet c8).au [1,2,3];obtain⟨j,hj⟩:=Int.eq_ofNat_of_zero_le hbd.1;have hjT:j<T.length:=by omega
  obtain⟨q,hq,hcl⟩:=fG (hr.av s8.av) (i:=j) (x:=T.getD j 0) (by rw[List.getD_eq_getElem?_getD,gE hjT]; rfl);refine⟨_,_,rfl,cT rfl (ak hq ⟨by show 0<=gM m (HO m u k) 6; omega,by show gM m (HO m u k) 6<_; omega,T.getD j 0,?_,?_,s8⟩)⟩
  ·show w8.cell? (Addr.add q ((gM m (HO m u k) 6).toNat*1))=_;rw[hj,Int.toNat_natCast]; exact hcl
  ·rw[e1];show _=if T.getD (gM m (HO m u k) 6).toNat 0>_ then T.getD (gM m (HO m u k) 6).toNat 0 else _
   rw[hj,Int.toNat_natCast]
 ·obtain rfl:k=6:=by omega
  exact cF (by simp) ⟨rfl,s3.av⟩
structure Of where
 b:Int
 want:I6
 v:Int
def Of.cells(o:Of):List Value:=iv o.b :: o.want.on [iv o.v]
theorem Of.len(o:Of):o.cells.length=8:=rfl
def B9(o:Of):Bool:=o.want.l.all j8&&(decide (o.want≠z6)&&(decide (1<=o.v)&&decide (o.v<=1000000)))
theorem Ik(w:World)(o:Of):CP 188 #[.agg o.cells.toArray] w (λ r w'=>r=.bool (B9 o)/\aA w w' []):=by
 refine xd (u1:=o.want) ?_;unfold tK;refine(St.start w).one.ax o.cells.toArray λ r1 w1 s1=>⟨o.want,s1.aF 0 1 rfl rfl,aj (bR w1 o.want) ?_⟩;rintro v w2 ⟨rfl,c2⟩;have s2:=s1.quiet c2;refine⟨_,rfl,?_⟩
 cases hq:o.want.l.all j8 with
 | false=>exact cF rfl ⟨by rw[B9,hq]; rfl,s2.av⟩
 | true =>
  have e1:B9 o=(decide (o.want≠z6)&&(decide (1<=o.v)&&decide (o.v<=1000000))):=by rw[B9,hq]; rfl
  refine cT rfl ⟨o.want,s2.aF 0 1 rfl rfl,?_⟩;rw[I6.beq_eq]
  by_cases hz:o.want=z6
  ·exact cF (by rw[dT hz]; rfl) ⟨by rw[e1,dF (λ h=>h hz)]; rfl,s2.av⟩
  ·rw[dT hz,Bool.true_and] at e1;refine cT (by rw[dF hz]; rfl) ⟨_,s2.ag 0 rfl 7,?_⟩
   by_cases g1:1<=o.v
   ·rw[dT g1,Bool.true_and] at e1;exact cT (dT g1) ⟨_,s2.ag 0 rfl 7,by rw[e1],s2.av⟩
   ·exact cF (dF g1) ⟨by rw[e1,dF g1]; rfl,s2.av⟩
end Go.Proofs.YtmffhopdpbikgaaGreatDoor
namespace Go.Vc
open Go
theorem A5{P:Program}{gf:FuncId}{lb:List Value}{rec:FuncId->Nat->Loop}{w0 w:World}{N R:World->Prop}{X:List (Nat×(World->Prop))}{L:List aD}(s:St w0 w (Sep L))(hp:∀ fn D,(rec fn D).pending=none/\(rec fn D).state=.ready) (k:∀ fn l w1,St w0 w1 (Sep (bg l (.loop (rec fn w.heap.size)) :: bg w.heap.size (.deferred (some [])) :: L)) ->
   Calls P gf (Value.func (.yield l) #[] #[] :: lb).toArray w1 (ur λ _ w2=>∃ L',St w0 w2 (Sep (bg l (.loop (rec fn w.heap.size)) :: L'))/\∀ w3,St w0 w3 (Sep L')->N w3)):Cj P gf lb rec w N R X:=by
 intro fn;have s1:=s.PR (.deferred (some []));have hD:(w.alloc (.deferred (some []))).heap.size=w.heap.size+1:=by rw[World.size_alloc]
 have s2:=s1.PR (.loop (rec fn w.heap.size));rw[hD] at s2;refine(k fn _ _ s2).mono λ e w2 ⟨v,he,L',s3,hN⟩=>⟨⟨v,he⟩,_,s3.oL 0 rfl,?_,?_⟩
 ·rw[(hp fn _).2]; intro h; cases h
 ·rw[(hp fn _).1];exact hN _ ((s3.putAt 0 rfl _).second)
end Go.Vc
namespace Go.Proofs.YtmffhopdpbikgaaGreatDoor
open Go Go.Vc _root_.Go.Proofs.Tryz
theorem Lm{m u:I6}(h:EF m u):∀ j,j<=6->gM m u (6-j)*vw m j<=gM m u 6
 | 0,_=>by show gM m u 6*1<=_; omega
 | j+1,hj=>by
  have ih:=Lm h j (by omega);rw[show 6-j=(5-j)+1 by omega] at ih;have hs:=zF h.mm j (by omega);have hu:=h.u (5-j) (by omega);have e2:gM m u (5-j+1)=gM m u (5-j)*(m.at' (5-j)+1)+u.at' (5-j):=rfl;rw[e2,Int.add_mul] at ih;have h1:0<=u.at' (5-j)*vw m j:=Int.mul_nonneg hu.1 (by omega);rw[show 6-(j+1)=5-j by omega];have e3:gM m u (5-j)*vw m (j+1)=gM m u (5-j)*(m.at' (5-j)+1)*vw m j:=by
   show gM m u (5-j)*(vw m j*(m.at' (5-j)+1))=_;rw[Int.mul_comm (vw m j),Int.mul_assoc]
  rw[e3]; omega
theorem Qs{m u:I6}(h:EF m u){j:Nat}(hj:j<6)(hp:0<u.at' (5-j)):vw m j<=rk m u:=by
 have h1:=Lm h j (by omega);rw[show 6-j=(5-j)+1 by omega] at h1;have e2:gM m u (5-j+1)=gM m u (5-j)*(m.at' (5-j)+1)+u.at' (5-j):=rfl;have h2:=(vn h (5-j) (by omega)).1;have hm:=h.mm (5-j) (by omega);have hs:=zF h.mm j (by omega);have h3:1<=gM m u (5-j+1):=by
  rw[e2];have:=Int.mul_nonneg h2 (show 0<=m.at' (5-j)+1 by omega);omega
 have h4:1*vw m j<=gM m u (5-j+1)*vw m j:=Int.mul_le_mul_of_nonneg_right h3 (by omega);show vw m j<=gM m u 6;omega
def Es(m:I6)(F:Wf):Nat->List Int
 | 0=>List.replicate (aR m) 0
 | i+1=>rz m (bX m i) i 6 ((Es m F i).set i (F (bX m i)))
theorem zH(m:I6)(F:Wf):∀ i,(Es m F i).length=aR m
 | 0=>List.length_replicate
 | i+1=>by rw[Es,sK,List.length_set,zH m F i]
def Lu(m:I6)(F:Wf):List Int:=Es m F (aR m)
section
variable {w0 w:World} {B:aD} {m:I6} {g r2 r3 r4 r5 rm l D:Nat} {lp:Loop} {F:Wf} {lk:List KV}
def Lt(m:I6)(F:Wf)(g r2 r3 r4 r5 rm:Nat)(lk:List KV)(B:aD)(i:Nat):List aD :=
 [tO (some ⟨g,0,none⟩) (aR m) (Es m F i),ai r3 #[.slice (some ⟨g,0,none⟩) (aR m) (aR m)] 130,ai r5 #[iv i] 3,ai r4 #[.map (some rm)] 181,mapA rm lk,ai r2 m.vs.toArray 34,B]
theorem IQ(hm:I6.Le m 4)(hr:bQ m lk F){i:Nat}(hi:i<aR m){Fr:aD}{n1:Int}{u1:I6}{n2:Int}{a1:OA}{l1:Nat}{c1:Nat}{u2:I6}{r1:Nat}{n3:Int}{u3:I6}{n4:Int}{a2:OA}{l2:Nat}{c2:Nat}{n5:Int}{u4:I6}{n6:Int}{u5:I6}{n7:Int}{x1:Nat->Value}{u6:I6}{v1:Value}{fn:FuncId}(hlp:lp=cV n1 u1 n2 a1 l1 c1 u2 r1 r2 n3 u3 n4 a2 l2 c2 n5 u4 n6 u5 n7 r3 r4 x1 r5 u6 v1 fn D)(h:St w0 w (star (Sep (bg l (.loop lp) :: Lt m F g r2 r3 r4 r5 rm lk B i)) Fr)) :
  lK prog l #[.agg (bX m i).vs.toArray] w λ b w2=>b=true/\St w0 w2 (star (Sep (bg l (.loop lp) :: Lt m F g r2 r3 r4 r5 rm lk B (i+1))) Fr):=by
 have hc:=lV hm;have hl:=zH m F i;have s:St w0 w (Sep (bg l (.loop lp) :: Lt m F g r2 r3 r4 r5 rm lk B i++[Fr])):=h.open;refine jk (n1:=n1) (u1:=u1) (n2:=n2) (a1:=a1) (l1:=l1) (c1:=c1) (u2:=u2) (r1:=r1) (r2:=r2) (n3:=n3) (u3:=u3) (n4:=n4) (a2:=a2) (l2:=l2) (c2:=c2) (n5:=n5) (u4:=u4) (n6:=n6) (u5:=u5) (n7:=n7) (r3:=r3) (r4:=r4) (x1:=x1) (r5:=r5) (u6:=u6) (v1:=v1) (s.oL 0 rfl) (by rw[hlp]; rfl) (by rw[hlp]; rfl) (by rw[hlp]; rfl) (by rw[hlp]; rfl) ?_;unfold eW;have hst:lp.state=.ready:=by rw[hlp]; rfl
 have hpd:({ ({ lp with state:=.busy }:Loop) with state:=.ready,pending:=none }:Loop)=lp:=by rw[hlp]; rfl
 clear hlp;refine s.ax z6.vs.toArray λ r6 w1 s1=>s1.ay 0 rfl (bX m i).vs rfl (I6.one _) λ w2 s2=>?_;have s2:St w0 w2 (Sep (ai r6 (bX m i).vs.toArray 34 :: bg l (.loop lp) :: Lt m F g r2 r3 r4 r5 rm lk B i++[Fr])):=s2;refine⟨lp,s2.oL 1 rfl,hst,?_⟩;have s3:=(s2.putAt 1 rfl (.loop { lp with state:=.busy })).quiet (aA.drew _ []);refine⟨_,_,_,s3.ag 3 rfl 0,_,s3.ag 4 rfl 0,_,s3.ag 5 rfl 0,_,s3.cellsIn 0 rfl,?_⟩;refine DN I3 (s3.out 6 rfl) (bX m i) ?_;rw[hr.get];refine⟨s3.ag 4 rfl 0,s3.ag 3 rfl 0,ak rfl ⟨by omega,by omega,?_⟩⟩;rw[Int.toNat_natCast];refine St.iV (v:=iv) rfl (s3.out 2 rfl) (i:=i) (by omega) λ w4 s4=>?_;have s4:St w0 w4 (Sep (ai r6 (bX m i).vs.toArray 34 :: bg l (.loop { lp with state:=.busy }) :: tO (some ⟨g,0,none⟩) (aR m) ((Es m F i).set i (F (bX m i))) :: ai r3 #[.slice (some ⟨g,0,none⟩) (aR m) (aR m)] 130 :: ai r5 #[iv i] 3 :: ai r4 #[.map (some rm)] 181 :: mapA rm lk :: ai r2 m.vs.toArray 34 :: B :: [Fr])):=s4.back (i:=2) (by show 2<10; decide);refine⟨_,s4.cellsIn 7 rfl,_,s4.cellsIn 0 rfl,_,s4.ag 4 rfl 0,?_⟩;have s5:St w0 w4 (Sep (OC g r3 r5 (aR m) i ((Es m F i).set i (F (bX m i))) (Sep [ai r6 (bX m i).vs.toArray 34,bg l (.loop { lp with state:=.busy }),ai r4 #[.map (some rm)] 181,mapA rm lk,ai r2 m.vs.toArray 34,B,Fr]))) :=
  ((s4.au [2,3,4,0,1,5,6,7,8,9]).split [_,_,_]).eqv (aT.right (aT.unit _)) |> St.cat
 refine aj (LZ hm s5 (by rw[List.length_set,hl]) hi (λ j hj hp=>?_) (by omega)) ?_
 ·have:=Qs (jr hm i) hj hp;rw[BE hm i hi] at this;exact this
 rintro v w5 ⟨rfl,s6⟩;have s7:St w0 w5 (Sep ([tO (some ⟨g,0,none⟩) (aR m) (Es m F (i+1)),ai r3 #[.slice (some ⟨g,0,none⟩) (aR m) (aR m)] 130,ai r5 #[iv i] 3]++[ai r6 (bX m i).vs.toArray 34,bg l (.loop { lp with state:=.busy }),ai r4 #[.map (some rm)] 181,mapA rm lk,ai r2 m.vs.toArray 34,B,Fr])):=s6.dw [_,_,_];refine⟨rfl,_,s7.ag 2 rfl 0,s7.aJ 2 rfl (by show 0<1; decide) rfl λ w6 s8=>⟨_,s8.oL 4 rfl,rfl,?_⟩⟩;have s9:=s8.putAt 4 rfl (.loop lp);rw[aB (n:=(i:Int)+1) ⟨by omega,by omega⟩] at s9;rw[hpd];exact(s9.au [4,0,1,2,5,6,7,8,9]).shut
end
set_option maxHeartbeats 4000000 in
theorem NP{w:World}{x:Xv}{m:I6}(hm:I6.Le m 4)(hp:pr m.l<=1024)(hz:aO x<=100000)(hx:x.In w) :
  CP 72 #[.agg x.cells.toArray,.agg m.vs.toArray] w (λ r w'=>(dH x≠0/\r=.tuple #[.slice none 0 0,iv (dH x)]/\aA w w' [])\/(dH x=0/\∃ g,r=.tuple #[.slice (some ⟨g,0,none⟩) (aR m) (aR m),iv 0]/\St w w' (Sep [tO (some ⟨g,0,none⟩) (aR m) (Lu m (lI m x))]))):=by
 refine su (u1:=x.u) ?_;unfold mZ;refine(St.start w).one.ax x.cells.toArray λ r1 w1 s1=>s1.ax m.vs.toArray λ r2 w2 s2=>?_;have hxI:∀ {w'},aA w w' []->x.In w':=λ hc=>hx.av hc;refine⟨_,x.u,_,_,_,_,s2.cellsIn 1 rfl,aj (EB hz (hxI s2.av)) ?_⟩;rintro v w3 ⟨rfl,c3⟩;have s3:=s2.quiet c3;refine⟨_,rfl,?_⟩
 by_cases hk:dH x=0
 ·refine cF (by simpa using hk) ⟨m,s3.cellsIn 0 rfl,aj (bR w3 m) ?_⟩;rintro v w4 ⟨rfl,c4⟩;have s4:=s3.quiet c4;rw[if_pos (leq hm)];refine⟨_,rfl,cF rfl ⟨m,s4.cellsIn 0 rfl,aj (xw w4 m) ?_⟩⟩;rintro v w5 ⟨rfl,c5⟩;have s5:=s4.quiet c5;rw[if_pos ⟨leq hm,hp⟩];have hc:=lV hm;refine⟨_,rfl,cF (by simp; omega) ?_⟩;rw[<- hc.2.1];let A:List aD:=[ai r2 m.vs.toArray 34,ai r1 x.cells.toArray 60,emp];refine⟨λ r3 r4 w6=>∃ g rm lk,bQ m lk (lI m x)/\St w w6 (Sep (tO (some ⟨g,0,none⟩) (aR m) (List.replicate (aR m) 0) :: mapA rm lk :: ai r3 #[.slice (some ⟨g,0,none⟩) (aR m) (aR m)] 130 :: ai r4 #[.map (some rm)] 181 :: A)),?_,?_⟩
  ·rintro w6 r3 r4 ⟨g,rm,lk,hr,s6⟩ x1;refine s6.ax #[iv 0] λ r5 w7 s7=>s7.aJ 0 rfl (by decide) rfl λ w8 s8=>⟨m,s8.cellsIn 5 rfl,aj (N3 s8 m hm hp) ?_⟩;rintro v w9 ⟨b,rfl,s9⟩;refine⟨_,rfl,A6 (by kernel_rfl) ?_⟩;have s9:St w w9 (Sep (ai b m.vs.toArray 34 :: ai r5 #[iv 0] 3 :: tO (some ⟨g,0,none⟩) (aR m) (List.replicate (aR m) 0) :: mapA rm lk :: ai r3 #[.slice (some ⟨g,0,none⟩) (aR m) (aR m)] 130 :: ai r4 #[.map (some rm)] 181 :: A)):=s9;refine A5 s9 (λ _ _=>⟨rfl,rfl⟩) λ fn l w10 s10=>?_;have s11:=(s10.au [0,4,6,3,7,5,8,1,2]).split [_,_,_,_,_,_,_,_];refine aj (Gt hm (R:=λ i=>Sep (bg l (.loop _) :: Lt m (lI m x) g r2 r3 r4 r5 rm lk (bg w9.heap.size (.deferred (some []))) i)) (λ i w1 Fr hi h=>IQ (B:=bg w9.heap.size (.deferred (some []))) (D:=w9.heap.size) hm hr hi rfl h) s11) ?_;rintro v w11 ⟨rfl,s12⟩;refine⟨_,rfl,_,s12.first,λ w12 s13=>⟨_,_,_,s13.ag 1 rfl 0,s13.oL 6 rfl,.inr ⟨hk,g,rfl,?_⟩⟩⟩;exact(s13.putAt 6 rfl (.deferred none)).au [0]
  ·have s6:=s5.quiet (aA.drew w5 []);refine⟨_,x.u,_,_,_,_,s6.cellsIn 1 rfl,m,s6.cellsIn 0 rfl,?_⟩;have h:St w w5.drew (Sep (emp :: emp :: emp :: emp :: A)):=s6.au [3,3,3,3,0,1,2];have opR:∀ {c2 c3 c4:aD} {w' : World} {R:Option Addr->Nat->Nat->World->Prop},St w w' (Sep (emp :: c2 :: c3 :: c4 :: A))->(∀ g w'',St w w'' (Sep (tO (some ⟨g,0,none⟩) (aR m) (List.replicate (aR m) 0) :: c2 :: c3 :: c4 :: A))->R (some ⟨g,0,none⟩) (aR m) (aR m) w'') ->
     aP prog (Instr.makeSlice 130 (iv (aR m:Nat)) (iv (aR m:Nat))) w' λ e w1=>∃ a l c,e=.slice a l c/\R a l c w1:=by
    intro c2 c3 c4 w' R s k;refine cH NA bU (x:=0) rfl s (n:=aR m) (by omega) (by omega) λ g w'' _ s'=>?_;have s2:St w w'' (Sep (tO (some ⟨g,0,none⟩) (aR m) (List.replicate (aR m) 0) :: emp :: c2 :: c3 :: c4 :: A)):=s';exact k g w'' (s2.au [0,2,3,4,5,6,7])
   have opO:∀ {c1 c3 c4:aD} {w' : World} {R:Option Nat->World->Prop},St w w' (Sep (c1 :: emp :: c3 :: c4 :: A))->(∀ rm lk w'',bQ m lk (lI m x)->St w w'' (Sep (c1 :: mapA rm lk :: c3 :: c4 :: A))->R (some rm) w'') ->
     CC 106 #[.agg (iv x.op :: x.u.on [iv x.v,.slice x.a x.args.length x.c]:List Value).toArray,.agg m.vs.toArray] w' λ e w1=>∃ m1:Option Nat,e=.returned (.map m1)/\R m1 w1:=by
    intro c1 c3 c4 w' R s k;refine aj (R9 hm x (J1 hk) hz w _ _ hxI s) ?_;rintro v w'' ⟨rm,lk,rfl,hr,s'⟩;have s2:St w w'' (Sep (mapA rm lk :: c1 :: emp :: c3 :: c4 :: A)):=s';exact⟨_,rfl,k rm lk w'' hr (s2.au [1,0,3,4,5,6,7])⟩
   have opS:∀ {c1 c2 c4:aD} {w' : World} {R:Nat->World->Prop},St w w' (Sep (c1 :: c2 :: emp :: c4 :: A))->(∀ r w'',St w w'' (Sep (c1 :: c2 :: ai r #[.slice none 0 0] 130 :: c4 :: A))->R r w'')->an w' (.cells #[.slice none 0 0] 130) R:=by
    intro c1 c2 c4 w' R s k;exact s.ax _ λ r w'' s'=>k r w'' (s'.au [1,2,0,4,5,6,7])
   have opM:∀ {c1 c2 c3:aD} {w' : World} {R:Nat->World->Prop},St w w' (Sep (c1 :: c2 :: c3 :: emp :: A))->(∀ r w'',St w w'' (Sep (c1 :: c2 :: c3 :: ai r #[.map none] 181 :: A))->R r w'')->an w' (.cells #[.map none] 181) R:=by
    intro c1 c2 c3 w' R s k;exact s.ax _ λ r w'' s'=>k r w'' (s'.au [1,2,3,0,5,6,7])
   have stS:∀ {c1 c2 c4:aD} {r:Nat} {v:Value} {w' : World} {R:World->Prop},v.oneCell' = true->St w w' (Sep (c1 :: c2 :: ai r #[.slice none 0 0] 130 :: c4 :: A))->(∀ w'',St w w'' (Sep (c1 :: c2 :: ai r #[v] 130 :: c4 :: A))->R w'')->aM w' ⟨r,0,none⟩ v R:=by
    intro c1 c2 c4 r v w' R h1 s k;exact s.aJ 2 rfl (by show 0<1; decide) h1 k
   have stM:∀ {c1 c2 c3:aD} {r:Nat} {v:Value} {w' : World} {R:World->Prop},v.oneCell' = true->St w w' (Sep (c1 :: c2 :: c3 :: ai r #[.map none] 181 :: A))->(∀ w'',St w w'' (Sep (c1 :: c2 :: c3 :: ai r #[v] 181 :: A))->R w'')->aM w' ⟨r,0,none⟩ v R:=by
    intro c1 c2 c3 r v w' R h1 s k;exact s.aJ 3 rfl (by show 0<1; decide) h1 k
   have opC:∀ {c1 c2 c3 c4:aD} {w' : World} {Q:Prop},St w w' (Sep (c1 :: c2 :: c3 :: c4 :: A))->Q->af w' ⟨r2,0,none⟩ 0 m.vs/\af w' ⟨r1,0,none⟩ 0 (iv x.op :: x.u.on [iv x.v,.slice x.a x.args.length x.c])/\Q:=λ s k=>⟨s.cellsIn 4 rfl,s.cellsIn 5 rfl,k⟩;clear s1 s2 s3 s4 s5 s6 c3 c4 c5
   repeat' (with_reducible first
    | refine opR h λ g w1 h=>?_
    | refine opO h λ rm lk w1 hr h=>?_
    | refine opS h λ r w1 h=>?_
    | refine opM h λ r w1 h=>?_
    | refine stS rfl h λ w1 h=>?_
    | refine stM rfl h λ w1 h=>?_
    | refine opC h ?_
    | exact⟨_,_,_,hr,h⟩
    | refine⟨?_,?_⟩)
 ·exact cT (by simpa using hk) (.inl ⟨hk,rfl,s3.av⟩)
def wT(q:I6)(v:Int)(c:Ch):Int:=if c.want=q then (if cost c.p q>v then cost c.p q else v) else v
def BY(q:I6)(v:Int)(x:Of):Int:=if x.want=q then (if x.v>v then x.v else v) else v
def JX(l:List Ch)(bids:List Of)(q:I6):Int:=bids.foldl (BY q) (l.foldl (wT q) 0)
abbrev RO (w:World) (a:OA) (l:List Of):Prop:=cW 8 Of.cells w a l
theorem Of.one(o:Of):∀ v∈o.cells,v.oneCell' = true:=by
 intro v hv; simp[Of.cells,I6.on] at hv; rcases hv with rfl|rfl|rfl|rfl|rfl|rfl|rfl|rfl<;>rfl
def sC:Of:=⟨0,z6,0⟩
theorem Mx{w:World}{a1 a2:OA}{c1 c2 b1 b2:Nat}{l:List Ch}{bids:List Of}(hr:CN w a1 l)(hl:l.length<=1000)(ho:∀ c∈l,c.Ok)(hb:RO w a2 bids)(hbl:bids.length<=100000)(e1:w.cell? ⟨b1,0,none⟩=some (.slice a1 l.length c1))(e2:w.cell? ⟨b2,0,none⟩=some (.slice a2 bids.length c2))(q:I6) :
  CP 227 #[.agg q.vs.toArray,pt b1,pt b2] w (λ r w'=>r=iv (JX l bids q)/\aA w w' []):=by
 refine rU ?_;unfold mR;refine(St.start w).one.ax q.vs.toArray λ r1 w1 s1=>⟨_,_,_,ct e1 s1.av,?_⟩;let M:List aD:=[ai r1 q.vs.toArray 34,emp];refine⟨λ n i w2 m=>∃ k:Nat,i=k/\k<=l.length/\m=l.length-k/\n=(l.take k).foldl (wT q) 0/\St w w2 (Sep M),⟨l.length,0,rfl,by omega,by omega,rfl,s1⟩,?_⟩;rintro w2 m n i ⟨k,rfl,hk,hm,rfl,s2⟩ -
 by_cases hlt:(k:Int)<(l.length:Int)
 ·have hx:l[k]?=some (l[k]'(by omega)):=gE (by omega);generalize l[k]'(by omega)=y at hx;obtain⟨p,hp,hcl⟩:=(hr.av s2.av).at hx;have ef:=kN (f:=wT q) (a:=0) hx;refine cT (dT hlt) ⟨λ n w3=>n=(l.take (k+1)).foldl (wT q) 0/\St w w3 (Sep M),?_,ak hp ⟨by omega,by omega,y.p,y.want,hcl,s2.ax Ai.cells.toArray λ r2 w4 s4=>s4.ay 0 rfl y.cells rfl y.one λ w5 s5=>⟨y.want,bJ s5 0 rfl,q,s5.cellsIn 1 rfl,?_⟩⟩⟩
  ·rintro w3 n ⟨rfl,s3⟩ -;exact⟨l.length-(k+1),by omega,k+1,aB ⟨by omega,by omega⟩,by omega,rfl,rfl,s3⟩
  rw[I6.beq_eq]
  by_cases hw:y.want=q
  ·have oy:=ho y (List.mem_of_getElem? hx);refine cT (dT hw) ⟨y.p,uG s5 0 rfl,q,s5.cellsIn 1 rfl,aj (fS w5 oy.p (by rw[<- hw]; exact oy.w)) ?_⟩;rintro v w6 ⟨rfl,c6⟩;exact⟨_,rfl,by rw[ef,wT,if_pos hw],(s5.quiet c6).au [1,2]⟩
  ·exact cF (dF hw) ⟨by rw[ef,wT,if_neg hw],s5.au [1,2]⟩
 ·obtain rfl:l.length=k:=by omega
  rw[List.take_length];refine cF (dF hlt) ⟨_,_,_,ct e2 s2.av,?_⟩;refine⟨λ n i w2 m=>∃ k:Nat,i=k/\k<=bids.length/\m=bids.length-k/\n=(bids.take k).foldl (BY q) (l.foldl (wT q) 0)/\St w w2 (Sep M),⟨bids.length,0,rfl,by omega,by omega,rfl,s2⟩,?_⟩;clear hm hk hlt s2;rintro w7 m n i ⟨k,rfl,hk,hm,rfl,s2⟩ -
  by_cases hlt:(k:Int)<(bids.length:Int)
  ·have hx:bids[k]?=some (bids[k]'(by omega)):=gE (by omega);generalize bids[k]'(by omega)=y at hx;obtain⟨p,hp,hcl⟩:=(hb.av s2.av).at hx;have ef:=kN (f:=BY q) (a:=l.foldl (wT q) 0) hx;refine cT (dT hlt) ⟨λ n w3=>n=(bids.take (k+1)).foldl (BY q) (l.foldl (wT q) 0)/\St w w3 (Sep M),?_,ak hp ⟨by omega,by omega,_,y.want,_,hcl,s2.ax sC.cells.toArray λ r2 w4 s4=>s4.ay 0 rfl y.cells rfl y.one λ w5 s5=>⟨y.want,s5.aF 0 1 rfl rfl,q,s5.cellsIn 1 rfl,?_⟩⟩⟩
   ·rintro w3 n ⟨rfl,s3⟩ -;exact⟨bids.length-(k+1),by omega,k+1,aB ⟨by omega,by omega⟩,by omega,rfl,rfl,s3⟩
   rw[I6.beq_eq]
   by_cases hw:y.want=q
   ·exact cT (dT hw) ⟨_,s5.ag 0 rfl 7,by rw[ef,BY,if_pos hw],s5.au [1,2]⟩
   ·exact cF (dF hw) ⟨by rw[ef,BY,if_neg hw],s5.au [1,2]⟩
  ·obtain rfl:bids.length=k:=by omega
   rw[List.take_length];exact cF (dF hlt) ⟨rfl,s2.av⟩
theorem En:hU prog 41 44 (.agg sC.cells.toArray) 8 64:=hU.mk' underlying41 (by kernel_rfl) rfl (by decide)
abbrev bf (a:OA) (c:Nat) (l:List Of):aD:=bM 44 8 Of.cells a c l
theorem xV{α:Type}{sz:Nat}{f:α->List Value}{w:World}{r:Nat}{x:α}(h:af w ⟨r,0,none⟩ 0 (f x))(hf:(f x).length=sz):cW sz f w (some ⟨r,0,none⟩) [x]:=λ i y hy=>by
 match i,hy with
 | 0,rfl=>exact⟨_,_,rfl,by rw[bw]; simpa using h,hf,rfl⟩
mutual
def nD(m:I6)(T:List Int):Nat->List Of
 | 0=>[]
 | i+1=>if 0<i/\T.getD i 0>E6 m (bX m i) (jh m T i) 6 then nD m T i++[⟨0,bX m i,T.getD i 0⟩] else nD m T i
def jh(m:I6)(T:List Int):Nat->List Int
 | 0=>T
 | i+1=>(jh m T i).set i (if E6 m (bX m i) (jh m T i) 6>(jh m T i).getD i 0 then E6 m (bX m i) (jh m T i) 6 else (jh m T i).getD i 0)
end
theorem DS(m:I6)(T:List Int):∀ i,(jh m T i).length=T.length
 | 0=>rfl
 | i+1=>by rw[jh,List.length_set,DS m T i]
theorem DR(m:I6)(T:List Int):∀ i,(nD m T i).length<=i
 | 0=>Nat.le_refl 0
 | i+1=>by
  have:=DR m T i;rw[nD]
  split
  ·rw[List.length_append,List.length_singleton]; omega
  ·omega
def yY(m:I6)(T:List Int):List Of:=nD m T (aR m)
section
variable {w0 w:World} {B:aD} {m:I6} {g r1 r2 r3 r4 r5 l D:Nat} {lp:Loop} {T:List Int} {a1:OA} {c1:Nat}
def MT(m:I6)(T:List Int)(a1:OA)(c1 g r1 r2 r3 r4 r5:Nat)(B:aD)(a:OA)(c i:Nat)(out:List Of):List aD :=
 [tO (some ⟨g,0,none⟩) (aR m) (jh m T i),ai r3 #[.slice (some ⟨g,0,none⟩) (aR m) (aR m)] 130,bf a c out,ai r4 #[.slice a out.length c] 41,ai r5 #[iv i] 3,ai r1 #[.slice a1 (aR m) c1] 130,ai r2 m.vs.toArray 34,B]
def PL(m:I6)(T:List Int)(a1:OA)(c1 g r1 r2 r3 r4 r5 l:Nat)(lp:Loop)(B:aD)(i:Nat):aD :=
 Oa λ (p:Option Addr×Nat)=>Sep (bg l (.loop lp) :: MT m T a1 c1 g r1 r2 r3 r4 r5 B p.1 p.2 i (nD m T i))
theorem H9(hm:I6.Le m 4)(hp:pr m.l<=1024)(hT:∀ {w'},aA w0 w' []->cW 1 i1 w' a1 T)(hl:T.length=aR m){i:Nat}(hi:i<aR m){Fr:aD}{a0:OA}{l0 c0:Nat}{u0:I6}{a2:OA}{l2:Nat}{c2:Nat}{a3:OA}{l3:Nat}{c3:Nat}{a4:OA}{l4:Nat}{c4:Nat}{a5:OA}{l5:Nat}{c5:Nat}{e1:Value}{u2:I6}{v1:Value}{fn:FuncId}(hlp:lp=dh a0 l0 c0 u0 r1 r2 a2 l2 c2 a3 l3 c3 r3 a4 l4 c4 a5 l5 c5 e1 r4 r5 u2 v1 fn D)(h:St w0 w (star (PL m T a1 c1 g r1 r2 r3 r4 r5 l lp B i) Fr)) :
  lK prog l #[.agg (bX m i).vs.toArray] w λ b w2=>b=true/\St w0 w2 (star (PL m T a1 c1 g r1 r2 r3 r4 r5 l lp B (i+1)) Fr):=by
 have hc:=lV hm;have hml:=(DS m T i).trans hl;obtain⟨⟨a,c⟩,h⟩:=h.ex;have s:St w0 w (Sep (bg l (.loop lp) :: MT m T a1 c1 g r1 r2 r3 r4 r5 B a c i (nD m T i)++[Fr])):=h.open;refine jZ (a1:=a0) (l1:=l0) (c1:=c0) (u1:=u0) (r1:=r1) (r2:=r2) (a2:=a2) (l2:=l2) (c2:=c2) (a3:=a3) (l3:=l3) (c3:=c3) (r3:=r3) (a4:=a4) (l4:=l4) (c4:=c4) (a5:=a5) (l5:=l5) (c5:=c5) (_e1:=e1) (r4:=r4) (r5:=r5) (u2:=u2) (v1:=v1) (s.oL 0 rfl) (by rw[hlp]; rfl) (by rw[hlp]; rfl) (by rw[hlp]; rfl) (by rw[hlp]; rfl) ?_;unfold fk;have hst:lp.state=.ready:=by rw[hlp]; rfl
 have hpd:({ ({ lp with state:=.busy }:Loop) with state:=.ready,pending:=none }:Loop)=lp:=by rw[hlp]; rfl
 clear hlp;let L:Option Addr->Nat->List Of->List Int->Nat->Loop->Nat->List aD:=λ a c out mo i lp r6 =>
  [ai r6 (bX m i).vs.toArray 34,bg l (.loop lp),tO (some ⟨g,0,none⟩) (aR m) mo,ai r3 #[.slice (some ⟨g,0,none⟩) (aR m) (aR m)] 130,bf a c out,ai r4 #[.slice a out.length c] 41,ai r5 #[iv i] 3,ai r1 #[.slice a1 (aR m) c1] 130,ai r2 m.vs.toArray 34,B,Fr]
 refine s.ax z6.vs.toArray λ r6 w1 s1=>s1.ay 0 rfl (bX m i).vs rfl (I6.one _) λ w2 s2=>?_;have s2:St w0 w2 (Sep (L a c (nD m T i) (jh m T i) i lp r6)):=s2;refine⟨lp,s2.oL 1 rfl,hst,?_⟩;have s3:St w0 _ (Sep (L a c (nD m T i) (jh m T i) i { lp with state:=.busy } r6)):=s2.putAt 1 rfl (.loop { lp with state:=.busy });have hb:=JW (jr hm i) hp (c:=aR m) (St.rd bU (s3.out 2 rfl)) (by rw[hml]; exact hc.2.1.symm);rw[hml] at hb;refine⟨m,s3.cellsIn 8 rfl,bX m i,s3.cellsIn 0 rfl,_,_,_,s3.ag 3 rfl 0,aj hb ?_⟩;clear hb;rintro v w4 ⟨rfl,c4⟩;have s4:=s3.quiet c4;generalize hun:E6 m (bX m i) (jh m T i) 6=un;have eO:nD m T (i+1)=if 0<i/\T.getD i 0>un then nD m T i++[⟨0,bX m i,T.getD i 0⟩] else nD m T i:=by rw[nD,hun]
 have eT:jh m T (i+1)=(jh m T i).set i (if un>(jh m T i).getD i 0 then un else (jh m T i).getD i 0):=by rw[jh,hun]
 have tc:∀ {w'},aA w0 w' []->∃ q,a1=some q/\w'.cell? (Addr.add q (i*1))=some (iv (T.getD i 0)):=λ hc' =>
  fG (hT hc') (by rw[List.getD_eq_getElem?_getD,gE (by omega)]; rfl)
 refine⟨_,rfl,λ w5=>∃ a' c',St w0 w5 (Sep (L a' c' (nD m T (i+1)) (jh m T i) i { lp with state:=.busy } r6)),?_,?_⟩
 ·rintro w5 ⟨a',c',s5⟩ x1;have s6:=s5.quiet (aA.drew w5 []);have cm:w5.drew.cell? (Addr.add ⟨g,0,none⟩ (((i:Nat):Int).toNat*1))=some (iv ((jh m T i).getD i 0)):=by
   obtain⟨q,hq,hc⟩:=fG (St.rd bU (s6.out 2 rfl)) (i:=i) (x:=(jh m T i).getD i 0) (by rw[List.getD_eq_getElem?_getD,gE (by omega)]; rfl)
   cases hq; exact hc
  refine⟨_,_,_,s6.ag 3 rfl 0,_,s6.ag 6 rfl 0,_,_,_,s6.ag 3 rfl 0,_,s6.ag 6 rfl 0,ak rfl ⟨by omega,by omega,_,cm,ak rfl ⟨by omega,by omega,?_⟩⟩⟩;rw[Int.toNat_natCast];refine St.iV (v:=iv) rfl (s6.out 2 rfl) (i:=i) (by omega) λ w7 s7=>?_;rw[<- eT] at s7;have s7:St w0 w7 (Sep (L a' c' (nD m T (i+1)) (jh m T (i+1)) i { lp with state:=.busy } r6)):=s7.back (i:=2) (by show 2<11; decide);refine⟨_,s7.ag 6 rfl 0,s7.aJ 6 rfl (by show 0<1; decide) rfl λ w8 s8=>⟨_,s8.oL 1 rfl,rfl,?_⟩⟩;rw[aB (n:=(i:Int)+1) ⟨by omega,by omega⟩] at s8;have s9:=s8.putAt 1 rfl (.loop lp);rw[hpd];exact St.qx (f:=λ (p:Option Addr×Nat)=>Sep (bg l (.loop lp) :: MT m T a1 c1 g r1 r2 r3 r4 r5 B p.1 p.2 (i+1) (nD m T (i+1)))) (a',c') ((s9.au [1,2,3,4,5,6,7,8,9,10]).shut)
 ·refine⟨λ b w6=>b=decide (0<i/\T.getD i 0>un)/\St w0 w6 (Sep (L a c (nD m T i) (jh m T i) i { lp with state:=.busy } r6)),?_,?_⟩
  ·rintro w6 b ⟨rfl,s6⟩ x2;have hol:=DR m T i
   by_cases hb:0<i/\T.getD i 0>un
   ·rw[if_pos hb] at eO;have s7:=s6.quiet (aA.drew w6 []);obtain⟨q,hq,hcq⟩:=tc s7.av;refine cT (dT hb) ⟨_,_,_,s7.ag 5 rfl 0,bX m i,s7.cellsIn 0 rfl,_,_,_,s7.ag 7 rfl 0,_,s7.ag 6 rfl 0,ak hq ⟨by omega,by omega,_,hcq,s7.ax (⟨0,bX m i,T.getD i 0⟩:Of).cells.toArray λ r9 w8 s8=>⟨s8.ag 6 rfl 0,?_⟩⟩⟩;refine dD (l2:=[(⟨0,bX m i,T.getD i 0⟩:Of)]) En Of.len Of.one (s8.out 5 rfl) (xV (s8.cellsIn 0 rfl) rfl) (by simp; omega) (by simp; omega) λ a' c' w9 s9=>?_;have s9:=s9.back (i:=5) (by show 5<12; decide);refine s9.aJ 6 rfl (by show 0<1; decide) rfl λ w10 s10=>⟨a',c',?_⟩;rw[eO];exact s10.au [1,2,3,4,5,6,7,8,9,10,11]
   ·rw[if_neg hb] at eO;exact cF (dF hb) ⟨a,c,by rw[eO]; exact s6⟩
  ·refine⟨_,s4.ag 6 rfl 0,?_⟩
   by_cases h0:0<i
   ·obtain⟨q,hq,hcq⟩:=tc s4.av;refine cT (dT (by omega)) ⟨_,_,_,s4.ag 7 rfl 0,_,s4.ag 6 rfl 0,ak hq ⟨by omega,by omega,_,hcq,?_,s4⟩⟩
    by_cases g0:T.getD i 0>un
    ·rw[dT g0,dT ⟨h0,g0⟩]
    ·rw[dF g0,dF λ h=>g0 h.2]
   ·exact cF (dF (by omega)) ⟨by rw[dF λ h=>h0 h.1],s4⟩
end
theorem Ia{w:World}{m:I6}{T:List Int}{a1:OA}{c1:Nat}(hm:I6.Le m 4)(hp:pr m.l<=1024)(hr:cW 1 i1 w a1 T)(hl:T.length=aR m) :
  CP 73 #[.slice a1 (aR m) c1,.agg m.vs.toArray] w (λ r w'=>(40<(yY m T).length/\r=.tuple #[.slice none 0 0,iv 3]/\aA w w' [])\/((yY m T).length<=40/\∃ a c,r=.tuple #[.slice a (yY m T).length c,iv 0]/\St w w' (Sep [bf a c (yY m T)]))):=by
 refine rN ?_;unfold mN;have hc:=lV hm;refine(St.start w).one.ax _ λ r1 w1 s1=>s1.ax m.vs.toArray λ r2 w2 s2=>⟨_,_,_,s2.ag 1 rfl 0,?_⟩;refine cH NA bU (x:=0) rfl s2 (n:=aR m) (by omega) (by omega) λ g w3 c3 s3=>?_;have s3:St w w3 (Sep [tO (some ⟨g,0,none⟩) (aR m) (List.replicate (aR m) 0),ai r2 m.vs.toArray 34,ai r1 #[.slice a1 (aR m) c1] 130,emp]):=s3;refine s3.ax _ λ r3 w4 s4=>s4.aJ 0 rfl (by decide) rfl λ w5 s5=>⟨_,_,_,s5.ag 0 rfl 0,_,_,_,s5.ag 3 rfl 0,?_⟩;refine Gq NA bU yM (by simp) (s5.out 1 rfl) (l2:=T) hl (hr.av s5.av) λ _ w6 s6=>?_;have s6:St w w6 (Sep [ai r3 #[.slice (some ⟨g,0,none⟩) (aR m) (aR m)] 130,tO (some ⟨g,0,none⟩) (aR m) T,ai r2 m.vs.toArray 34,ai r1 #[.slice a1 (aR m) c1] 130,emp]):=s6.back (i:=1) (by show 1<5; decide);refine s6.ax _ λ r4 w7 s7=>s7.ax _ λ r5 w8 s8=>s8.aJ 0 rfl (by decide) rfl λ w9 s9=>⟨m,s9.cellsIn 4 rfl,aj (N3 (s9.cv (e:=44) (sz:=8) (f:=Of.cells)) m hm hp) ?_⟩;rintro v w10 ⟨b,rfl,s10⟩;have s10:St w w10 (Sep [ai b m.vs.toArray 34,bf none 0 [],ai r5 #[iv 0] 3,ai r4 #[.slice none 0 0] 41,ai r3 #[.slice (some ⟨g,0,none⟩) (aR m) (aR m)] 130,tO (some ⟨g,0,none⟩) (aR m) T,ai r2 m.vs.toArray 34,ai r1 #[.slice a1 (aR m) c1] 130,emp]):=s10;refine⟨_,rfl,A6 (by kernel_rfl) ?_⟩;refine A5 s10 (λ _ _=>⟨rfl,rfl⟩) λ fn l w11 s11=>?_;have s12:=(s11.au [0,7,6,3,5,4,9,8,1,2]).split [_,_,_,_,_,_,_,_,_];have s13:=St.qx (f:=λ (p:Option Addr×Nat)=>Sep (bg l (.loop _) :: MT m T a1 c1 g r1 r2 r3 r4 r5 (bg w10.heap.size (.deferred (some []))) p.1 p.2 0 (nD m T 0))) (none,0) s12;refine aj (Gt hm (R:=PL m T a1 c1 g r1 r2 r3 r4 r5 l _ (bg w10.heap.size (.deferred (some [])))) (λ i w1 Fr hi h=>H9 hm hp (λ hc=>hr.av hc) hl hi rfl h) s13) ?_;rintro v w12 ⟨rfl,s14⟩;obtain⟨⟨a,c⟩,s15⟩:=s14.ex;refine⟨_,rfl,_,s15.first,λ w13 s16=>⟨_,_,_,s16.ag 3 rfl 0,?_⟩⟩;have s17:=s16.putAt 7 rfl (.deferred none)
 by_cases h40:40<(yY m T).length
 ·exact cT (dT (by unfold yY at h40; omega)) ⟨s16.oL 7 rfl,.inl ⟨h40,rfl,s17.av⟩⟩
 ·exact cF (dF (by unfold yY at h40; omega)) ⟨_,_,_,s16.ag 3 rfl 0,s16.oL 7 rfl,.inr ⟨by omega,a,c,rfl,s17.au [2]⟩⟩
def oM(x:Xv)(m:I6):Int:=if dH x≠0 then dH x else if 40<(yY m (Lu m (lI m x))).length then 3 else 0
def oN(x:Xv)(m:I6):List Of:=yY m (Lu m (lI m x))
theorem AL{w:World}{x:Xv}{m:I6}(hm:I6.Le m 4)(hp:pr m.l<=1024)(hz:aO x<=100000)(hx:x.In w) :
  CP 37 #[.agg x.cells.toArray,.agg m.vs.toArray] w (λ r w'=>(oM x m≠0/\r=.tuple #[.slice none 0 0,iv (oM x m)]/\aA w w' [])\/(oM x m=0/\(oN x m).length<=40/\∃ a c,r=.tuple #[.slice a (oN x m).length c,iv 0]/\St w w' (Sep [bf a c (oN x m)]))):=by
 refine tg (u1:=x.u) ?_;unfold oB;refine(St.start w).one.ax x.cells.toArray λ r1 w1 s1=>s1.ax m.vs.toArray λ r2 w2 s2=>⟨_,x.u,_,_,_,_,s2.cellsIn 1 rfl,m,s2.cellsIn 0 rfl,aj (NP hm hp hz (hx.av s2.av)) ?_⟩;rintro v w3 (⟨hk,rfl,c3⟩|⟨hk,g,rfl,s3⟩)
 ·refine⟨_,_,_,_,rfl,cT (by simpa using hk) (.inl ⟨?_,?_,(s2.quiet c3).av⟩)⟩
  ·rw[oM,if_pos hk]; exact hk
  ·rw[oM,if_pos hk]
 ·have s4:=s2.and s3;have hl:(Lu m (lI m x)).length=aR m:=zH m _ _;refine⟨_,_,_,_,rfl,cF rfl ⟨m,s4.second.cellsIn 0 rfl,aj (Ia hm hp (St.rd bU s3) hl) ?_⟩⟩;have e0:oM x m=if 40<(yY m (Lu m (lI m x))).length then 3 else 0:=by rw[oM,if_neg (λ h=>h hk)]
  rintro v w5 (⟨h40,rfl,c5⟩|⟨h40,a,c,rfl,s5⟩)
  ·exact⟨_,_,_,_,rfl,.inl ⟨by rw[e0,if_pos h40]; decide,by rw[e0,if_pos h40],s4.av.trans c5 (by simp)⟩⟩
  ·exact⟨_,_,_,_,rfl,.inr ⟨by rw[e0,if_neg (by show ¬ 40<(yY _ _).length; omega)],h40,a,c,rfl,Lb s4.av s5⟩⟩
def Ct(r:Nat)(S:Se):List aD:=[ai r S.arr 75,bM 120 5 Pr.cells S.a1 S.c1 S.ps,bM 137 4 Br.cells S.a2 S.c2 S.bd,bM 153 3 T3.cells S.a3 S.c3 S.cp,bM 156 3 T3.cells S.a4 S.c4 S.sa]
structure wE (S:Se) (n:Nat):Prop where
 ps:∀ p∈S.ps,p.In
 bd:∀ p∈S.bd,p.In
 l1:S.ps.length<=n
 l2:S.bd.length<=n
 l3:S.cp.length<=n
 l4:S.sa.length<=n
theorem Cr{α:Type}{e:TypeId}{sz:Nat}{f:α->List Value}{a:OA}{c:Nat}{l:List α}:gR (bM e sz f a c l) λ _=>l.length<=c:=λ _ _ h=>(zk h.1).1
theorem gR.and{A:aD}{Q R:World->Prop}(h:gR A Q)(k:gR A R):gR A λ w=>Q w/\R w:=λ w F hA=>⟨h w F hA,k w F hA⟩
theorem K4{r n:Nat}{S:Se}(h:wE S n):gR (Sep (Ct r S)) S.In :=
 gR.mono (gR.cons (Q:=λ _=>True) (λ _ _ _=>trivial) (gR.cons (gR.and (bD Pr.len) Cr) (gR.cons (gR.and (bD Br.len) Cr) (gR.cons (gR.and (bD T3.len) Cr) (gR.cons (gR.and (bD T3.len) Cr) gR.nil)))))
  λ _ ⟨_,h1,h2,h3,h4,_⟩=>⟨dx.of h1.1 h.ps,kf.of h2.1 h.bd,CR.of h3.1,CR.of h4.1,h1.2,h2.2,h3.2,h4.2⟩
def nV(ws:List (List UInt8))(i:Nat):Int:=(eL (ws.getD (i+2) [])).1
theorem Ks{ws:List (List UInt8)}{i:Nat}(h:i+2<ws.length):((ws.drop 2).map λ x=>(eL x).1)[i]?=some (nV ws i):=by
 rw[List.getElem?_map,List.getElem?_drop,show 2+i=i+2 by omega,nV,List.getD_eq_getElem?_getD,gE h]; rfl
theorem Nq(x:List UInt8):In (eL x).1:=by
 unfold eL
 split
 ·exact⟨by decide,by decide⟩
 ·split
  ·exact⟨by decide,by decide⟩
  ·exact Nr (by omega)
def Cl(S:Se)(ws:List (List UInt8)):Int :=
 if uf (ws.getD 0 [])=0 then 22 else if uf (ws.getD 0 [])≠(ws.length:Int) then 2
 else if (gm S (ws.getD 0 []) (ws.getD 1 [])).2≠0 then (gm S (ws.getD 0 []) (ws.getD 1 [])).2 else oK (ws.drop 2)
def A7(S:Se)(ws:List (List UInt8)):Se :=
 if ws.getD 0 []=OI then { S with ps:=S.ps++[⟨ws.getD 1 [],nV ws 0,nV ws 1,nV ws 2,nV ws 3⟩] }
 else if ws.getD 0 []=OG then { S with bd:=S.bd++[⟨ws.getD 1 [],nV ws 0,nV ws 1,nV ws 2⟩] }
 else if ws.getD 0 []=OH then { S with cp:=S.cp++[⟨(gm S (ws.getD 0 []) (ws.getD 1 [])).1,nV ws 0,nV ws 1⟩] }
 else if ws.getD 0 []=OF then { S with sa:=S.sa++[⟨(gm S (ws.getD 0 []) (ws.getD 1 [])).1,nV ws 0,nV ws 1⟩] }
 else S
theorem P8{S:Se}{n:Nat}(h:wE S n)(ws:List (List UInt8)):wE (A7 S ws) (n+1):=by
 obtain⟨h1,h2,l1,l2,l3,l4⟩:=h;unfold A7;have ni:=λ i=>Nq (ws.getD (i+2) [])
 split
 ·refine⟨λ p hp=>?_,h2,by simp; omega,(Nat.le_succ_of_le l2),(Nat.le_succ_of_le l3),(Nat.le_succ_of_le l4)⟩;rcases List.mem_append.1 hp with hp|hp
  ·exact h1 p hp
  ·rw[List.mem_singleton.1 hp]; exact⟨ni 0,ni 1,ni 2,ni 3⟩
 ·split
  ·refine⟨h1,λ p hp=>?_,(Nat.le_succ_of_le l1),by simp; omega,(Nat.le_succ_of_le l3),(Nat.le_succ_of_le l4)⟩;rcases List.mem_append.1 hp with hp|hp
   ·exact h2 p hp
   ·rw[List.mem_singleton.1 hp]; exact⟨ni 0,ni 1,ni 2⟩
  ·split
   ·exact⟨h1,h2,(Nat.le_succ_of_le l1),(Nat.le_succ_of_le l2),by simp; omega,(Nat.le_succ_of_le l4)⟩
   ·split
    ·exact⟨h1,h2,(Nat.le_succ_of_le l1),(Nat.le_succ_of_le l2),(Nat.le_succ_of_le l3),by simp; omega⟩
    ·exact⟨h1,h2,by omega,by omega,by omega,by omega⟩
theorem wE.up{S:Se}{n m:Nat}(h:wE S n)(hn:n<=m):wE S m:=⟨h.ps,h.bd,by have:=h.l1; omega,by have:=h.l2; omega,by have:=h.l3; omega,by have:=h.l4; omega⟩
theorem wE.er{S S' : Se}{n:Nat}(h:wE S n)(e:S'.er=S.er):wE S' n:=by
 have e1:S'.ps=S.ps:=show S'.er.ps=S.er.ps from congrArg Se.ps e;have e2:S'.bd=S.bd:=show S'.er.bd=S.er.bd from congrArg Se.bd e;have e3:S'.cp=S.cp:=show S'.er.cp=S.er.cp from congrArg Se.cp e;have e4:S'.sa=S.sa:=show S'.er.sa=S.er.sa from congrArg Se.sa e;exact⟨by rw[e1]; exact h.ps,by rw[e2]; exact h.bd,by rw[e1]; exact h.l1,by rw[e2]; exact h.l2,by rw[e3]; exact h.l3,by rw[e4]; exact h.l4⟩
theorem Qa{w0 w:World}{r n c:Nat}{S:Se}{B:aD}{a:OA}{ws:List (List UInt8)}(s:St w0 w (Sep (Ct r S++[B])))(hB:gR B λ w=>cW 1 sF w a ws)(hc:ws.length<=c)(h1:1<=ws.length)(hl:ws.length<=100000)(hx:∀ x∈ws,x.length<=1000000)(hg:wE S n)(hn:n<=90000) :
  CP 117 #[.pointer (some ⟨r,0,none⟩),.slice a ws.length c] w (λ v w'=>v=iv (Cl S ws)/\(Cl S ws≠0->St w0 w' (Sep (Ct r S++[B])))/\(Cl S ws=0->∃ S' : Se,S'.er=(A7 S ws).er/\St w0 w' (Sep (Ct r S'++[B])))):=by
 refine Ae ?_;unfold zy;have wc:∀ {w' : World} {l:List aD} {i:Nat},St w0 w' (Sep l)->l[i]?=some B->∀ (j:Nat),j<ws.length->∃ q,a=some q/\w'.cell? (Addr.add q (j*1))=some (sv (ws.getD j [])):=λ s e j hj =>
  FJ ((s.out _ e).first.imp hB) (by rw[List.getD_eq_getElem?_getD,gE hj]; rfl)
 obtain⟨q,hq,c0⟩:=wc s (i:=5) rfl 0 (by omega);have wc' : ∀ {w' : World} {l:List aD} {i:Nat},St w0 w' (Sep l)->l[i]?=some B->∀ (j:Nat),j<ws.length->w'.cell? (Addr.add q (j*1))=some (sv (ws.getD j [])):=λ s e j hj=>by
  obtain⟨q',hq',h⟩:=wc s e j hj;rw[hq] at hq'; cases hq'; exact h
 have bad:∀ {k:Int} {w' : World},k≠0->Cl S ws=k->St w0 w' (Sep (Ct r S++[B]))->iv k=iv (Cl S ws)/\(Cl S ws≠0->St w0 w' (Sep (Ct r S++[B])))/\(Cl S ws=0->∃ S' : Se,S'.er=(A7 S ws).er/\St w0 w' (Sep (Ct r S'++[B]))):=λ hk e hc =>
  ⟨by rw[e],λ _=>hc,λ h=>absurd (e.symm.trans h) hk⟩
 refine ak hq ⟨by omega,by omega,_,c0,aj (NX w _) ?_⟩;rintro v w1 ⟨rfl,rfl⟩;refine⟨_,rfl,?_⟩
 by_cases h0:uf (ws.getD 0 [])=0
 ·exact cT (by simpa using h0) (bad (by decide) (by rw[Cl,if_pos h0]) s)
 refine cF (by simpa using h0) ?_
 by_cases h2:uf (ws.getD 0 [])=(ws.length:Int)
 ·have hw4:4<=ws.length:=by
   unfold uf at h0 h2
   split at h2
   ·omega
   ·rename_i g1
    split at h2
    ·omega
    ·rename_i g2
     split at h2
     ·omega
     ·rename_i g3; rw[if_neg g1,if_neg g2,if_neg g3] at h0; exact absurd rfl h0
  have s2:=s.quiet (aA.drew w1 []);have sI:S.In w1.drew:=by
   have:=s2.au [0,1,2,3,4];exact(this:St w0 w1.drew (Sep (Ct r S))).imp (K4 hg)
  refine cT (by simpa using h2) ⟨_,_,_,_,_,_,_,_,_,_,_,_,s2.cellsIn 0 rfl,ak hq ⟨by omega,by omega,_,wc' s2 (i:=5) rfl 0 (by omega),ak hq ⟨by omega,by omega,_,wc' s2 (i:=5) rfl 1 (by omega),aj (Ld sI (by have:=hg.l1; omega) (by have:=hg.l2; omega) _ _) ?_⟩⟩⟩;rintro v w2 ⟨rfl,c2⟩;have s3:=s2.quiet c2;have e1:Cl S ws=if (gm S (ws.getD 0 []) (ws.getD 1 [])).2≠0 then (gm S (ws.getD 0 []) (ws.getD 1 [])).2 else oK (ws.drop 2):=by rw[Cl,if_neg h0,if_neg (λ h=>h h2)]
  refine⟨_,_,rfl,?_⟩
  by_cases h3:(gm S (ws.getD 0 []) (ws.getD 1 [])).2=0
  ·rw[if_neg (λ h=>h h3)] at e1;refine cF (by simpa using h3) ⟨by decide,by omega,?_⟩;have hfl:cW 1 sF w2 a ws:=(s3.out 5 rfl).first.imp hB;have ht:cW 1 sF w2 (some (q.add (((2:Int)).toNat*1))) (ws.drop 2):=λ i x hi=>by
    rw[List.getElem?_drop] at hi;obtain⟨q',cs,e,h1,h2,h3⟩:=hfl (2+i) x hi;rw[hq] at e; cases e;refine⟨_,cs,rfl,?_,h2,h3⟩;rw[Addr.add_add];have:((2:Int)).toNat*1+i*1=(2+i)*1:=by show 2*1+i*1=(2+i)*1; omega
    rw[this]; exact h1
   have hln:ws.length-((2:Int)).toNat=(ws.drop 2).length:=by rw[List.length_drop]; rfl
   rw[if_neg (show ¬ c=((2:Int)).toNat by show ¬ c=2; omega),hq,Option.map_some,hln];refine aj (FQ ht (by rw[List.length_drop]; omega) λ x h=>hx x (List.mem_of_mem_drop h)) ?_;rintro v w4 (⟨hne,rfl,c4⟩|⟨he,a6,c6,rfl,k4⟩)
   ·exact⟨_,_,_,_,rfl,cT (by simpa using hne) (bad hne e1 (s3.quiet c4))⟩
   ·have s4:St w0 w4 (Sep (bM 3 1 i1 a6 c6 ((ws.drop 2).map λ x=>(eL x).1) :: (Ct r S++[B]))):=s3.and k4.single;rw[he] at e1;refine⟨_,_,_,_,rfl,cF rfl ⟨λ w5=>∃ S' : Se,S'.er=(A7 S ws).er/\St w0 w5 (Sep (Ct r S'++[B])),λ w5 h _=>⟨by rw[e1],λ hh=>absurd e1 hh,λ _=>h⟩,ak rfl ⟨by omega,by omega,_,wc' s4 (i:=6) rfl 0 (by omega),?_⟩⟩⟩;have s5:=s4.quiet (aA.drew w4 []);obtain⟨q6,hq6,_⟩:=fG (St.rd bU s5) (Ks (ws:=ws) (i:=0) (by omega));have nc:∀ i,i+2<ws.length->w4.drew.cell? (Addr.add q6 (i*1))=some (iv (nV ws i)):=λ i hi=>by
     obtain⟨q',hq',hc'⟩:=fG (St.rd bU s5) (Ks (ws:=ws) hi);rw[hq6] at hq'; cases hq'; exact hc'
    have w1c:=wc' s5 (i:=6) rfl 1 (by omega);have z1:=hg.l1; have z2:=hg.l2; have z3:=hg.l3; have z4:=hg.l4;rw[iw,iw,iw,iw,iw]
    by_cases g1:ws.getD 0 []=OI
    ·have hw6:ws.length=6:=by unfold uf at h2; rw[if_pos g1] at h2; omega
     have eM:A7 S ws={ S with ps:=S.ps++[⟨ws.getD 1 [],nV ws 0,nV ws 1,nV ws 2,nV ws 3⟩] }:=by rw[A7,if_pos g1]
     refine cT (beq_iff_eq.2 g1) ⟨_,_,_,s5.ag 1 rfl 0,ak rfl ⟨by omega,by omega,_,w1c,ak hq6 ⟨by omega,by omega,_,nc 0 (by omega),ak hq6 ⟨by omega,by omega,_,nc 1 (by omega),ak hq6 ⟨by omega,by omega,_,nc 2 (by omega),ak hq6 ⟨by omega,by omega,_,nc 3 (by omega),?_⟩⟩⟩⟩⟩⟩;refine s5.ax (⟨ws.getD 1 [],nV ws 0,nV ws 1,nV ws 2,nV ws 3⟩:Pr).cells.toArray λ r1 w6 s6=>⟨s6.ag 2 rfl 0,?_⟩;refine dD (l2:=[(⟨ws.getD 1 [],nV ws 0,nV ws 1,nV ws 2,nV ws 3⟩:Pr)]) RA Pr.len Pr.one (s6.out 3 rfl) (xV (s6.cellsIn 0 rfl) rfl) (by simp; omega) (by simp; omega) λ a8 c8 w7 s7=>?_;have s8:=s7.back (i:=3) (by show 3<8; decide);refine s8.aJ 2 rfl (j:=0) (by show 0<4; decide) rfl λ w8 s9=>⟨{ S with ps:=S.ps++[⟨ws.getD 1 [],nV ws 0,nV ws 1,nV ws 2,nV ws 3⟩],a1:=a8,c1:=c8 },by rw[eM]; rfl,s9.au [2,3,4,5,6,7]⟩
    refine cF (beq_eq_false_iff_ne.2 g1) ?_
    by_cases g2:ws.getD 0 []=OG
    ·have hw6:ws.length=5:=by unfold uf at h2; rw[if_neg g1,if_pos g2] at h2; omega
     have eM:A7 S ws={ S with bd:=S.bd++[⟨ws.getD 1 [],nV ws 0,nV ws 1,nV ws 2⟩] }:=by rw[A7,if_neg g1,if_pos g2]
     refine cT (beq_iff_eq.2 g2) ⟨_,_,_,s5.ag 1 rfl 1,ak rfl ⟨by omega,by omega,_,w1c,ak hq6 ⟨by omega,by omega,_,nc 0 (by omega),ak hq6 ⟨by omega,by omega,_,nc 1 (by omega),ak hq6 ⟨by omega,by omega,_,nc 2 (by omega),?_⟩⟩⟩⟩⟩;refine s5.ax (⟨ws.getD 1 [],nV ws 0,nV ws 1,nV ws 2⟩:Br).cells.toArray λ r1 w6 s6=>⟨s6.ag 2 rfl 1,?_⟩;refine dD (l2:=[(⟨ws.getD 1 [],nV ws 0,nV ws 1,nV ws 2⟩:Br)]) Rx Br.len Br.one (s6.out 4 rfl) (xV (s6.cellsIn 0 rfl) rfl) (by simp; omega) (by simp; omega) λ a8 c8 w7 s7=>?_;have s8:=s7.back (i:=4) (by show 4<8; decide);refine s8.aJ 2 rfl (j:=1) (by show 1<4; decide) rfl λ w8 s9=>⟨{ S with bd:=S.bd++[⟨ws.getD 1 [],nV ws 0,nV ws 1,nV ws 2⟩],a2:=a8,c2:=c8 },by rw[eM]; rfl,s9.au [2,3,4,5,6,7]⟩
    refine cF (beq_eq_false_iff_ne.2 g2) ?_
    by_cases g3:ws.getD 0 []=OH
    ·have hw6:ws.length=4:=by unfold uf at h2; rw[if_neg g1,if_neg g2,if_pos (.inl g3)] at h2; omega
     have eM:A7 S ws={ S with cp:=S.cp++[⟨(gm S (ws.getD 0 []) (ws.getD 1 [])).1,nV ws 0,nV ws 1⟩] }:=by rw[A7,if_neg g1,if_neg g2,if_pos g3]
     refine cT (beq_iff_eq.2 g3) ⟨_,_,_,s5.ag 1 rfl 2,ak hq6 ⟨by omega,by omega,_,nc 0 (by omega),ak hq6 ⟨by omega,by omega,_,nc 1 (by omega),?_⟩⟩⟩;refine s5.ax (⟨(gm S (ws.getD 0 []) (ws.getD 1 [])).1,nV ws 0,nV ws 1⟩:T3).cells.toArray λ r1 w6 s6=>⟨s6.ag 2 rfl 2,?_⟩;refine dD (l2:=[(⟨(gm S (ws.getD 0 []) (ws.getD 1 [])).1,nV ws 0,nV ws 1⟩:T3)]) Rz T3.len T3.one (s6.out 5 rfl) (xV (s6.cellsIn 0 rfl) rfl) (by simp; omega) (by simp; omega) λ a8 c8 w7 s7=>?_;have s8:=s7.back (i:=5) (by show 5<8; decide);refine s8.aJ 2 rfl (j:=2) (by show 2<4; decide) rfl λ w8 s9=>⟨{ S with cp:=S.cp++[⟨(gm S (ws.getD 0 []) (ws.getD 1 [])).1,nV ws 0,nV ws 1⟩],a3:=a8,c3:=c8 },by rw[eM]; rfl,s9.au [2,3,4,5,6,7]⟩
    refine cF (beq_eq_false_iff_ne.2 g3) ?_
    by_cases g4:ws.getD 0 []=OF
    ·have hw6:ws.length=4:=by unfold uf at h2; rw[if_neg g1,if_neg g2,if_pos (.inr g4)] at h2; omega
     have eM:A7 S ws={ S with sa:=S.sa++[⟨(gm S (ws.getD 0 []) (ws.getD 1 [])).1,nV ws 0,nV ws 1⟩] }:=by rw[A7,if_neg g1,if_neg g2,if_neg g3,if_pos g4]
     refine cT (beq_iff_eq.2 g4) ⟨_,_,_,s5.ag 1 rfl 3,ak hq6 ⟨by omega,by omega,_,nc 0 (by omega),ak hq6 ⟨by omega,by omega,_,nc 1 (by omega),?_⟩⟩⟩;refine s5.ax (⟨(gm S (ws.getD 0 []) (ws.getD 1 [])).1,nV ws 0,nV ws 1⟩:T3).cells.toArray λ r1 w6 s6=>⟨s6.ag 2 rfl 3,?_⟩;refine dD (l2:=[(⟨(gm S (ws.getD 0 []) (ws.getD 1 [])).1,nV ws 0,nV ws 1⟩:T3)]) Rw T3.len T3.one (s6.out 6 rfl) (xV (s6.cellsIn 0 rfl) rfl) (by simp; omega) (by simp; omega) λ a8 c8 w7 s7=>?_;have s8:=s7.back (i:=6) (by show 6<8; decide);refine s8.aJ 2 rfl (j:=3) (by show 3<4; decide) rfl λ w8 s9=>⟨{ S with sa:=S.sa++[⟨(gm S (ws.getD 0 []) (ws.getD 1 [])).1,nV ws 0,nV ws 1⟩],a4:=a8,c4:=c8 },by rw[eM]; rfl,s9.au [2,3,4,5,6,7]⟩
    ·exact cF (beq_eq_false_iff_ne.2 g4) ⟨S,by rw[A7,if_neg g1,if_neg g2,if_neg g3,if_neg g4],s4.second⟩
  ·rw[if_pos h3] at e1;exact cT (by simpa using h3) (bad h3 e1 s3)
 ·exact cF (by simpa using h2) (bad (by decide) (by rw[Cl,if_neg h0,if_pos h2]) s)
theorem Be(sep:ByteArray):∀ (k:Nat) (s:ByteArray),∀ x∈Lib.splitB sep 0 k s,x.size<=s.size
 | 0,s,x,hx=>by rw[Lib.splitB_zero,List.mem_singleton] at hx; rw[hx]; exact Nat.le_refl _
 | k+1,s,x,hx=>by
  rw[Lib.splitB] at hx
  split at hx
  ·rw[List.mem_singleton] at hx; rw[hx]; exact Nat.le_refl _
  ·rcases List.mem_cons.1 hx with rfl|hx
   ·rw[ByteArray.size_extract]; omega
   ·have:=Be sep k _ x hx;rw[ByteArray.size_extract] at this;omega
theorem Bh{c:UInt8}{s x:List UInt8}(hx:x∈bh c s):x.length<=s.length:=by
 obtain⟨b,hb,rfl⟩:=List.mem_map.1 hx;have:=Be _ _ _ b hb;rw[gC] at this;exact this
theorem FT(c:UInt8)(s:List UInt8):1<=(bh c s).length:=by rw[mu]; omega
def hM:Se:=⟨[],[],[],[],none,0,none,0,none,0,none,0⟩
def eG:Se->List (List UInt8)->Se×Int
 | S,[]=>(S,0)
 | S,l :: ls=>if l=[] then eG S ls else if Cl S (bh 32 l)≠0 then (hM,Cl S (bh 32 l)) else eG (A7 S (bh 32 l)) ls
def vh(t:List UInt8):Int:=if 4000<t.length then 3 else if (eG hM (bh 10 t)).2≠0 then (eG hM (bh 10 t)).2 else FL (eG hM (bh 10 t)).1
def vi(t:List UInt8):Se:=(eG hM (bh 10 t)).1
theorem P6{S S' : Se}(e:S'.er=S.er)(ws:List (List UInt8)):Cl S' ws=Cl S ws:=by
 have:∀ S:Se,Cl S ws=Cl S.er ws:=λ _=>rfl;rw[this S',e,<- this]
theorem P7{S S' : Se}(e:S'.er=S.er)(ws:List (List UInt8)):(A7 S' ws).er=(A7 S ws).er:=by
 have:∀ S:Se,(A7 S ws).er=(A7 S.er ws).er:=λ S=>by
  unfold A7
  split
  ·rfl
  ·split
   ·rfl
   ·split
    ·rfl
    ·split<;>rfl
 rw[this S',e,<- this]
theorem Qh{S S' : Se}(e:S'.er=S.er):FL S' = FL S:=by
 have:∀ S:Se,FL S=FL S.er:=λ _=>rfl;rw[this S',e,<- this]
theorem Cg:∀ {l:List (List UInt8)} {S S' : Se},S'.er=S.er->(eG S' l).1.er=(eG S l).1.er/\(eG S' l).2=(eG S l).2
 | [],_,_,e=>⟨e,rfl⟩
 | x :: l,S,S',e=>by
  rw[eG,eG,P6 e]
  split
  ·exact Cg e
  ·split
   ·exact⟨rfl,rfl⟩
   ·exact Cg (P7 e _)
theorem LM(w:World):hM.In w:=⟨λ i p h=>by simp[hM] at h,λ i p h=>by simp[hM] at h,λ i p h=>by simp[hM] at h,λ i p h=>by simp[hM] at h,Nat.le_refl _,Nat.le_refl _,Nat.le_refl _,Nat.le_refl _⟩
theorem Lg(w:World)(t:List UInt8)(ht:t.length<=80000):CP 87 #[sv t] w (λ r w'=>∃ (S' : Se) (i:Int),r=.tuple #[.agg S'.arr,iv i,iv (vh t)]/\St w w' (held S'.In)/\(vh t=0->S'.er=(vi t).er/\S'.Ok)):=by
 refine zv ?_;unfold wk;refine(St.start w).one.ax hM.arr λ r1 w1 s1=>?_;have bad:∀ {k i:Int} {w' : World} {m:List aD} {j:Nat},St w w' (Sep m)->m[j]?=some (ai r1 hM.arr 75)->k≠0->vh t=k ->
   aK ⟨r1,0,none⟩ 0 hM.arr.toList w' λ w3=>∃ (a1:OA) (l1 c1:Nat) (a2:OA) (l2 c2:Nat) (a3:OA) (l3 c3:Nat) (a4:OA) (l4 c4:Nat),af w3 ⟨r1,0,none⟩ 0 [.slice a1 l1 c1,.slice a2 l2 c2,.slice a3 l3 c3,.slice a4 l4 c4] /\
    ∃ (S' : Se) (i' : Int),Value.tuple #[.agg #[.slice a1 l1 c1,.slice a2 l2 c2,.slice a3 l3 c3,.slice a4 l4 c4],iv i,iv k]=.tuple #[.agg S'.arr,iv i',iv (vh t)]/\St w w3 (held S'.In)/\(vh t=0->S'.er=(vi t).er/\S'.Ok):=λ {k i w' m j} s e hk hp =>
  s.ay j e hM.arr.toList rfl (by simp[hM,Se.arr,Value.oneCell']) λ w3 s3=>⟨_,_,_,_,_,_,_,_,_,_,_,_,s3.cellsIn (cs:=hM.arr) (T:=75) j (List.getElem?_set_self (dJ e)),hM,i,by rw[hp]; rfl,((St.start' s3.av).one.vT LM).first,λ h=>absurd (hp.symm.trans h) hk⟩
 by_cases h4:4000<t.length
 ·exact cT (by rw[gC]; exact dT (by omega)) (bad s1 (j:=0) rfl (by decide) (by rw[vh,if_pos h4]))
 refine cF (by rw[gC]; exact dF (by omega)) (s1.ax hM.arr λ r2 w3 s3=>aj (Hq w3 10 t (by omega)) ?_);rintro v w4 ⟨g,rfl,k4⟩;have e0:vh t=if (eG hM (bh 10 t)).2≠0 then (eG hM (bh 10 t)).2 else FL (eG hM (bh 10 t)).1:=by rw[vh,if_neg h4]
 have hll:=Bg 10 t;have hls:∀ x∈bh 10 t,x.length<=4000:=λ x hx=>by have:=Bh hx; omega
 generalize hL:bh 10 t=L at *;have s4:St w w4 (Sep [bM 9 1 sF (some ⟨g,0,none⟩) L.length L,ai r2 hM.arr 75,ai r1 hM.arr 75,emp]):=s3.and k4.single;have s5:St w w4 (Sep (Ct r2 hM++[Sep [bM 9 1 sF (some ⟨g,0,none⟩) L.length L,ai r1 hM.arr 75]])):=by
  have h1:St w w4 (Sep (bM 156 3 T3.cells none 0 [] :: bM 153 3 T3.cells none 0 [] :: bM 137 4 Br.cells none 0 [] :: bM 120 5 Pr.cells none 0 [] :: [bM 9 1 sF (some ⟨g,0,none⟩) L.length L,ai r2 hM.arr 75,ai r1 hM.arr 75,emp])):=(((s4.cv).cv).cv).cv;have h2:=(h1.au [5,3,2,1,0,4,6]).split [_,_,_,_,_];exact St.cat (h2.eqv (aT.right (aT.unit _)))
 let B:aD:=Sep [bM 9 1 sF (some ⟨g,0,none⟩) L.length L,ai r1 hM.arr 75];have rdL:gR B λ w=>cW 1 sF w (some ⟨g,0,none⟩) L:=λ w F ⟨F1,F2,_,h1,_,_⟩=>bD FI w F1 h1;have sB1:∀ {w' : World} {S:Se},St w w' (Sep (Ct r2 S++[B]))->St w w' (Sep (Ct r2 S++[bM 9 1 sF (some ⟨g,0,none⟩) L.length L,ai r1 hM.arr 75])):=λ s=>s.dw [_,_,_,_,_];refine⟨_,_,_,rfl,λ i w5 m=>∃ (k:Nat) (S:Se),i=k/\k<=L.length/\m=L.length-k/\wE S k/\(eG S (L.drop k)).1.er=(eG hM L).1.er/\(eG S (L.drop k)).2=(eG hM L).2/\St w w5 (Sep (Ct r2 S++[B])),⟨L.length,0,hM,rfl,by omega,by omega,⟨by simp[hM],by simp[hM],by simp[hM],by simp[hM],by simp[hM],by simp[hM]⟩,rfl,rfl,s5⟩,?_⟩;rintro w5 m i ⟨k,S,rfl,hk,hm,hg,p1,p2,s6⟩ -
 by_cases hlt:(k:Int)<(L.length:Int)
 ·have hx:L[k]?=some (L[k]'(by omega)):=gE (by omega);have hdrop:L.drop k=L[k]'(by omega) :: L.drop (k+1):=List.drop_eq_getElem_cons (by omega);generalize L[k]'(by omega)=x at hx hdrop;rw[hdrop,eG] at p1 p2;obtain⟨q,hq,hc⟩:=FJ ((s6.out 5 rfl).first.imp rdL) hx
  cases hq
  refine cT (dT hlt) ⟨λ w6=>∃ S' : Se,wE S' (k+1)/\(eG S' (L.drop (k+1))).1.er=(eG hM L).1.er/\(eG S' (L.drop (k+1))).2=(eG hM L).2/\St w w6 (Sep (Ct r2 S'++[B])),?_,ak rfl ⟨by omega,by omega,_,hc,?_⟩⟩
  ·rintro w6 ⟨S',h1,h2,h3,s7⟩ -;exact⟨L.length-(k+1),by omega,k+1,S',aB ⟨by omega,by omega⟩,by omega,rfl,h1,h2,h3,s7⟩
  ·by_cases hx0:x=[]
   ·rw[if_pos hx0] at p1 p2;exact cT (by rw[hx0,iw]; rfl) ⟨S,hg.up (by omega),p1,p2,s6⟩
   ·rw[if_neg hx0] at p1 p2;have hxl:=hls x (List.mem_of_getElem? hx);refine cF (by rw[iw,iw]; exact beq_eq_false_iff_ne.2 hx0) (aj (Hq w5 32 x (by omega)) ?_);rintro v w7 ⟨g2,rfl,k7⟩;have s7:St w w7 (Sep (bM 9 1 sF (some ⟨g2,0,none⟩) (bh 32 x).length (bh 32 x) :: (Ct r2 S++[B]))):=s6.and k7.single;have hwl:=Bg 32 x;have s8:St w w7 (Sep (Ct r2 S++[Sep [bM 9 1 sF (some ⟨g2,0,none⟩) (bh 32 x).length (bh 32 x),B]])) :=
     St.cat (((s7.au [1,2,3,4,5,0,6]).split [_,_,_,_,_]).eqv (aT.right (aT.unit _)))
    refine⟨_,_,_,rfl,aj (Qa s8 (λ w F ⟨F1,F2,_,h1,_,_⟩=>bD FI w F1 h1) (Nat.le_refl _) (FT 32 x) (by omega) (λ y hy=>by have:=Bh hy; omega) hg (by omega)) ?_⟩;rintro v w8 ⟨rfl,ko,ok⟩;refine⟨_,rfl,?_⟩
    by_cases hr:Cl S (bh 32 x)=0
    ·rw[if_neg (λ h=>h hr)] at p1 p2;obtain⟨S',eS,s9⟩:=ok hr;have h1:=Cg (l:=L.drop (k+1)) eS;refine cF (by simpa using hr) ⟨S',(P8 hg _).er eS,h1.1.trans p1,h1.2.trans p2,?_⟩;have s10:=s9.dw [_,_,_,_,_];exact s10.au [0,1,2,3,4,6]
    ·rw[if_pos hr] at p1 p2;have p2:Cl S (bh 32 x)=(eG hM L).2:=p2;have s9:=sB1 (((ko hr).dw [_,_,_,_,_]).au [0,1,2,3,4,6]);exact cT (by simpa using hr) (bad s9 (j:=6) rfl hr (by rw[e0,if_pos (by rw[<- p2]; exact hr),<- p2]))
 ·obtain rfl:k=L.length:=by omega
  rw[List.drop_length,eG] at p1 p2;have p1:S.er=(eG hM L).1.er:=p1;have p2:(0:Int)=(eG hM L).2:=p2;rw[if_neg (λ h=>h p2.symm),<- Qh p1] at e0;have s7:=sB1 s6;have sI:S.In w5:=(show St w w5 (Sep (Ct r2 S)) from s7.au [0,1,2,3,4]).imp (K4 hg);refine cF (dF hlt) ⟨_,_,_,_,_,_,_,_,_,_,_,_,s7.cellsIn 0 rfl,aj (Bb sI) ?_⟩;rintro v w10 ⟨⟨rfl,hok⟩,c10⟩;have s8:=s7.quiet c10;refine⟨_,rfl,?_⟩
  by_cases h0:FL S=0
  ·refine cF (by simpa using h0) ⟨_,_,_,_,_,_,_,_,_,_,_,_,s8.cellsIn 0 rfl,s8.ay 6 rfl S.arr.toList rfl (by simp[Se.arr,Value.oneCell']) λ w12 s9=>⟨_,_,_,_,_,_,_,_,_,_,_,_,s9.cellsIn (cs:=S.arr) 6 rfl,S,0,by rw[e0,h0]; rfl,?_,λ _=>⟨by rw[vi,hL]; exact p1,hok.1 h0⟩⟩⟩;exact((show St w w12 (Sep (Ct r2 S)) from s9.au [0,1,2,3,4]).held (K4 hg))
  ·exact cT (by simpa using h0) (bad s8 (j:=6) rfl h0 e0)
def gW(o:Po):Sx:={ o:=o,ph:=0,s:=hM,k:=none,bd:=[bF,bF,bF,bF,bF,bF,bF,bF],dec:=0,cnt:=0,dig:=0 }
theorem Qp(w:World)(o:Po):CP 8 #[o.v] w (λ r w'=>∃ b,r=.pointer (some ⟨b,0,none⟩)/\St w w' (Sep [ai b (gW o).cells.toArray 80])):=by
 refine Cz ?_;unfold Bj;exact(St.start w).one.ax o.cells.toArray λ r1 w1 s1=>⟨_,_,_,_,s1.cellsIn 0 rfl,s1.ax (gW o).cells.toArray λ r2 w2 s2=>⟨r2,rfl,s2.au [0]⟩⟩
theorem je{S:Sx}(h:S.bd.length=8):S.cells.toArray[9]?=some (.pointer S.k):=by
 obtain⟨o,ph,s,k,bd,dec,cnt,dig⟩:=S;obtain⟨b0,b1,b2,b3,b4,b5,b6,b7,rfl⟩:=bB h;rfl
section
variable {w0 w:World} {b g:Nat} {S:Sx} {C:Ck} {B:aD}
def cU(b:Nat)(S:Sx)(g:Nat)(C:Ck):List aD:=ai b S.cells.toArray 80 :: dI g C
theorem St.l7{m:List aD}(s:St w0 w (Sep (dI g C++m))):St w0 w (Sep (dI g C++[Sep m])):=St.cat ((s.split (dI g C)).eqv (aT.right (aT.unit _)))
theorem Li(s:St w0 w (Sep (cU b S g C++[B])))(h:S.bd.length=8)(hk:S.k=some ⟨g,0,none⟩)(hC:C.Ok)(e:Ev) :
  CP 53 #[.pointer (some ⟨b,0,none⟩),e.v] w (λ r w'=>∃ (x:Int) (S' : Sx) (C' : Ck),r=iv x/\S'.bd.length=8/\S'.k=S.k/\x=(if C.ov then 10 else 0)/\(C.ov=false->C'.er=(if e.kind=3 then dW C else tX C).er/\S' = if (if e.kind=3 then di C else true) then { S with ph:=2 } else S)/\St w0 w' (Sep (cU b S' g C'++[B]))):=by
 refine pn (u1:=e.want) ?_;unfold jS;refine s.ax e.cells.toArray λ r1 w1 s1=>?_;let Bf:aD:=Sep [ai r1 e.cells.toArray 36,ai b S.cells.toArray 80,B];have s2:St w0 w1 (Sep (dI g C++[Bf])):=St.l7 (m:=[_,_,_]) (s1.au [2,3,4,5,6,7,0,1,8]);have cl:w1.cell? ⟨b,9,none⟩=some (.pointer (some ⟨g,0,none⟩)):=by rw[s1.ag 1 rfl,je h,hk]
 have unf:∀ {w' : World} {C' : Ck},St w0 w' (Sep (dI g C'++[Bf]))->St w0 w' (Sep (cU b S g C'++[B])):=λ s=>(s.dw [_,_,_,_,_,_]).au [7,0,1,2,3,4,5,8];refine⟨λ o x w2=>∃ C' : Ck,x=(if C.ov then 10 else 0)/\(C.ov=false->C'.er=(if e.kind=3 then dW C else tX C).er/\o=if e.kind=3 then di C else true)/\St w0 w2 (Sep (cU b S g C'++[B])),?_,_,s1.ag 0 rfl 0,?_⟩
 ·rintro w2 o x ⟨C',hx,ho,s3⟩ -;refine⟨λ w3=>∃ S' : Sx,S'.bd.length=8/\S'.k=S.k/\S' = (if o then { S with ph:=2 } else S)/\St w0 w3 (Sep (cU b S' g C'++[B])),?_,?_⟩
  ·rintro w3 ⟨S',h8,hk',hS,s4⟩ -;exact⟨x,S',C',rfl,h8,hk',hx,λ hv=>⟨(ho hv).1,by rw[hS,(ho hv).2]⟩,s4⟩
  ·cases o with
   | true =>
    refine cT rfl (s3.aJ 0 rfl (j:=4) (by rw[de h]; omega) rfl λ w4 s4=>⟨{ S with ph:=2 },h,rfl,rfl,?_⟩);rw[Er h] at s4;exact s4
   | false=>exact cF rfl ⟨S,h,rfl,rfl,s3⟩
 ·by_cases h3:e.kind=3
  ·refine cT (by simpa using h3) ⟨_,cl,aj (Mg s2 hC) ?_⟩;rintro v w5 (⟨hv,rfl,s5⟩|⟨hv,rfl,C',eC,s5⟩)
   ·exact⟨_,_,rfl,C,by rw[hv]; rfl,λ h=>(by rw[hv] at h; cases h),unf s5⟩
   ·exact⟨_,_,rfl,C',by rw[hv]; rfl,λ _=>⟨by rw[if_pos h3]; exact eC,by rw[if_pos h3]⟩,unf s5⟩
  ·refine cF (by simpa using h3) ⟨_,cl,aj (Qr s2 hC) ?_⟩;rintro v w5 (⟨hv,rfl,s5⟩|⟨hv,rfl,C',eC,s5⟩)
   ·exact⟨_,rfl,C,by rw[hv]; rfl,λ h=>(by rw[hv] at h; cases h),unf s5⟩
   ·exact⟨_,rfl,C',by rw[hv]; rfl,λ _=>⟨by rw[if_neg h3]; exact eC,by rw[if_neg h3]⟩,unf s5⟩
end
section
variable {w0 w:World} {b g:Nat} {S:Sx} {C:Ck} {B:aD}
theorem II(s:St w0 w (Sep (cU b S g C++[B])))(h:S.bd.length=8)(hk:S.k=some ⟨g,0,none⟩)(hC:C.Ok){e:Ev}{n:Nat}{y:Br}(hn:e.bidder=n)(hy:C.s.bd[n]?=some y) :
  CP 52 #[.pointer (some ⟨b,0,none⟩),e.v] w (λ r w'=>r=iv (kj C n y e.want)/\St w0 w' (Sep (cU b S g (if kj C n y e.want=0 then rA C n e.want else C)++[B]))):=by
 refine nM (u1:=e.want) ?_;unfold iZ;refine s.ax e.cells.toArray λ r1 w1 s1=>?_;have s1':=s1.quiet (aA.drew w1 []);let Bf:aD:=Sep [ai r1 e.cells.toArray 36,ai b S.cells.toArray 80,B];have s2:St w0 w1.drew (Sep (dI g C++[Bf])):=St.l7 (m:=[_,_,_]) (s1'.au [2,3,4,5,6,7,0,1,8]);have cl:w1.drew.cell? ⟨b,9,none⟩=some (.pointer (some ⟨g,0,none⟩)):=by rw[s1'.ag 1 rfl,je h,hk]
 have unf:∀ {w' : World} {C' : Ck},St w0 w' (Sep (dI g C'++[Bf]))->St w0 w' (Sep (cU b S g C'++[B])):=λ s=>(s.dw [_,_,_,_,_,_]).au [7,0,1,2,3,4,5,8];have cb:w1.drew.cell? ⟨r1,1,none⟩=some (iv n):=by rw[<- hn]; exact s1'.ag 0 rfl 1
 refine⟨_,cl,_,cb,e.want,s1'.aF 0 3 rfl rfl,aj (PC s2 hC hy e.want) ?_⟩;rintro v w2 ⟨rfl,s3⟩;refine⟨_,rfl,rfl,unf ?_⟩
 split at s3
 ·rename_i h0; rw[if_pos h0]; exact s3
 ·rename_i h0; rw[if_neg h0]; exact s3
end
section
variable {w0 w:World} {b g:Nat} {S:Sx} {C:Ck} {B:aD}
def eD(S:Sx)(i:Nat):Sx:={ S with bd:=S.bd.set i { S.bd.getD i bF with out:=true } }
theorem Nv(s:St w0 w (Sep (cU b S g C++[B])))(h:S.bd.length=8)(hk:S.k=some ⟨g,0,none⟩)(hC:C.Ok){e:Ev}{i:Nat}(he:e.bidder=i)(hi:i<C.s.bd.length) :
  CP 56 #[.pointer (some ⟨b,0,none⟩),e.v] w (λ r w'=>(C.dp[i]?=some true/\r=iv 10/\St w0 w' (Sep (cU b (aX (eD S i) i) g C++[B])))\/(C.dp[i]?=some false/\r=iv 0/\St w0 w' (Sep (cU b (aX (eD S i) i) g (jC C i)++[B])))):=by
 refine jj (u1:=e.want) ?_;unfold eU;have hi8:i<8:=by have:=hC.s.bd.l2; omega
 have hy:S.bd[i]?=some (S.bd.getD i bF):=by rw[List.getD_eq_getElem?_getD,gE (by omega)]; rfl
 refine s.ax e.cells.toArray λ r1 w1 s1=>?_;have s2:=s1.quiet (aA.drew w1 []);have c1:w1.drew.cell? ⟨r1,1,none⟩=some (iv i):=by rw[<- he]; exact s2.ag 0 rfl 1
 refine⟨_,c1,by omega,by omega,?_⟩;rw[N2,bw];refine s2.aJ 1 rfl (j:=10+i*11+10) (by rw[de h]; omega) rfl λ w2 s3=>?_;rw[NO h hi8 hy] at s3;have h2:(eD S i).bd.length=8:=by simpa[eD] using h
 have h3:(aX (eD S i) i).bd.length=8:=by simpa[aX] using h2
 have s3:St w0 w2 (Sep (ai r1 e.cells.toArray 36 :: ai b (eD S i).cells.toArray 80 :: (dI g C++[B]))):=s3;have c2:w2.cell? ⟨r1,1,none⟩=some (iv i):=by rw[<- he]; exact s3.ag 0 rfl 1
 refine⟨_,c2,aj (Cs (m:=ai r1 e.cells.toArray 36 :: (dI g C++[B])) (s3.au [1,0,2,3,4,5,6,7,8]) h2 hi8) ?_⟩;rintro v w3 ⟨rfl,s4⟩;have s5:=s4.quiet (aA.drew w3 []);let S' : Sx:=aX (eD S i) i;let Bf:aD:=Sep [ai r1 e.cells.toArray 36,ai b S'.cells.toArray 80,B];have s6:St w0 w3.drew (Sep (dI g C++[Bf])):=St.l7 (m:=[_,_,_]) (s5.au [2,3,4,5,6,7,1,0,8]);have cl:w3.drew.cell? ⟨b,9,none⟩=some (.pointer (some ⟨g,0,none⟩)):=by
  rw[s5.ag 0 rfl,je h3];show some (Value.pointer S.k)=_;rw[hk]
 have unf:∀ {w' : World} {C' : Ck},St w0 w' (Sep (dI g C'++[Bf]))->St w0 w' (Sep (cU b S' g C'++[B])):=λ s=>(s.dw [_,_,_,_,_,_]).au [7,0,1,2,3,4,5,8];have c3:w3.drew.cell? ⟨r1,1,none⟩=some (iv i):=by rw[<- he]; exact s5.ag 1 rfl 1
 refine⟨rfl,_,cl,_,c3,aj (Pb s6 hC hi) ?_⟩;rintro v w4 (⟨hd,rfl,s7⟩|⟨hd,rfl,s7⟩)
 ·exact⟨_,rfl,.inl ⟨hd,rfl,unf s7⟩⟩
 ·exact⟨_,rfl,.inr ⟨hd,rfl,unf s7⟩⟩
end
section
variable {w0 w:World} {b g:Nat} {S:Sx} {C:Ck} {B:aD}
def bA(S:Sx):Nat->Sx
 | 0=>S
 | k+1=>aX (bA S k) k
theorem rX(h:S.bd.length=8):∀ k,(bA S k).bd.length=8
 | 0=>h
 | k+1=>by have:=rX h k; simpa[bA,aX] using this
theorem Lh(s:St w0 w (Sep (cU b S g C++[B])))(h:S.bd.length=8)(hk:S.k=some ⟨g,0,none⟩)(hC:C.Ok)(e:Ev) :
  CP 57 #[.pointer (some ⟨b,0,none⟩),e.v] w (λ r w'=>(bH C e.round=true/\r=iv 4/\St w0 w' (Sep (cU b S g C++[B])))\/(bH C e.round=false/\r=iv 0/\∃ C',C'.er=(bW C e.round.toNat).er/\St w0 w' (Sep (cU b { bA S 8 with ph:=1 } g C'++[B])))):=by
 refine pg (u1:=e.want) ?_;unfold jR;refine s.ax e.cells.toArray λ r1 w1 s1=>?_;have s2:=s1.quiet (aA.drew w1 []);let Bf:aD:=Sep [ai r1 e.cells.toArray 36,ai b S.cells.toArray 80,B];have s3:St w0 w1.drew (Sep (dI g C++[Bf])):=St.l7 (m:=[_,_,_]) (s2.au [2,3,4,5,6,7,0,1,8]);have cl:w1.drew.cell? ⟨b,9,none⟩=some (.pointer (some ⟨g,0,none⟩)):=by rw[s2.ag 1 rfl,je h,hk]
 have unf:∀ {w' : World} {C' : Ck},St w0 w' (Sep (dI g C'++[Bf]))->St w0 w' (Sep (cU b S g C'++[B])):=λ s=>(s.dw [_,_,_,_,_,_]).au [7,0,1,2,3,4,5,8];refine⟨_,cl,_,s2.ag 0 rfl 2,aj (Nj s3 hC e.round) ?_⟩;rintro v w2 (⟨hr,rfl,s4⟩|⟨hr,rfl,C',eC,s4⟩)
 ·exact⟨_,rfl,cT rfl (.inl ⟨hr,rfl,unf s4⟩)⟩
 ·refine⟨_,rfl,cF rfl ⟨λ i w3 m=>∃ k:Nat,i=k/\k<=8/\m=8-k/\St w0 w3 (Sep (cU b (bA S k) g C'++[B])),⟨8,0,rfl,by omega,by omega,unf s4⟩,?_⟩⟩;rintro w3 m i ⟨k,rfl,hk8,hm,s5⟩ -;have h5:=rX h k
  by_cases hlt:(k:Int)<8
  ·refine cT (dT hlt) (aj (Cs (m:=dI g C'++[B]) s5 h5 (i:=k) (by omega)) ?_);rintro v w4 ⟨rfl,s6⟩;exact⟨rfl,8-(k+1),by omega,k+1,aB ⟨by omega,by omega⟩,by omega,rfl,s6⟩
  ·obtain rfl:k=8:=by omega
   refine cF (dF hlt) (s5.aJ 0 rfl (j:=4) (by rw[de h5]; omega) rfl λ w4 s6=>.inr ⟨hr,rfl,C',eC,?_⟩);rw[Er h5] at s6;exact s6
end
def AQ(F:I6->Int)(b:I6)(v:Int)(c:Ch):Int:=if c.want=b then v else if F c.want+cost c.p b-cost c.p c.want<v then F c.want+cost c.p b-cost c.p c.want else v
def Oo(F:I6->Int)(l:List Ch)(b:I6):Int:=l.foldl (AQ F b) 1000000
theorem Mv{l:List Ch}(h:∀ c∈l,c.Ok){q:I6}(hq:I6.Le q 4):∀ {v:Int},0<=v/\v<=24000000->0<=l.foldl (wT q) v/\l.foldl (wT q) v<=24000000:=by
 induction l with
 | nil=>intro v hv; exact hv
 | cons c l ih =>
  intro v hv;rw[List.foldl_cons];refine ih (λ c hc=>h c (by simp[hc])) ?_;have:=lW (h c (by simp)).p hq;unfold wT
  split
  ·split<;>omega
  ·exact hv
theorem Mu{l:List Of}(h:∀ x∈l,x.v<=1000000){q:I6}:∀ {v:Int},0<=v/\v<=24000000->0<=l.foldl (BY q) v/\l.foldl (BY q) v<=24000000:=by
 induction l with
 | nil=>intro v hv; exact hv
 | cons c l ih =>
  intro v hv;rw[List.foldl_cons];refine ih (λ c hc=>h c (by simp[hc])) ?_;have:=h c (by simp);unfold BY
  split
  ·split<;>omega
  ·exact hv
theorem Mw{l:List Ch}{bids:List Of}(h:∀ c∈l,c.Ok)(hb:∀ x∈bids,x.v<=1000000){q:I6}(hq:I6.Le q 4):0<=JX l bids q/\JX l bids q<=24000000:=Mu hb (Mv h hq (by decide))
theorem PM{w:World}{a:OA}{c:Nat}{l:List Ch}(hr:CN w a l)(hl:l.length<=1000)(ho:∀ c∈l,c.Ok){F:I6->Int}(hF:∀ q,I6.Le q 4->0<=F q/\F q<=24000000){v:Value}(hv:∀ (w' : World) (q:I6) (R:Ending->World->Prop),aA w w' []->I6.Le q 4->(∀ w'',aA w' w'' []->R (.returned (iv (F q))) w'')->cr prog v #[.agg q.vs.toArray] w' R){b:I6}(hb:I6.Le b 4) :
  CP 190 #[.slice a l.length c,v,.agg b.vs.toArray] w (λ r w'=>r=iv (Oo F l b)/\aA w w' []):=by
 refine zi ?_;unfold wh;refine(St.start w).one.ax b.vs.toArray λ r1 w1 s1=>?_;let M:List aD:=[ai r1 b.vs.toArray 34,emp];refine⟨λ n i w2 m=>∃ k:Nat,i=k/\k<=l.length/\m=l.length-k/\n=(l.take k).foldl (AQ F b) 1000000/\St w w2 (Sep M),⟨l.length,0,rfl,by omega,by omega,rfl,s1⟩,?_⟩;rintro w2 m n i ⟨k,rfl,hk,hm,rfl,s2⟩ -
 by_cases hlt:(k:Int)<(l.length:Int)
 ·have hx:l[k]?=some (l[k]'(by omega)):=gE (by omega);generalize l[k]'(by omega)=y at hx;obtain⟨p,hp,hcl⟩:=(hr.av s2.av).at hx;have oy:=ho y (List.mem_of_getElem? hx);have ef:=kN (f:=AQ F b) (a:=1000000) hx;refine cT (dT hlt) ⟨λ n w3=>n=(l.take (k+1)).foldl (AQ F b) 1000000/\St w w3 (Sep M),?_,ak hp ⟨by omega,by omega,y.p,y.want,hcl,s2.ax Ai.cells.toArray λ r2 w4 s4=>s4.ay 0 rfl y.cells rfl y.one λ w5 s5=>⟨y.want,bJ s5 0 rfl,b,s5.cellsIn 1 rfl,?_⟩⟩⟩
  ·rintro w3 n ⟨rfl,s3⟩ -;exact⟨l.length-(k+1),by omega,k+1,aB ⟨by omega,by omega⟩,by omega,rfl,rfl,s3⟩
  rw[I6.beq_eq]
  by_cases hw:y.want=b
  ·exact cF (by rw[dT hw]; rfl) ⟨by rw[ef,AQ,if_pos hw],s5.au [1,2]⟩
  ·have s6:=s5.quiet (aA.drew w5 []);refine cT (by rw[dF hw]; rfl) ⟨y.want,bJ s6 0 rfl,y.p,uG s6 0 rfl,b,s6.cellsIn 1 rfl,y.p,uG s6 0 rfl,y.want,bJ s6 0 rfl,hv _ y.want _ s6.av oy.w λ w7 c7=>?_⟩;have s7:=s6.quiet c7;refine⟨_,rfl,bJ s7 0 rfl,uG s7 0 rfl,s7.cellsIn 1 rfl,uG s7 0 rfl,aj (fS w7 oy.p hb) ?_⟩;rintro x w8 ⟨rfl,c8⟩;have s8:=s7.quiet c8;refine⟨_,rfl,bJ s8 0 rfl,uG s8 0 rfl,aj (fS w8 oy.p oy.w) ?_⟩;rintro x w9 ⟨rfl,c9⟩;have h1:=hF y.want oy.w;have h2:=lW oy.p hb;have h3:=lW oy.p oy.w;refine⟨_,rfl,?_,(s8.quiet c9).au [1,2]⟩;rw[ef,AQ,if_neg hw,aB (n:=F y.want+cost y.p b) ⟨by omega,by omega⟩,aB ⟨by omega,by omega⟩]
 ·obtain rfl:l.length=k:=by omega
  rw[List.take_length];exact cF (dF hlt) ⟨rfl,s2.av⟩
