import Derived.Test.YtpihmghnbplohaaGreatDoorQ08
set_option linter.unusedVariables false
set_option maxRecDepth 100000
namespace Go.Proofs.YtpihmghnbplohaaGreatDoor
open Go Go.Vc Tryz
section
variable {w0 w:World} {B:aJ} {r r2:Nat} {l l2:List KV} {lim:I6} {f g:Wf}
theorem pP(s:St w0 w (star (mapA r l) B)):(l.map (·.1)).Nodup:=by
 obtain⟨x,_⟩:=s.ex;exact x.2.ky
theorem cV.key(h:cV lim l f)(hn:(l.map (·.1)).Nodup){p:KV}(hp:p∈l):I6.Le p.1 4/\0<p.2/\p.2<=1000000:=by
 have h1:=(h.mem hn p).1 hp;have:=h.le p.1;exact⟨(h.s p.1 h1.1).1,by omega,by omega⟩
theorem mK(s:St w0 w (star (mapA r l) B))(h:cV lim l f)(hl:I6.Le lim 4){b:I6}(hb:I6.Le b 1000000)(v:Int) :
  CP 277 #[.map (some r),.agg lim.vs.toArray,.agg b.vs.toArray,iv v] w (λ x w'=>x=.tuple #[]/\∃ l',cV lim l' (jU lim f (b,v))/\St w0 w' (star (mapA r l') B)):=by
 refine kj ?_;unfold gL;refine(s.xx).aB lim.vs.toArray λ r1 w1 s1=>s1.aB b.vs.toArray λ r2 w2 s2=>?_;have hr:=h.raise hl (p:=(b,v)) hb;have back:∀ {w' : World} {l' : List KV},St w0 w' (Sep [ah r2 b.vs.toArray 41,ah r1 lim.vs.toArray 41,mapA r l',B])->St w0 w' (star (mapA r l') B):=λ s=>(s.aA [2,3]).pair;refine⟨λ x w3=>x=decide (ry v>f b/\within b lim=true)/\St w0 w3 (Sep [ah r2 b.vs.toArray 41,ah r1 lim.vs.toArray 41,mapA r l,B]),?_,b,s2.cellsIn 0 rfl,?_⟩
 ·rintro w3 _ ⟨rfl,s3⟩ -
  by_cases g:ry v>f b/\within b lim=true
  ·rw[if_pos g] at hr;refine cT (dT g) ⟨b,s3.cellsIn 0 rfl,Sa TC (s3.out 2 rfl) b (ry v) λ w4 s4=>⟨rfl,_,hr,?_⟩⟩;exact back (s4.back (show 2<4 by decide))
  ·rw[if_neg g] at hr;exact cF (dF g) ⟨rfl,_,hr,back s3⟩
 ·refine F0 TC (s2.out 2 rfl) b ?_;rw[h.get]
  by_cases g1:ry v>f b
  ·refine cT (dT g1) ⟨b,s2.cellsIn 0 rfl,lim,s2.cellsIn 1 rfl,aq (vz _ _ _) ?_⟩;rintro x w6 ⟨rfl,c6⟩;refine⟨_,rfl,?_,s2.quiet c6⟩
   cases hw:within b lim with
   | true=>rw[dT (p:=ry v>f b/\true=true) ⟨g1,rfl⟩]
   | false=>rw[dF (p:=ry v>f b/\false=true) (λ h=>by cases h.2)]
  ·exact cF (dF g1) ⟨by rw[dF (λ h=>g1 h.1)],s2⟩
theorem vu(s:St w0 w (star (mapA r l) (star (mapA r2 l2) B)))(h:cV lim l f)(h2:cV lim l2 g)(hl:I6.Le lim 4) :
  CP 278 #[.map (some r),.agg lim.vs.toArray,.map (some r2)] w (λ x w'=>x=.tuple #[]/\∃ l',cV lim l' (bG lim f l2)/\St w0 w' (star (mapA r l') (star (mapA r2 l2) B))):=by
 refine ki ?_;unfold gK;have hn2:=pP s.CD;refine(s.yZ).aB lim.vs.toArray λ r1 w1 s1=>mu TC (s1.out 2 rfl) λ it w2 s2=>?_;have s2:St w0 w2 (Sep [Aa r2 it l2 [],ah r1 lim.vs.toArray 41,mapA r l,B]):=s2;refine⟨λ w3 m=>∃ (S l' : List KV),m=l2.length-S.length/\(∀ p∈S,p∈l2)/\cV lim l' (bG lim f S)/\St w0 w3 (Sep [Aa r2 it l2 S,ah r1 lim.vs.toArray 41,mapA r l',B]),⟨_,[],l,rfl,by simp,h,s2⟩,?_⟩;rintro w3 m ⟨S,l',rfl,hS,hr,s3⟩ -;refine pR s3 (λ hend=>⟨rfl,l',?_,?_⟩) (λ p hp hlen w4 s4=>?_)
 ·rw[fF (Q:=l2) (Q':=S) λ p=>⟨hend p,hS p⟩]; exact hr
 ·have s5:St w0 w3 (Sep [mapA r2 l2,ah r1 lim.vs.toArray 41,mapA r l',B]):=St.Ab s3;exact(s5.aA [2,0,3]).triple
 ·have s4:St w0 w4 (Sep [Aa r2 it l2 (S++[p]),ah r1 lim.vs.toArray 41,mapA r l',B]):=s4;have hk:=h2.key hn2 hp;refine s4.aB z6.vs.toArray λ r3 w6 s6=>s6.aE 0 rfl p.1.vs rfl (I6.one _) λ w7 s7=>⟨lim,s7.cellsIn 2 rfl,p.1,s7.cellsIn 0 rfl,aq (mK (s7.out 3 rfl) hr hl (tL hk.1 (by omega)) p.2) ?_⟩;rintro x w8 ⟨rfl,l'',hr2,s8⟩;have s9:=(s8.back (show 3<5 by decide)).aA [1,2,3,4];refine⟨rfl,_,?_,S++[p],l'',rfl,?_,?_,s9⟩
  ·rw[List.length_append,List.length_singleton]; omega
  ·intro q hq;rcases List.mem_append.1 hq with hq|hq
   ·exact hS q hq
   ·rw[List.mem_singleton.1 hq]; exact hp
  ·rw[<- iN]; exact hr2
end
section
variable {w0 w:World} {B:aJ} {r r1 r2:Nat} {l l1 l2:List KV} {lim:I6} {f g:Wf}
theorem St.T8(s:St w0 w (star (aV r (.map #[] 0)) B)):St w0 w (star (mapA r []) B) :=
 St.tg (f:=λ (x:{ p:Array MapEntry×Nat // ER p.1.toList p.2 [] })=>aV r (.map x.1.1 x.1.2)) ⟨(#[],0),rfl,by simp,by simp,by simp⟩ s
def y6(p q:KV):KV:=(p.1.zip (· + ·) q.1,p.2+q.2)
def Ee(l1 l2:List KV):List KV:=l1.flatMap λ p=>l2.map (y6 p)
theorem yL{l1 l2:List KV}{x:KV}:x∈Ee l1 l2<->∃ p∈l1,∃ q∈l2,y6 p q=x:=by simp[Ee]
theorem PZ{p q:KV}(hp:I6.Le p.1 4)(hq:I6.Le q.1 4):I6.Le (y6 p q).1 1000000:=λ k hk=>by
 have h1:=hp k hk; have h2:=hq k hk;show 0<=(p.1.zip (· + ·) q.1).at' k/\_;rw[I6.j7 _ _ _ _ hk];show 0<=p.1.at' k+q.1.at' k/\(p.1.zip (· + ·) q.1).at' k<=1000000;rw[I6.j7 _ _ _ _ hk];omega
theorem Ww(s:St w0 w (star (mapA r1 l1) (star (mapA r2 l2) B)))(h1:cV lim l1 f)(h2:cV lim l2 g)(hl:I6.Le lim 4) :
  CP 279 #[.agg lim.vs.toArray,.map (some r1),.map (some r2)] w (λ x w'=>∃ r3 l3,x=.map (some r3)/\cV lim l3 (bG lim (λ _=>0) (l1++(l2++Ee l1 l2)))/\St w0 w' (star (mapA r3 l3) (star (mapA r1 l1) (star (mapA r2 l2) B)))):=by
 refine wO ?_;unfold sG;have hn1:=pP s;have hn2:=pP s.CD;refine(s.yZ).aB lim.vs.toArray λ b1 w1 s1=>wh s1 λ r3 w2 c2 s2=>?_;have s3:St w0 w2 (Sep [mapA r3 [],ah b1 lim.vs.toArray 41,mapA r1 l1,mapA r2 l2,B]):=St.T8 s2;refine⟨lim,s3.cellsIn 1 rfl,aq (vu (f:=λ _=>0) (g:=f) (s3.aA [0,2,1,3,4]) (cV.nil lim) h1 hl) ?_⟩;rintro x w3 ⟨rfl,l4,hr4,s4⟩;have s4:St w0 w3 (Sep [mapA r3 l4,mapA r1 l1,ah b1 lim.vs.toArray 41,mapA r2 l2,B]):=s4;refine⟨rfl,lim,s4.cellsIn 2 rfl,aq (vu (g:=g) (s4.aA [0,3,1,2,4]) hr4 h2 hl) ?_⟩;rintro x w5 ⟨rfl,l5,hr5,s5⟩;rw[Iu] at hr5;have s5:St w0 w5 (Sep [mapA r3 l5,mapA r2 l2,mapA r1 l1,ah b1 lim.vs.toArray 41,B]):=s5;refine⟨rfl,mu TC (s5.out 2 rfl) λ it w6 s6=>?_⟩;have s6:St w0 w6 (Sep [Aa r1 it l1 [],mapA r3 l5,mapA r2 l2,ah b1 lim.vs.toArray 41,B]):=s6;refine⟨λ w7 m=>∃ (S l' : List KV),m=l1.length-S.length/\(∀ p∈S,p∈l1)/\cV lim l' (bG lim (λ _=>0) ((l1++l2)++Ee S l2))/\St w0 w7 (Sep [Aa r1 it l1 S,mapA r3 l',mapA r2 l2,ah b1 lim.vs.toArray 41,B]),⟨_,[],l5,rfl,by simp,by simpa[Ee] using hr5,s6⟩,?_⟩;rintro w7 m ⟨S,l',rfl,hS,hr,s7⟩ -;refine pR s7 (λ hend=>⟨r3,l',rfl,?_,?_⟩) (λ p hp hlen w8 s8=>?_)
 ·rw[fF (Q:=l1++(l2++Ee l1 l2)) (Q':=(l1++l2)++Ee S l2) λ x=>?_]; exact hr;have:x∈Ee l1 l2<->x∈Ee S l2:=by
   rw[yL,yL];exact⟨λ ⟨p,h1,h2⟩=>⟨p,hend p h1,h2⟩,λ ⟨p,h1,h2⟩=>⟨p,hS p h1,h2⟩⟩
  rw[List.mem_append,List.mem_append,List.mem_append,List.mem_append,this,or_assoc]
 ·have t:St w0 w7 (Sep [mapA r1 l1,mapA r3 l',mapA r2 l2,ah b1 lim.vs.toArray 41,B]):=St.Ab s7;exact(t.aA [1,0,2,4]).eqv (bg.right (bg.right (bg.right (bg.unit' _))))
 ·have s8:St w0 w8 (Sep [Aa r1 it l1 (S++[p]),mapA r3 l',mapA r2 l2,ah b1 lim.vs.toArray 41,B]):=s8;have hk:=h1.key hn1 hp;refine s8.aB z6.vs.toArray λ b3 w9 s9=>s9.aE 0 rfl p.1.vs rfl (I6.one _) λ w10 s10=>mu TC (s10.out 3 rfl) λ it2 w11 s11=>?_;have s11:St w0 w11 (Sep [Aa r2 it2 l2 [],ah b3 p.1.vs.toArray 41,Aa r1 it l1 (S++[p]),mapA r3 l',ah b1 lim.vs.toArray 41,B]):=s11;refine⟨λ w12 m=>∃ (T l' : List KV),m=l2.length-T.length/\(∀ q∈T,q∈l2)/\cV lim l' (bG lim (λ _=>0) (((l1++l2)++Ee S l2)++T.map (y6 p)))/\St w0 w12 (Sep [Aa r2 it2 l2 T,ah b3 p.1.vs.toArray 41,Aa r1 it l1 (S++[p]),mapA r3 l',ah b1 lim.vs.toArray 41,B]),⟨_,[],l',rfl,by simp,by simpa using hr,s11⟩,?_⟩;rintro w12 m ⟨T,l',rfl,hT,hr,s12⟩ -;refine pR s12 (λ hend=>?_) (λ q hq hlen2 w14 s14=>?_)
  ·have t:St w0 w12 (Sep [mapA r2 l2,ah b3 p.1.vs.toArray 41,Aa r1 it l1 (S++[p]),mapA r3 l',ah b1 lim.vs.toArray 41,B]):=St.Ab s12;refine⟨_,?_,S++[p],l',rfl,?_,?_,t.aA [2,3,0,4,5]⟩
   ·rw[List.length_append,List.length_singleton]; omega
   ·intro q hq;rcases List.mem_append.1 hq with hq|hq
    ·exact hS q hq
    ·rw[List.mem_singleton.1 hq]; exact hp
   ·rw[fF (Q:=(l1++l2)++Ee (S++[p]) l2) (Q':=((l1++l2)++Ee S l2)++T.map (y6 p)) λ x=>?_]; exact hr;have e1:Ee (S++[p]) l2=Ee S l2++l2.map (y6 p):=by simp[Ee]
    have e2:x∈l2.map (y6 p)<->x∈T.map (y6 p):=by
     rw[List.mem_map,List.mem_map];exact⟨λ ⟨q,h1,h2⟩=>⟨q,hend q h1,h2⟩,λ ⟨q,h1,h2⟩=>⟨q,hT q h1,h2⟩⟩
    rw[e1,<- List.append_assoc,List.mem_append,List.mem_append (t:=T.map (y6 p)),e2]
  ·have s14:St w0 w14 (Sep [Aa r2 it2 l2 (T++[q]),ah b3 p.1.vs.toArray 41,Aa r1 it l1 (S++[p]),mapA r3 l',ah b1 lim.vs.toArray 41,B]):=s14;have hk2:=h2.key hn2 hq;refine s14.aB z6.vs.toArray λ b5 w15 s15=>s15.aE 0 rfl q.1.vs rfl (I6.one _) λ w16 s16=>?_;have s17:=s16.quiet (aD.drew w16 []);refine⟨lim,s17.cellsIn 5 rfl,p.1,s17.cellsIn 2 rfl,q.1,s17.cellsIn 0 rfl,aq (WM _ p.1 q.1 (tL hk.1 (by omega)) (tL hk2.1 (by omega))) ?_⟩;rintro x w18 ⟨rfl,c18⟩;have s18:=s17.quiet c18;refine⟨_,rfl,s18.cellsIn 5 rfl,?_⟩;rw[aH (n:=p.2+q.2) ⟨by omega,by omega⟩];refine aq (mK (s18.out 4 rfl) hr hl (b:=(y6 p q).1) (PZ hk.1 hk2.1) (y6 p q).2) ?_;rintro x w19 ⟨rfl,l'',hr2,s19⟩;have s20:=(s19.back (show 4<7 by decide)).aA [1,2,3,4,5,6];refine⟨rfl,_,?_,T++[q],l'',rfl,?_,?_,s20⟩
   ·rw[List.length_append,List.length_singleton]; omega
   ·intro y hy;rcases List.mem_append.1 hy with hy|hy
    ·exact hT y hy
    ·rw[List.mem_singleton.1 hy]; exact hq
   ·rw[List.map_append,List.map_singleton,<- List.append_assoc,<- iN]; exact hr2
end
def r5:List Int:=[0,1,2,3,4]
theorem we{a:Int}(h:0<=a/\a<=4):a∈r5:=by
 have:a=0\/a=1\/a=2\/a=3\/a=4:=by omega
 simpa[r5] using this
def Uk:List I6:=r5.flatMap λ a=>r5.flatMap λ b=>r5.flatMap λ c=>r5.flatMap λ d=>r5.flatMap λ e=>r5.map λ f=>⟨a,b,c,d,e,f⟩
theorem N1{u:I6}(h:I6.Le u 4):u∈Uk:=by
 have h0:=we (h 0 (by decide)); have h1:=we (h 1 (by decide)); have h2:=we (h 2 (by decide));have h3:=we (h 3 (by decide)); have h4:=we (h 4 (by decide)); have h5:=we (h 5 (by decide));unfold Uk;exact List.mem_flatMap.2 ⟨_,h0,List.mem_flatMap.2 ⟨_,h1,List.mem_flatMap.2 ⟨_,h2,List.mem_flatMap.2 ⟨_,h3,List.mem_flatMap.2 ⟨_,h4,List.mem_map.2 ⟨_,h5,rfl⟩⟩⟩⟩⟩⟩
def Bh(f:Wf):List KV:=(Uk.filter λ u=>decide (0<f u)).map λ u=>(u,f u)
theorem cV.Bh{lim:I6}{l:List KV}{f:Wf}(h:cV lim l f)(hn:(l.map (·.1)).Nodup)(p:KV):p∈l<->p∈Bh f:=by
 rw[h.mem hn];constructor
 ·rintro⟨h1,h2⟩;exact List.mem_map.2 ⟨p.1,List.mem_filter.2 ⟨N1 (h.s _ h1).1,dT h1⟩,Prod.ext rfl h2.symm⟩
 ·intro hp;obtain⟨u,hu,rfl⟩:=List.mem_map.1 hp;exact⟨of_decide_eq_true (List.mem_filter.1 hu).2,rfl⟩
def xm(k p:KV):KV:=(p.1.zip (λ x y=>if y>x then y else x) k.1,p.2+k.2)
def N2(v:Int)(p:KV):KV:=(p.1,if v<p.2 then v else p.2)
def zW:Wf:=λ _=>0
def IX(lim:I6)(f g:Wf):Wf:=bG lim f (Bh g)
def R4(lim:I6)(f g:Wf):Wf:=bG lim zW (Bh f++(Bh g++Ee (Bh f) (Bh g)))
def Uv(lim:I6)(k:KV)(g:Wf):Wf:=bG lim zW (Bh g++([k]++(Bh g).map (xm k)))
def Vq(lim:I6)(v:Int)(g:Wf):Wf:=bG lim zW ((Bh g).map (N2 v))
def lz(lim:I6):Xv->Wf
 | .mk op u v _ _ args =>
  if op=1 then bG lim zW [(u,v)]
  else if op=2 then (args.map (lz lim)).foldl (IX lim) zW
  else if op=3 then (args.map (lz lim)).foldl (R4 lim) zW
  else if op=4 then Uv lim (u,v) ((args.map (lz lim)).headD zW)
  else if op=5 then Vq lim v ((args.map (lz lim)).headD zW)
  else zW
theorem Ia(lim:I6)(x:Xv):lz lim x=if x.op=1 then bG lim zW [(x.u,x.v)]
  else if x.op=2 then (x.args.map (lz lim)).foldl (IX lim) zW
  else if x.op=3 then (x.args.map (lz lim)).foldl (R4 lim) zW
  else if x.op=4 then Uv lim (x.u,x.v) ((x.args.map (lz lim)).headD zW)
  else if x.op=5 then Vq lim x.v ((x.args.map (lz lim)).headD zW)
  else zW:=by cases x; rw[lz]; rfl
theorem TS(lim:I6):∀ x,lz lim x.er=lz lim x:=Xv.ind λ x ih=>by
 rw[Ia,Ia lim x,qS,List.map_map];have:x.args.map (lz lim ∘ Xv.er)=x.args.map (lz lim):=List.map_congr_left λ y hy=>ih y hy;rw[this,Xv.rY]; rfl
inductive BE:Xv->Prop where
 | mk {x:Xv} (f:gV x=true) (r:iO x=true) (k:∀ y∈x.args,BE y):BE x
theorem RP{x:Xv}:pS 0 x=0<->gV x=true/\iO x=true:=by
 unfold pS
 cases gV x<;>cases iO x<;>simp
theorem An:∀ (l:List Xv) (r:Int×Bool),r.2=false->gM eW l r=r
 | [],_,_=>rfl
 | y :: l,r,h=>by
  unfold gM;rw[List.foldl_cons,if_neg (by rw[h]; decide)];exact An l r h
theorem RQ:∀ (x:Xv),(bI eW x 0).2=((bI eW x 0).1==0):=Xv.ind λ x ih=>by
 rw[mL]
 by_cases h:(eW 0 x).2=true
 ·rw[if_pos h];have h0:(eW 0 x).1=0:=by simpa[eW] using h
  rw[h0];have:∀ (l:List Xv),(∀ y∈l,(bI eW y 0).2=((bI eW y 0).1==0))->(gM eW l (0,true)).2=((gM eW l (0,true)).1==0):=λ l=>by
   induction l with
   | nil=>intro _; rfl
   | cons y l ih2 =>
    intro hl;have hy:=hl y (by simp);unfold gM;rw[List.foldl_cons,if_pos rfl]
    cases hb:(bI eW y 0).2 with
    | true =>
     have e0:(bI eW y 0).1=0:=by rw[hb] at hy; simpa using hy.symm
     have:bI eW y 0=(0,true):=Prod.ext e0 hb;rw[this]; exact ih2 λ z hz=>hl z (by simp[hz])
    | false =>
     have:=An l (bI eW y 0) hb;unfold gM at this;rw[this]; exact hy
  exact this x.args ih
 ·rw[if_neg h];show false=((eW 0 x).1==0);have:(eW 0 x).2=false:=by simpa using h
  rw[<- this]; rfl
theorem Rh:∀ (x:Xv),(bI eW x 0).1=0->BE x:=Xv.ind λ x ih h=>by
 rw[mL] at h
 by_cases hb:(eW 0 x).2=true
 ·rw[if_pos hb] at h;have h0:pS 0 x=0:=by simpa[eW] using hb
  have h0' : (eW 0 x).1=0:=h0;rw[h0'] at h;obtain⟨hf,hr⟩:=RP.1 h0;refine .mk hf hr λ y hy=>ih y hy ?_;have:∀ (l:List Xv),(gM eW l (0,true)).1=0->∀ y∈l,(bI eW y 0).1=0:=λ l=>by
   induction l with
   | nil=>intro _ y hy; cases hy
   | cons z l ih2 =>
    intro hl y hy;unfold gM at hl;rw[List.foldl_cons,if_pos rfl] at hl;have hz:=RQ z
    cases hb:(bI eW z 0).2 with
    | true =>
     have e0:(bI eW z 0).1=0:=by rw[hb] at hz; simpa using hz.symm
     have ee:bI eW z 0=(0,true):=Prod.ext e0 hb;rw[ee] at hl;rcases List.mem_cons.1 hy with rfl|hy
     ·exact e0
     ·exact ih2 hl y hy
    | false =>
     have:=An l (bI eW z 0) hb;unfold gM at this;rw[this] at hl;rw[hl,hb] at hz; cases hz
  exact this _ h y hy
 ·rw[if_neg hb] at h;exact absurd (show(eW 0 x).2=true by show(pS 0 x==0)=true; rw[show pS 0 x=0 from h]; rfl) hb
theorem Nv{x:Xv}(h:fA x=0):BE x:=by
 unfold fA at h
 split at h
 ·cases h
 ·split at h
  ·cases h
  ·exact Rh x h
section
variable {lim:I6}
def Yt(lim:I6)(x:Xv):Prop:=∀ (w0 w:World) (B:aJ),(∀ {w'},aD w0 w' []->x.In w')->St w0 w B ->
 CP 249 #[.agg x.cells.toArray,.agg lim.vs.toArray] w (λ v w'=>∃ r l,v=.map (some r)/\cV lim l (lz lim x)/\St w0 w' (star (mapA r l) B))
theorem yQ{w0 w:World}{L:List aJ}{x y:Xv}{r1 r2:Nat}{i:Nat}(H:Yt lim y)(hx:∀ {w'},aD w0 w' []->x.In w')(s:St w0 w (Sep L)){j1 j2:Nat}(e1:L[j1]?=some (ah r1 x.cells.toArray 109))(e2:L[j2]?=some (ah r2 lim.vs.toArray 41))(hy:x.args[i]?=some y) :
  CP 276 #[iv i,pt r1,pt r2] w (λ v w'=>∃ r l,v=.map (some r)/\cV lim l (lz lim y)/\St w0 w' (Sep (mapA r l :: L))):=by
 refine vt ?_;unfold qE;have s1:=s.quiet (aD.drew w []);have hi:=(List.getElem?_eq_some_iff.1 hy).1;obtain⟨q,hq,hcl⟩:=(hx s1.aC).fl.at hy;refine⟨_,_,_,s1.ag j1 e1 8,ay hq ⟨by omega,by omega,_,y.u,_,_,_,_,by rw[Int.toNat_natCast]; exact hcl,lim,s1.cellsIn j2 e2,aq (H w0 _ _ (λ hc=>(hx hc).sub y (List.mem_of_getElem? hy)) s1) ?_⟩⟩;rintro v w1 ⟨r,l,rfl,hr,s2⟩;exact⟨_,rfl,r,l,rfl,hr,s2⟩
theorem vT{α β:Type}{f:α->β->α}{a:α}{l:List β}{k:Nat}{x:β}(h:l[k]?=some x):(l.take (k+1)).foldl f a=f ((l.take k).foldl f a) x:=by rw[aO h,List.foldl_append]; rfl
theorem Zn(hl:I6.Le lim 4):∀ x,BE x->aY x<=100000->Yt lim x:=Xv.ind λ x ih hg hz w0 w B hx s=>by
 refine yC (u1:=x.u) ?_;unfold vr;have hlen:=zg x;obtain⟨hf,hrg,hk⟩:gV x=true/\iO x=true/\∀ y∈x.args,BE y:=by cases hg; exact⟨‹_›,‹_›,‹_›⟩
 have eF:=Ia lim x;have HY:∀ y∈x.args,Yt lim y:=λ y hy=>ih y hy (hk y hy) (by have:=AU hy; omega);refine s.one.aB x.cells.toArray λ r1 w1 s1=>s1.aB lim.vs.toArray λ r2 w2 s2=>wh s2 λ r3 w3 c3 s3=>?_;let M:List KV->List aJ:=λ l=>[mapA r3 l,ah r2 lim.vs.toArray 41,ah r1 x.cells.toArray 109,B];have s3:St w0 w3 (Sep (M [])):=St.T8 s3;have fin:∀ {w' : World} {l:List KV},St w0 w' (Sep (M l))->St w0 w' (star (mapA r3 l) B):=λ s=>(s.aA [0,3]).pair;refine⟨λ m w4=>∃ r l,m=some r/\cV lim l (lz lim x)/\St w0 w4 (star (mapA r l) B),?_,_,s3.ag 2 rfl 0,?_⟩
 ·rintro w4 m ⟨r,l,rfl,hr,s4⟩ -;exact⟨r,l,rfl,hr,s4⟩
 have hu:x.op≠2->x.op≠3->x.op≠5->I6.Le x.u 4:=λ h2 h3 h5=>by
  unfold iO at hrg;rw[if_neg (by rintro(h|h); exact h2 h; exact h3 h)] at hrg
  split at hrg
  ·cases hrg
  ·first|rw[if_neg h5] at hrg|skip
   rw[Bool.and_eq_true] at hrg;exact Mk hrg.1
 have hv:x.op≠2->x.op≠3->1<=x.v/\x.v<=1000000:=λ h2 h3=>by
  unfold iO at hrg;rw[if_neg (by rintro(h|h); exact h2 h; exact h3 h)] at hrg
  split at hrg
  ·cases hrg
  ·rename_i h; omega
 by_cases h1:x.op=1
 ·rw[if_pos h1] at eF;refine cT (by simpa using h1) ⟨lim,s3.cellsIn 1 rfl,x.u,s3.aQ 2 1 rfl rfl,_,s3.ag 2 rfl 7,aq (mK s3 (cV.nil lim) hl (tL (hu (by omega) (by omega) (by omega)) (by omega)) x.v) ?_⟩;rintro v w5 ⟨rfl,l',hr,s5⟩;exact⟨rfl,r3,l',rfl,by rw[eF]; exact hr,fin s5⟩
 rw[if_neg h1] at eF;refine cF (by simpa using h1) ?_
 by_cases h2:x.op=2
 ·rw[if_pos h2] at eF;refine cT (by simpa using h2) ⟨_,_,_,s3.ag 2 rfl 8,λ i w6 m=>∃ (k:Nat) (l:List KV),i=k/\k<=x.args.length/\m=x.args.length-k/\cV lim l (((x.args.take k).map (lz lim)).foldl (IX lim) zW)/\St w0 w6 (Sep (M l)),⟨x.args.length,0,[],rfl,by omega,by omega,cV.nil lim,s3⟩,?_⟩;rintro w6 m i ⟨k,l,rfl,hk1,hm,hr,s6⟩ -
  by_cases hlt:(k:Int)<(x.args.length:Int)
  ·have hy:x.args[k]?=some (x.args[k]'(by omega)):=gE (by omega);generalize x.args[k]'(by omega)=y at hy;have s7:=s6.quiet (aD.drew w6 []);refine cT (dT hlt) ⟨lim,s7.cellsIn 1 rfl,aq (yQ (HY y (List.mem_of_getElem? hy)) hx s7 (j1:=2) (j2:=1) rfl rfl hy) ?_⟩;rintro v w7 ⟨r4,l4,rfl,hr4,s8⟩;have s8:St w0 w7 (Sep [mapA r4 l4,mapA r3 l,ah r2 lim.vs.toArray 41,ah r1 x.cells.toArray 109,B]):=s8;have hn4:=pP s8;refine⟨_,rfl,s8.cellsIn 2 rfl,aq (vu (s8.aA [1,0,2,3,4]) hr hr4 hl) ?_⟩;rintro v w9 ⟨rfl,l5,hr5,s9⟩;have s9:St w0 w9 (Sep [mapA r3 l5,mapA r4 l4,ah r2 lim.vs.toArray 41,ah r1 x.cells.toArray 109,B]):=s9;refine⟨rfl,x.args.length-(k+1),by omega,k+1,l5,aH ⟨by omega,by omega⟩,by omega,rfl,?_,s9.aA [0,2,3,4]⟩;have e:((x.args.take (k+1)).map (lz lim)).foldl (IX lim) zW=IX lim (((x.args.take k).map (lz lim)).foldl (IX lim) zW) (lz lim y):=by
    rw[aO hy,List.map_append,List.foldl_append]; rfl
   rw[e,IX,<- fF (Q:=l4) λ p=>hr4.Bh hn4 p]; exact hr5
  ·obtain rfl:x.args.length=k:=by omega
   rw[List.take_length] at hr;exact cF (dF hlt) ⟨r3,l,rfl,by rw[eF]; exact hr,fin s6⟩
 rw[if_neg h2] at eF;refine cF (by simpa using h2) ?_
 by_cases h3:x.op=3
 ·rw[if_pos h3] at eF;let M3:Nat->List KV->List aJ:=λ r l=>[mapA r l,ah r2 lim.vs.toArray 41,ah r1 x.cells.toArray 109,B];refine cT (by simpa using h3) ⟨_,_,_,s3.ag 2 rfl 8,λ m i w6 k'=>∃ (k:Nat) (r:Nat) (l:List KV),m=some r/\i=k/\k<=x.args.length/\k' = x.args.length-k/\cV lim l (((x.args.take k).map (lz lim)).foldl (R4 lim) zW)/\St w0 w6 (Sep (M3 r l)),⟨x.args.length,0,r3,[],rfl,rfl,by omega,by omega,cV.nil lim,s3⟩,?_⟩;rintro w6 k' m i ⟨k,r,l,rfl,rfl,hk1,hm,hr,s6⟩ -
  by_cases hlt:(k:Int)<(x.args.length:Int)
  ·have hy:x.args[k]?=some (x.args[k]'(by omega)):=gE (by omega);generalize x.args[k]'(by omega)=y at hy;have s7:=s6.quiet (aD.drew w6 []);have hn:=pP s7;refine cT (dT hlt) ⟨lim,s7.cellsIn 1 rfl,aq (yQ (HY y (List.mem_of_getElem? hy)) hx s7 (j1:=2) (j2:=1) rfl rfl hy) ?_⟩;rintro v w7 ⟨r4,l4,rfl,hr4,s8⟩;have s8:St w0 w7 (Sep [mapA r4 l4,mapA r l,ah r2 lim.vs.toArray 41,ah r1 x.cells.toArray 109,B]):=s8;have hn4:=pP s8;refine⟨_,rfl,s8.cellsIn 2 rfl,aq (Ww (s8.aA [1,0,2,3,4]) hr hr4 hl) ?_⟩;rintro v w9 ⟨r5,l5,rfl,hr5,s9⟩;have s9:St w0 w9 (Sep [mapA r5 l5,mapA r l,mapA r4 l4,ah r2 lim.vs.toArray 41,ah r1 x.cells.toArray 109,B]):=s9;refine⟨_,rfl,x.args.length-(k+1),by omega,k+1,r5,l5,rfl,aH ⟨by omega,by omega⟩,by omega,rfl,?_,s9.aA [0,3,4,5]⟩;have e:((x.args.take (k+1)).map (lz lim)).foldl (R4 lim) zW=R4 lim (((x.args.take k).map (lz lim)).foldl (R4 lim) zW) (lz lim y):=by
    rw[aO hy,List.map_append,List.foldl_append]; rfl
   rw[e,R4,<- fF (Q:=l++(l4++Ee l l4)) λ p=>?_]; exact hr5;have e1:∀ p,p∈l<->p∈Bh (((x.args.take k).map (lz lim)).foldl (R4 lim) zW):=λ p=>hr.Bh hn p;have e2:∀ p,p∈l4<->p∈Bh (lz lim y):=λ p=>hr4.Bh hn4 p;have e3:p∈Ee l l4<->p∈Ee (Bh (((x.args.take k).map (lz lim)).foldl (R4 lim) zW)) (Bh (lz lim y)):=by
    rw[yL,yL];exact⟨λ ⟨a,ha,b,hb,h⟩=>⟨a,(e1 a).1 ha,b,(e2 b).1 hb,h⟩,λ ⟨a,ha,b,hb,h⟩=>⟨a,(e1 a).2 ha,b,(e2 b).2 hb,h⟩⟩
   rw[List.mem_append,List.mem_append,List.mem_append,List.mem_append,e1,e2,e3]
  ·obtain rfl:x.args.length=k:=by omega
   rw[List.take_length] at hr;exact cF (dF hlt) ⟨r,l,rfl,by rw[eF]; exact hr,(s6.aA [0,3]).pair⟩
 rw[if_neg h3] at eF;refine cF (by simpa using h3) ?_;have one:x.op=4\/x.op=5->∃ y,x.args[0]?=some y/\(x.args.map (lz lim)).headD zW=lz lim y:=λ h=>by
  have h1' : x.args.length=1:=by
   unfold gV at hf;rw[if_neg h1,if_neg (by rintro(h|h); exact h2 h; exact h3 h)] at hf;rcases h with h|h
   ·rw[if_pos h] at hf; simpa using hf
   ·rw[if_neg (by omega),if_pos h,Bool.and_eq_true] at hf; simpa using hf.1
  cases ha:x.args with
  | nil=>rw[ha] at h1'; cases h1'
  | cons y l=>exact⟨y,rfl,rfl⟩
 have hv':=hv h2 h3
 by_cases h4:x.op=4
 ·rw[if_pos h4] at eF;obtain⟨y,hy,ey⟩:=one (.inl h4);rw[ey] at eF;refine cT (by simpa using h4) (aq (yQ (i:=0) (HY y (List.mem_of_getElem? hy)) hx s3 (j1:=2) (j2:=1) rfl rfl hy) ?_);rintro v w12 ⟨r4,l4,rfl,hr4,s4⟩;have s4:St w0 w12 (Sep [mapA r4 l4,mapA r3 [],ah r2 lim.vs.toArray 41,ah r1 x.cells.toArray 109,B]):=s4;have hn4:=pP s4;refine⟨_,rfl,lim,s4.cellsIn 2 rfl,aq (vu (s4.aA [1,0,2,3,4]) (cV.nil lim) hr4 hl) ?_⟩;rintro v w13 ⟨rfl,l5,hr5,s5⟩;have s5:St w0 w13 (Sep [mapA r3 l5,mapA r4 l4,ah r2 lim.vs.toArray 41,ah r1 x.cells.toArray 109,B]):=s5;have hxu:=hu (by omega) (by omega) (by omega);refine⟨rfl,lim,s5.cellsIn 2 rfl,x.u,s5.aQ 3 1 rfl rfl,_,s5.ag 3 rfl 7,aq (mK s5 hr5 hl (tL hxu (by omega)) x.v) ?_⟩;rintro v w14 ⟨rfl,l6,hr6,s6⟩;rw[iN] at hr6;have s6:St w0 w14 (Sep [mapA r3 l6,mapA r4 l4,ah r2 lim.vs.toArray 41,ah r1 x.cells.toArray 109,B]):=s6;refine⟨rfl,mu TC (s6.out 1 rfl) λ it w15 s7=>?_⟩;have s7:St w0 w15 (Sep [Aa r4 it l4 [],mapA r3 l6,ah r2 lim.vs.toArray 41,ah r1 x.cells.toArray 109,B]):=s7;refine⟨λ w16 m=>∃ (S l' : List KV),m=l4.length-S.length/\(∀ p∈S,p∈l4)/\cV lim l' (bG lim zW ((l4++[(x.u,x.v)])++S.map (xm (x.u,x.v))))/\St w0 w16 (Sep [Aa r4 it l4 S,mapA r3 l',ah r2 lim.vs.toArray 41,ah r1 x.cells.toArray 109,B]),⟨_,[],l6,rfl,by simp,by rw[List.map_nil,List.append_nil]; exact hr6,s7⟩,?_⟩;rintro w16 m ⟨S,l',rfl,hS,hr,s8⟩ -;refine pR s8 (λ hend=>⟨r3,l',rfl,?_,?_⟩) (λ p hp hlen2 w18 s9=>?_)
  ·rw[eF,Uv,<- fF (Q:=(l4++[(x.u,x.v)])++S.map (xm (x.u,x.v))) λ q=>?_]; exact hr;have e2:∀ q,q∈l4<->q∈Bh (lz lim y):=λ q=>hr4.Bh hn4 q;have e3:q∈S.map (xm (x.u,x.v))<->q∈(Bh (lz lim y)).map (xm (x.u,x.v)):=by
    rw[List.mem_map,List.mem_map];exact⟨λ ⟨a,ha,h⟩=>⟨a,(e2 a).1 (hS a ha),h⟩,λ ⟨a,ha,h⟩=>⟨a,hend a ((e2 a).2 ha),h⟩⟩
   rw[List.mem_append,List.mem_append,List.mem_append,List.mem_append,e2,e3,or_assoc]
  ·have t:St w0 w16 (Sep [mapA r4 l4,mapA r3 l',ah r2 lim.vs.toArray 41,ah r1 x.cells.toArray 109,B]):=St.Ab s8;exact(t.aA [1,4]).pair
  ·have s9:St w0 w18 (Sep [Aa r4 it l4 (S++[p]),mapA r3 l',ah r2 lim.vs.toArray 41,ah r1 x.cells.toArray 109,B]):=s9;have hkp:=hr4.key hn4 hp;refine s9.aB z6.vs.toArray λ b4 w19 s10=>s10.aE 0 rfl p.1.vs rfl (I6.one _) λ w20 s11=>?_;have s12:=s11.quiet (aD.drew w20 []);refine⟨lim,s12.cellsIn 3 rfl,p.1,s12.cellsIn 0 rfl,x.u,s12.aQ 4 1 rfl rfl,_,s12.ag 4 rfl 7,aq (Vn _ p.1 x.u) ?_⟩;rintro v w21 ⟨rfl,c21⟩;have s13:=s12.quiet c21;refine⟨_,rfl,s13.ag 4 rfl 7,s13.cellsIn 3 rfl,?_⟩;have hw:IntKind.i64.wrap (p.2+x.v)=p.2+x.v:=aH ⟨by omega,by omega⟩;show Calls _ _ #[_,_,_,iv (IntKind.i64.wrap (p.2+x.v))] _ _;rw[hw];have hj:I6.Le (xm (x.u,x.v) p).1 1000000:=λ k hk=>by
    have q1:=hkp.1 k hk; have q2:=hxu k hk;show 0<=(p.1.zip _ x.u).at' k/\(p.1.zip _ x.u).at' k<=1000000;rw[I6.j7 _ _ _ _ hk]
    split<;>omega
   refine aq (mK (s13.out 2 rfl) hr hl (b:=(xm (x.u,x.v) p).1) hj (xm (x.u,x.v) p).2) ?_;rintro v w22 ⟨rfl,l'',hr2,s14⟩;have s15:=(s14.back (show 2<6 by decide)).aA [1,2,3,4,5];refine⟨rfl,_,?_,S++[p],l'',rfl,?_,?_,s15⟩
   ·rw[List.length_append,List.length_singleton]; omega
   ·intro q hq;rcases List.mem_append.1 hq with hq|hq
    ·exact hS q hq
    ·rw[List.mem_singleton.1 hq]; exact hp
   ·rw[List.map_append,List.map_singleton,<- List.append_assoc,<- iN]; exact hr2
 rw[if_neg h4] at eF;refine cF (by simpa using h4) ?_
 by_cases h5:x.op=5
 ·rw[if_pos h5] at eF;obtain⟨y,hy,ey⟩:=one (.inr h5);rw[ey] at eF;refine cT (by simpa using h5) (aq (yQ (i:=0) (HY y (List.mem_of_getElem? hy)) hx s3 (j1:=2) (j2:=1) rfl rfl hy) ?_);rintro v w12 ⟨r4,l4,rfl,hr4,s4⟩;have s4:St w0 w12 (Sep [mapA r4 l4,mapA r3 [],ah r2 lim.vs.toArray 41,ah r1 x.cells.toArray 109,B]):=s4;have hn4:=pP s4;refine⟨_,rfl,mu TC s4 λ it w15 s7=>?_⟩;have s7:St w0 w15 (Sep [Aa r4 it l4 [],mapA r3 [],ah r2 lim.vs.toArray 41,ah r1 x.cells.toArray 109,B]):=s7;refine⟨λ w16 m=>∃ (S l' : List KV),m=l4.length-S.length/\(∀ p∈S,p∈l4)/\cV lim l' (bG lim zW (S.map (N2 x.v)))/\St w0 w16 (Sep [Aa r4 it l4 S,mapA r3 l',ah r2 lim.vs.toArray 41,ah r1 x.cells.toArray 109,B]),⟨_,[],[],rfl,by simp,cV.nil lim,s7⟩,?_⟩;rintro w16 m ⟨S,l',rfl,hS,hr,s8⟩ -;refine pR s8 (λ hend=>⟨r3,l',rfl,?_,?_⟩) (λ p hp hlen2 w18 s9=>?_)
  ·rw[eF,Vq,<- fF (Q:=S.map (N2 x.v)) λ q=>?_]; exact hr;have e2:∀ q,q∈l4<->q∈Bh (lz lim y):=λ q=>hr4.Bh hn4 q;rw[List.mem_map,List.mem_map];exact⟨λ ⟨a,ha,h⟩=>⟨a,(e2 a).1 (hS a ha),h⟩,λ ⟨a,ha,h⟩=>⟨a,hend a ((e2 a).2 ha),h⟩⟩
  ·have t:St w0 w16 (Sep [mapA r4 l4,mapA r3 l',ah r2 lim.vs.toArray 41,ah r1 x.cells.toArray 109,B]):=St.Ab s8;exact(t.aA [1,4]).pair
  ·have s9:St w0 w18 (Sep [Aa r4 it l4 (S++[p]),mapA r3 l',ah r2 lim.vs.toArray 41,ah r1 x.cells.toArray 109,B]):=s9;have hkp:=hr4.key hn4 hp;refine s9.aB z6.vs.toArray λ b4 w19 s10=>s10.aE 0 rfl p.1.vs rfl (I6.one _) λ w20 s11=>?_;refine⟨lim,s11.cellsIn 3 rfl,p.1,s11.cellsIn 0 rfl,_,s11.ag 4 rfl 7,aq (mK (s11.out 2 rfl) hr hl (b:=(N2 x.v p).1) (tL hkp.1 (by omega)) (N2 x.v p).2) ?_⟩;rintro v w22 ⟨rfl,l'',hr2,s14⟩;have s15:=(s14.back (show 2<6 by decide)).aA [1,2,3,4,5];refine⟨rfl,_,?_,S++[p],l'',rfl,?_,?_,s15⟩
   ·rw[List.length_append,List.length_singleton]; omega
   ·intro q hq;rcases List.mem_append.1 hq with hq|hq
    ·exact hS q hq
    ·rw[List.mem_singleton.1 hq]; exact hp
   ·rw[List.map_append,List.map_singleton,<- iN]; exact hr2
 ·rw[if_neg h5] at eF;exact cF (by simpa using h5) ⟨r3,[],rfl,by rw[eF]; exact cV.nil lim,fin s3⟩
end
abbrev uX (a:OA) (c:Nat) (l:List Int):aJ:=cJ 2 1 i1 a c l
def X7(T:List Int)(i k:Nat):List Int:=T.set i (if T.getD k 0>T.getD i 0 then T.getD k 0 else T.getD i 0)
theorem SY(T:List Int)(i k:Nat):(X7 T i k).length=T.length:=by simp[X7]
section
variable {w0 w:World} {B:aJ} {g r3 r5:Nat} {n:Nat} {T:List Int} {i k:Nat}
def T7(g r3 r5 n i:Nat)(T:List Int)(B:aJ):List aJ:=[uX (some ⟨g,0,none⟩) n T,ah r3 #[.slice (some ⟨g,0,none⟩) n n] 319,ah r5 #[iv i] 3,B]
theorem Kl(s:St w0 w (Sep (T7 g r3 r5 n i T B)))(hk:k<T.length):w.cell? (Addr.add ⟨g,0,none⟩ (((k:Nat):Int).toNat*1))=some (iv (T.getD k 0)):=by
 obtain⟨q,hq,hc⟩:=fu (St.rd cA (s.out 0 rfl)) (i:=k) (x:=T.getD k 0) (by rw[List.getD_eq_getElem?_getD,gE hk]; rfl)
 cases hq; exact hc
theorem Ws(s:St w0 w (Sep (T7 g r3 r5 n i T B)))(hn:T.length=n)(hi:i<n)(hk:k<n) :
  CP 252 #[iv k,pt r3,pt r5] w (λ r w'=>r=.tuple #[]/\St w0 w' (Sep (T7 g r3 r5 n i (X7 T i k) B))):=by
 refine qD ?_;unfold kV;have s1:=s.quiet (aD.drew w []);have c0:w.drew.cell? ⟨r3,0,none⟩=some (.slice (some ⟨g,0,none⟩) n n):=s1.ag 1 rfl 0;have c1:w.drew.cell? ⟨r5,0,none⟩=some (iv i):=s1.ag 2 rfl 0;refine⟨_,_,_,c0,_,c1,_,_,_,c0,_,c1,ay rfl ⟨by omega,by omega,_,Kl s1 (by omega),_,_,_,c0,ay rfl ⟨by omega,by omega,_,Kl s1 (by omega),ay rfl ⟨by omega,by omega,?_⟩⟩⟩⟩;rw[Int.toNat_natCast];exact St.jY (v:=iv) rfl (s1.out 0 rfl) (i:=i) (by omega) λ w2 s2=>⟨rfl,s2.back (show 0<4 by decide)⟩
def bL(m:I6):Nat->Int
 | 0=>1
 | j+1=>bL m j*(m.at' (5-j)+1)
theorem A2{m:I6}(h:I6.Le m 4):∀ j,j<=6->1<=bL m j/\bL m j<=5 ^ j
 | 0,_=>by show(1:Int)<=1/\(1:Int)<=5 ^ 0; decide
 | j+1,hj=>by
  have ih:=A2 h j (by omega);have hm:=h (5-j) (by omega);have h1:bL m j*1<=bL m j*(m.at' (5-j)+1):=Int.mul_le_mul_of_nonneg_left (by omega) (by omega);have h2:bL m j*(m.at' (5-j)+1)<=bL m j*5:=Int.mul_le_mul_of_nonneg_left (by omega) (by omega);show 1<=bL m j*_/\bL m j*_<=5 ^ j*5;omega
def sN(m u:I6)(i:Nat):Nat->List Int->List Int
 | 0,T=>T
 | j+1,T=>if 0<u.at' (5-j) then X7 (sN m u i j T) i (i-(bL m j).toNat) else sN m u i j T
theorem tV(m u:I6)(i:Nat)(T:List Int):∀ j,(sN m u i j T).length=T.length
 | 0=>rfl
 | j+1=>by
  rw[sN]
  split
  ·rw[SY,tV m u i T j]
  ·exact tV m u i T j
theorem P7{m u:I6}(hm:I6.Le m 4)(s:St w0 w (Sep (T7 g r3 r5 n i T B)))(hn:T.length=n)(hi:i<n)(hu:∀ j,j<6->0<u.at' (5-j)->bL m j<=i)(h9:n<=100000) :
  CP 251 #[.agg m.vs.toArray,.agg u.vs.toArray,iv i,.func (.func 252) #[] #[pt r3,pt r5]] w (λ r w'=>r=.tuple #[]/\St w0 w' (Sep (T7 g r3 r5 n i (sN m u i 6 T) B))):=by
 refine tH ?_;unfold ow;refine s.aB m.vs.toArray λ r1 w1 s1=>s1.aB u.vs.toArray λ r2 w2 s2=>?_;let M:List Int->List aJ:=λ T=>ah r2 u.vs.toArray 41 :: ah r1 m.vs.toArray 41 :: T7 g r3 r5 n i T B;refine⟨λ st k w3 x=>∃ j:Nat,st=bL m j/\k=5-(j:Int)/\j<=6/\x=6-j/\St w0 w3 (Sep (M (sN m u i j T))),⟨6,0,rfl,rfl,by omega,by omega,s2⟩,?_⟩;rintro w3 x st k ⟨j,rfl,rfl,hj,hx,s3⟩ -;have hb:=A2 hm j hj;have h5:(5:Int) ^ j<=15625:=by
  have:j=0\/j=1\/j=2\/j=3\/j=4\/j=5\/j=6:=by omega
  rcases this with rfl|rfl|rfl|rfl|rfl|rfl|rfl<;>decide
 by_cases hj6:j<6
 ·have hk6:5-j<6:=by omega
  have ek:(5:Int)-(j:Int)=((5-j:Nat):Int):=by omega
  rw[ek];refine cT (dT (by omega)) ⟨λ w4=>St w0 w4 (Sep (M (sN m u i (j+1) T))),?_,by omega,by omega,u.at' (5-j),by rw[iU]; exact aR s3 0 rfl hk6,?_⟩
  ·rintro w4 s4 -;have hmk:=hm (5-j) hk6;have hb2:=A2 hm (j+1) (by omega);have e2:bL m (j+1)=bL m j*(m.at' (5-j)+1):=rfl;have h52:(5:Int) ^ (j+1)<=15625:=by
    have:j=0\/j=1\/j=2\/j=3\/j=4\/j=5:=by omega
    rcases this with rfl|rfl|rfl|rfl|rfl|rfl<;>decide
   refine⟨by omega,by omega,m.at' (5-j),by rw[iU]; exact aR s4 1 rfl hk6,6-(j+1),by omega,j+1,?_,?_,by omega,rfl,s4⟩
   ·rw[aH (n:=m.at' (5-j)+1) ⟨by omega,by omega⟩,<- e2,aH ⟨by omega,by omega⟩]
   ·rw[aH ⟨by omega,by omega⟩]; omega
  ·by_cases hp:0<u.at' (5-j)
   ·have hs:=hu j hj6 hp;have e3:sN m u i (j+1) T=X7 (sN m u i j T) i (i-(bL m j).toNat):=by rw[sN,if_pos hp]
    have e4:IntKind.i64.wrap ((i:Int)-bL m j)=((i-(bL m j).toNat:Nat):Int):=by rw[aH ⟨by omega,by omega⟩]; omega
    refine cT (dT hp) (bO (by kernel_rfl) ?_);rw[e4];have s4:St w0 w3 (Sep (T7 g r3 r5 n i (sN m u i j T) (Sep [B,ah r2 u.vs.toArray 41,ah r1 m.vs.toArray 41]))):=((s3.aA [2,3,4,5,0,1]).split [_,_,_]).eqv (bg.right (bg.unit _)) |> St.cat;refine aq (Ws s4 (by rw[tV,hn]) hi (by omega)) ?_;rintro v w5 ⟨rfl,s5⟩;refine⟨rfl,?_⟩;rw[e3];have s6:=s5.dR [_,_,_];exact s6.aA [4,5,0,1,2,3]
   ·have e3:sN m u i (j+1) T=sN m u i j T:=by rw[sN,if_neg hp]
    exact cF (dF hp) (by rw[e3]; exact s3)
 ·obtain rfl:j=6:=by omega
  exact cF (dF (by decide)) ⟨rfl,s3.aA [2,3,4,5]⟩
end
def KW(_ u:I6)(k:Nat):I6:=u.put k (u.at' k-1)
def HI(m u:I6)(T:List Int):Nat->Int
 | 0=>-1
 | k+1=>if u.at' k=0 then HI m u T k else if T.getD (rk m (KW m u k)).toNat 0>HI m u T k then T.getD (rk m (KW m u k)).toNat 0 else HI m u T k
theorem UY{m u:I6}(h:G6 m u){k:Nat}(hk:k<6)(h0:u.at' k≠0):G6 m (KW m u k):=⟨h.mm,λ j hj=>by
 have h1:=h.u j hj; have h2:=h.u k hk;unfold KW;rw[I6.wv _ _ _ _ hk hj]
 split
 ·rename_i e; subst e; omega
 ·exact h1⟩
theorem Ng{w:World}{m u:I6}(h:G6 m u)(hp:pr m.l<=1024){a:OA}{c:Nat}{T:List Int}(hr:dx 1 i1 w a T)(hT:pr m.l=T.length) :
  CP 253 #[.agg m.vs.toArray,.agg u.vs.toArray,.slice a T.length c] w (λ r w'=>r=iv (HI m u T 6)/\aD w w' []):=by
 refine vS ?_;unfold rZ;refine(St.start w).one.aB m.vs.toArray λ r1 w1 s1=>s1.aB u.vs.toArray λ r2 w2 s2=>⟨u,s2.cellsIn 0 rfl,?_⟩;refine⟨λ n i w3 x=>∃ k:Nat,i=k/\k<=6/\x=6-k/\n=HI m u T k/\St w w3 (Sep [ah r2 u.vs.toArray 41,ah r1 m.vs.toArray 41,emp]),⟨6,0,rfl,by omega,by omega,rfl,s2⟩,?_⟩;rintro w3 x n i ⟨k,rfl,hk,hx,rfl,s3⟩ -
 by_cases hlt:(k:Int)<6
 ·have hk' : k<6:=by omega
  refine cT (dT hlt) ⟨λ n w4=>n=HI m u T (k+1)/\St w w4 (Sep [ah r2 u.vs.toArray 41,ah r1 m.vs.toArray 41,emp]),?_,by omega,by omega,u.at' k,u.get k hk',?_⟩
  ·rintro w4 n ⟨rfl,s4⟩ -;exact⟨6-(k+1),by omega,k+1,inc (by decide) hk',by omega,rfl,rfl,s4⟩
  by_cases h0:u.at' k=0
  ·exact cT (by simpa using h0) ⟨by rw[HI,if_pos h0],s3⟩
  have hin:=UY h hk' h0;have hbd:=wC hin 6 (Nat.le_refl _);rw[<- Ip] at hbd;have hu:=h.u k hk';have hmm:=h.mm k hk';have e1:HI m u T (k+1)=if T.getD (rk m (KW m u k)).toNat 0>HI m u T k then T.getD (rk m (KW m u k)).toNat 0 else HI m u T k:=by rw[HI,if_neg h0]
  refine cF (by simpa using h0) ⟨u,s3.cellsIn 0 rfl,s3.aB z6.vs.toArray λ r3 w5 s5=>s5.aE 0 rfl u.vs rfl (I6.one _) λ w6 s6=>⟨by omega,by omega,?_⟩⟩;rw[iU,aH ⟨by omega,by omega⟩];refine s6.aM 0 rfl hk' rfl λ w7 s7=>?_;rw[I6.qX _ _ _ hk'] at s7;refine⟨m,s7.cellsIn 2 rfl,KW m u k,s7.cellsIn 0 rfl,aq (VS w7 m (KW m u k)) ?_⟩;rintro v w8 ⟨⟨n,e,rfl,he,hn⟩,c8⟩;obtain rfl:=he.2 ⟨hp,hin⟩;obtain rfl:=hn rfl;have s8:=(s7.quiet c8).aA [1,2,3];obtain⟨j,hj⟩:=Int.eq_ofNat_of_zero_le hbd.1;have hjT:j<T.length:=by omega
  obtain⟨q,hq,hcl⟩:=fu (hr.aC s8.aC) (i:=j) (x:=T.getD j 0) (by rw[List.getD_eq_getElem?_getD,gE hjT]; rfl);refine⟨_,_,rfl,cT rfl (ay hq ⟨by show 0<=je m (KW m u k) 6; omega,by show je m (KW m u k) 6<_; omega,T.getD j 0,?_,?_,s8⟩)⟩
  ·show w8.cell? (Addr.add q ((je m (KW m u k) 6).toNat*1))=_;rw[hj,Int.toNat_natCast]; exact hcl
  ·rw[e1];show _=if T.getD (je m (KW m u k) 6).toNat 0>_ then T.getD (je m (KW m u k) 6).toNat 0 else _
   rw[hj,Int.toNat_natCast]
 ·obtain rfl:k=6:=by omega
  exact cF (by simp) ⟨rfl,s3.aC⟩
structure Of where
 b:Int
 want:I6
 v:Int
def Of.cells(o:Of):List Value:=iv o.b :: o.want.on [iv o.v]
theorem Of.len(o:Of):o.cells.length=8:=rfl
def D5(o:Of):Bool:=o.want.l.all nw&&(decide (o.want≠z6)&&(decide (1<=o.v)&&decide (o.v<=1000000)))
theorem Lv(w:World)(o:Of):CP 203 #[.agg o.cells.toArray] w (λ r w'=>r=.bool (D5 o)/\aD w w' []):=by
 refine yu (u1:=o.want) ?_;unfold uR;refine(St.start w).one.aB o.cells.toArray λ r1 w1 s1=>⟨o.want,s1.aQ 0 1 rfl rfl,aq (dI w1 o.want) ?_⟩;rintro v w2 ⟨rfl,c2⟩;have s2:=s1.quiet c2;refine⟨_,rfl,?_⟩
 cases hq:o.want.l.all nw with
 | false=>exact cF rfl ⟨by rw[D5,hq]; rfl,s2.aC⟩
 | true =>
  have e1:D5 o=(decide (o.want≠z6)&&(decide (1<=o.v)&&decide (o.v<=1000000))):=by rw[D5,hq]; rfl
  refine cT rfl ⟨o.want,s2.aQ 0 1 rfl rfl,?_⟩;rw[I6.beq_eq]
  by_cases hz:o.want=z6
  ·exact cF (by rw[dT hz]; rfl) ⟨by rw[e1,dF (λ h=>h hz)]; rfl,s2.aC⟩
  ·rw[dT hz,Bool.true_and] at e1;refine cT (by rw[dF hz]; rfl) ⟨_,s2.ag 0 rfl 7,?_⟩
   by_cases g1:1<=o.v
   ·rw[dT g1,Bool.true_and] at e1;exact cT (dT g1) ⟨_,s2.ag 0 rfl 7,by rw[e1],s2.aC⟩
   ·exact cF (dF g1) ⟨by rw[e1,dF g1]; rfl,s2.aC⟩
end Go.Proofs.YtpihmghnbplohaaGreatDoor
namespace Go.Vc
open Go
theorem Cv{P:Program}{gf:FuncId}{lb:List Value}{rec:FuncId->Nat->Loop}{w0 w:World}{N R:World->Prop}{X:List (Nat×(World->Prop))}{L:List aJ}(s:St w0 w (Sep L))(hp:∀ fn D,(rec fn D).pending=none/\(rec fn D).state=.ready) (k:∀ fn l w1,St w0 w1 (Sep (aV l (.loop (rec fn w.heap.size)) :: aV w.heap.size (.deferred (some [])) :: L)) ->
   Calls P gf (Value.func (.yield l) #[] #[] :: lb).toArray w1 (xK λ _ w2=>∃ L',St w0 w2 (Sep (aV l (.loop (rec fn w.heap.size)) :: L'))/\∀ w3,St w0 w3 (Sep L')->N w3)):Au P gf lb rec w N R X:=by
 intro fn;have s1:=s.Og (.deferred (some []));have hD:(w.alloc (.deferred (some []))).heap.size=w.heap.size+1:=by rw[World.size_alloc]
 have s2:=s1.Og (.loop (rec fn w.heap.size));rw[hD] at s2;refine(k fn _ _ s2).mono λ e w2 ⟨v,he,L',s3,hN⟩=>⟨⟨v,he⟩,_,s3.mg 0 rfl,?_,?_⟩
 ·rw[(hp fn _).2]; intro h; cases h
 ·rw[(hp fn _).1];exact hN _ ((s3.putAt 0 rfl _).second)
end Go.Vc
namespace Go.Proofs.YtpihmghnbplohaaGreatDoor
open Go Go.Vc Tryz
theorem Pe{m u:I6}(h:G6 m u):∀ j,j<=6->je m u (6-j)*bL m j<=je m u 6
 | 0,_=>by show je m u 6*1<=_; omega
 | j+1,hj=>by
  have ih:=Pe h j (by omega);rw[show 6-j=(5-j)+1 by omega] at ih;have hs:=A2 h.mm j (by omega);have hu:=h.u (5-j) (by omega);have e2:je m u (5-j+1)=je m u (5-j)*(m.at' (5-j)+1)+u.at' (5-j):=rfl;rw[e2,Int.add_mul] at ih;have h1:0<=u.at' (5-j)*bL m j:=Int.mul_nonneg hu.1 (by omega);rw[show 6-(j+1)=5-j by omega];have e3:je m u (5-j)*bL m (j+1)=je m u (5-j)*(m.at' (5-j)+1)*bL m j:=by
   show je m u (5-j)*(bL m j*(m.at' (5-j)+1))=_;rw[Int.mul_comm (bL m j),Int.mul_assoc]
  rw[e3]; omega
theorem Wl{m u:I6}(h:G6 m u){j:Nat}(hj:j<6)(hp:0<u.at' (5-j)):bL m j<=rk m u:=by
 have h1:=Pe h j (by omega);rw[show 6-j=(5-j)+1 by omega] at h1;have e2:je m u (5-j+1)=je m u (5-j)*(m.at' (5-j)+1)+u.at' (5-j):=rfl;have h2:=(wC h (5-j) (by omega)).1;have hm:=h.mm (5-j) (by omega);have hs:=A2 h.mm j (by omega);have h3:1<=je m u (5-j+1):=by
  rw[e2];have:=Int.mul_nonneg h2 (show 0<=m.at' (5-j)+1 by omega);omega
 have h4:1*bL m j<=je m u (5-j+1)*bL m j:=Int.mul_le_mul_of_nonneg_right h3 (by omega);show bL m j<=je m u 6;omega
def GQ(m:I6)(F:Wf):Nat->List Int
 | 0=>List.replicate (bq m) 0
 | i+1=>sN m (di m i) i 6 ((GQ m F i).set i (F (di m i)))
theorem A4(m:I6)(F:Wf):∀ i,(GQ m F i).length=bq m
 | 0=>List.length_replicate
 | i+1=>by rw[GQ,tV,List.length_set,A4 m F i]
def Pp(m:I6)(F:Wf):List Int:=GQ m F (bq m)
section
variable {w0 w:World} {B:aJ} {m:I6} {g r2 r3 r4 r5 rm l D:Nat} {lp:Loop} {F:Wf} {lk:List KV}
def Pn(m:I6)(F:Wf)(g r2 r3 r4 r5 rm:Nat)(lk:List KV)(B:aJ)(i:Nat):List aJ :=
 [uX (some ⟨g,0,none⟩) (bq m) (GQ m F i),ah r3 #[.slice (some ⟨g,0,none⟩) (bq m) (bq m)] 319,ah r5 #[iv i] 3,ah r4 #[.map (some rm)] 371,mapA rm lk,ah r2 m.vs.toArray 41,B]
theorem L4(hm:I6.Le m 4)(hr:cV m lk F){i:Nat}(hi:i<bq m){Fr:aJ}{n1:Int}{u1:I6}{n2:Int}{a1:OA}{l1:Nat}{c1:Nat}{u2:I6}{r1:Nat}{n3:Int}{u3:I6}{n4:Int}{a2:OA}{l2:Nat}{c2:Nat}{n5:Int}{u4:I6}{n6:Int}{u5:I6}{n7:Int}{x1:Nat->Value}{u6:I6}{v1:Value}{fn:FuncId}(hlp:lp=eV n1 u1 n2 a1 l1 c1 u2 r1 r2 n3 u3 n4 a2 l2 c2 n5 u4 n6 u5 n7 r3 r4 x1 r5 u6 v1 fn D)(h:St w0 w (star (Sep (aV l (.loop lp) :: Pn m F g r2 r3 r4 r5 rm lk B i)) Fr)) :
  gX prog l #[.agg (di m i).vs.toArray] w λ b w2=>b=true/\St w0 w2 (star (Sep (aV l (.loop lp) :: Pn m F g r2 r3 r4 r5 rm lk B (i+1))) Fr):=by
 have hc:=mT hm;have hl:=A4 m F i;have s:St w0 w (Sep (aV l (.loop lp) :: Pn m F g r2 r3 r4 r5 rm lk B i++[Fr])):=h.open;refine kg (n1:=n1) (u1:=u1) (n2:=n2) (a1:=a1) (l1:=l1) (c1:=c1) (u2:=u2) (r1:=r1) (r2:=r2) (n3:=n3) (u3:=u3) (n4:=n4) (a2:=a2) (l2:=l2) (c2:=c2) (n5:=n5) (u4:=u4) (n6:=n6) (u5:=u5) (n7:=n7) (r3:=r3) (r4:=r4) (x1:=x1) (r5:=r5) (u6:=u6) (v1:=v1) (s.mg 0 rfl) (by rw[hlp]; rfl) (by rw[hlp]; rfl) (by rw[hlp]; rfl) (by rw[hlp]; rfl) ?_;unfold gJ;have hst:lp.state=.ready:=by rw[hlp]; rfl
 have hpd:({ ({ lp with state:=.busy }:Loop) with state:=.ready,pending:=none }:Loop)=lp:=by rw[hlp]; rfl
 clear hlp;refine s.aB z6.vs.toArray λ r6 w1 s1=>s1.aE 0 rfl (di m i).vs rfl (I6.one _) λ w2 s2=>?_;have s2:St w0 w2 (Sep (ah r6 (di m i).vs.toArray 41 :: aV l (.loop lp) :: Pn m F g r2 r3 r4 r5 rm lk B i++[Fr])):=s2;refine⟨lp,s2.mg 1 rfl,hst,?_⟩;have s3:=(s2.putAt 1 rfl (.loop { lp with state:=.busy })).quiet (aD.drew _ []);refine⟨_,_,_,s3.ag 3 rfl 0,_,s3.ag 4 rfl 0,_,s3.ag 5 rfl 0,_,s3.cellsIn 0 rfl,?_⟩;refine F0 TC (s3.out 6 rfl) (di m i) ?_;rw[hr.get];refine⟨s3.ag 4 rfl 0,s3.ag 3 rfl 0,ay rfl ⟨by omega,by omega,?_⟩⟩;rw[Int.toNat_natCast];refine St.jY (v:=iv) rfl (s3.out 2 rfl) (i:=i) (by omega) λ w4 s4=>?_;have s4:St w0 w4 (Sep (ah r6 (di m i).vs.toArray 41 :: aV l (.loop { lp with state:=.busy }) :: uX (some ⟨g,0,none⟩) (bq m) ((GQ m F i).set i (F (di m i))) :: ah r3 #[.slice (some ⟨g,0,none⟩) (bq m) (bq m)] 319 :: ah r5 #[iv i] 3 :: ah r4 #[.map (some rm)] 371 :: mapA rm lk :: ah r2 m.vs.toArray 41 :: B :: [Fr])):=s4.back (i:=2) (by show 2<10; decide);refine⟨_,s4.cellsIn 7 rfl,_,s4.cellsIn 0 rfl,_,s4.ag 4 rfl 0,?_⟩;have s5:St w0 w4 (Sep (T7 g r3 r5 (bq m) i ((GQ m F i).set i (F (di m i))) (Sep [ah r6 (di m i).vs.toArray 41,aV l (.loop { lp with state:=.busy }),ah r4 #[.map (some rm)] 371,mapA rm lk,ah r2 m.vs.toArray 41,B,Fr]))) :=
  ((s4.aA [2,3,4,0,1,5,6,7,8,9]).split [_,_,_]).eqv (bg.right (bg.unit _)) |> St.cat
 refine aq (P7 hm s5 (by rw[List.length_set,hl]) hi (λ j hj hp=>?_) (by omega)) ?_
 ·have:=Wl (kr hm i) hj hp;rw[Dn hm i hi] at this;exact this
 rintro v w5 ⟨rfl,s6⟩;have s7:St w0 w5 (Sep ([uX (some ⟨g,0,none⟩) (bq m) (GQ m F (i+1)),ah r3 #[.slice (some ⟨g,0,none⟩) (bq m) (bq m)] 319,ah r5 #[iv i] 3]++[ah r6 (di m i).vs.toArray 41,aV l (.loop { lp with state:=.busy }),ah r4 #[.map (some rm)] 371,mapA rm lk,ah r2 m.vs.toArray 41,B,Fr])):=s6.dR [_,_,_];refine⟨rfl,_,s7.ag 2 rfl 0,s7.aM 2 rfl (by show 0<1; decide) rfl λ w6 s8=>⟨_,s8.mg 4 rfl,rfl,?_⟩⟩;have s9:=s8.putAt 4 rfl (.loop lp);rw[aH (n:=(i:Int)+1) ⟨by omega,by omega⟩] at s9;rw[hpd];exact(s9.aA [4,0,1,2,5,6,7,8,9]).shut
end
set_option maxHeartbeats 4000000 in
theorem SQ{w:World}{x:Xv}{m:I6}(hm:I6.Le m 4)(hp:pr m.l<=1024)(hz:aY x<=100000)(hx:x.In w) :
  CP 200 #[.agg x.cells.toArray,.agg m.vs.toArray] w (λ r w'=>(fA x≠0/\r=.tuple #[.slice none 0 0,iv (fA x)]/\aD w w' [])\/(fA x=0/\∃ g,r=.tuple #[.slice (some ⟨g,0,none⟩) (bq m) (bq m),iv 0]/\St w w' (Sep [uX (some ⟨g,0,none⟩) (bq m) (Pp m (lz m x))]))):=by
 refine tG (u1:=x.u) ?_;unfold ot;refine(St.start w).one.aB x.cells.toArray λ r1 w1 s1=>s1.aB m.vs.toArray λ r2 w2 s2=>?_;have hxI:∀ {w'},aD w w' []->x.In w':=λ hc=>hx.aC hc;refine⟨_,x.u,_,_,_,_,s2.cellsIn 1 rfl,aq (G3 hz (hxI s2.aC)) ?_⟩;rintro v w3 ⟨rfl,c3⟩;have s3:=s2.quiet c3;refine⟨_,rfl,?_⟩
 by_cases hk:fA x=0
 ·refine cF (by simpa using hk) ⟨m,s3.cellsIn 0 rfl,aq (dI w3 m) ?_⟩;rintro v w4 ⟨rfl,c4⟩;have s4:=s3.quiet c4;rw[if_pos (leq hm)];refine⟨_,rfl,cF rfl ⟨m,s4.cellsIn 0 rfl,aq (yH w4 m) ?_⟩⟩;rintro v w5 ⟨rfl,c5⟩;have s5:=s4.quiet c5;rw[if_pos ⟨leq hm,hp⟩];have hc:=mT hm;refine⟨_,rfl,cF (by simp; omega) ?_⟩;rw[<- hc.2.1];let A:List aJ:=[ah r2 m.vs.toArray 41,ah r1 x.cells.toArray 109,emp];refine⟨λ r3 r4 w6=>∃ g rm lk,cV m lk (lz m x)/\St w w6 (Sep (uX (some ⟨g,0,none⟩) (bq m) (List.replicate (bq m) 0) :: mapA rm lk :: ah r3 #[.slice (some ⟨g,0,none⟩) (bq m) (bq m)] 319 :: ah r4 #[.map (some rm)] 371 :: A)),?_,?_⟩
  ·rintro w6 r3 r4 ⟨g,rm,lk,hr,s6⟩ x1;refine s6.aB #[iv 0] λ r5 w7 s7=>s7.aM 0 rfl (by decide) rfl λ w8 s8=>⟨m,s8.cellsIn 5 rfl,aq (Ta s8 m hm hp) ?_⟩;rintro v w9 ⟨b,rfl,s9⟩;refine⟨_,rfl,Cw (by kernel_rfl) ?_⟩;have s9:St w w9 (Sep (ah b m.vs.toArray 41 :: ah r5 #[iv 0] 3 :: uX (some ⟨g,0,none⟩) (bq m) (List.replicate (bq m) 0) :: mapA rm lk :: ah r3 #[.slice (some ⟨g,0,none⟩) (bq m) (bq m)] 319 :: ah r4 #[.map (some rm)] 371 :: A)):=s9;refine Cv s9 (λ _ _=>⟨rfl,rfl⟩) λ fn l w10 s10=>?_;have s11:=(s10.aA [0,4,6,3,7,5,8,1,2]).split [_,_,_,_,_,_,_,_];refine aq (Jm hm (R:=λ i=>Sep (aV l (.loop _) :: Pn m (lz m x) g r2 r3 r4 r5 rm lk (aV w9.heap.size (.deferred (some []))) i)) (λ i w1 Fr hi h=>L4 (B:=aV w9.heap.size (.deferred (some []))) (D:=w9.heap.size) hm hr hi rfl h) s11) ?_;rintro v w11 ⟨rfl,s12⟩;refine⟨_,rfl,_,s12.first,λ w12 s13=>⟨_,_,_,s13.ag 1 rfl 0,s13.mg 6 rfl,.inr ⟨hk,g,rfl,?_⟩⟩⟩;exact(s13.putAt 6 rfl (.deferred none)).aA [0]
  ·have s6:=s5.quiet (aD.drew w5 []);refine⟨_,x.u,_,_,_,_,s6.cellsIn 1 rfl,m,s6.cellsIn 0 rfl,?_⟩;have h:St w w5.drew (Sep (emp :: emp :: emp :: emp :: A)):=s6.aA [3,3,3,3,0,1,2];have Xw:∀ {c2 c3 c4:aJ} {w' : World} {R:Option Addr->Nat->Nat->World->Prop},St w w' (Sep (emp :: c2 :: c3 :: c4 :: A))->(∀ g w'',St w w'' (Sep (uX (some ⟨g,0,none⟩) (bq m) (List.replicate (bq m) 0) :: c2 :: c3 :: c4 :: A))->R (some ⟨g,0,none⟩) (bq m) (bq m) w'') ->
     bn prog (Instr.makeSlice 319 (iv (bq m:Nat)) (iv (bq m:Nat))) w' λ e w1=>∃ a l c,e=.slice a l c/\R a l c w1:=by
    intro c2 c3 c4 w' R s k;refine dV SB cA (x:=0) rfl s (n:=bq m) (by omega) (by omega) λ g w'' _ s'=>?_;have s2:St w w'' (Sep (uX (some ⟨g,0,none⟩) (bq m) (List.replicate (bq m) 0) :: emp :: c2 :: c3 :: c4 :: A)):=s';exact k g w'' (s2.aA [0,2,3,4,5,6,7])
   have opO:∀ {c1 c3 c4:aJ} {w' : World} {R:Option Nat->World->Prop},St w w' (Sep (c1 :: emp :: c3 :: c4 :: A))->(∀ rm lk w'',cV m lk (lz m x)->St w w'' (Sep (c1 :: mapA rm lk :: c3 :: c4 :: A))->R (some rm) w'') ->
     CC 249 #[.agg (iv x.op :: x.u.on [iv x.v,.slice x.a x.args.length x.c]:List Value).toArray,.agg m.vs.toArray] w' λ e w1=>∃ m1:Option Nat,e=.returned (.map m1)/\R m1 w1:=by
    intro c1 c3 c4 w' R s k;refine aq (Zn hm x (Nv hk) hz w _ _ hxI s) ?_;rintro v w'' ⟨rm,lk,rfl,hr,s'⟩;have s2:St w w'' (Sep (mapA rm lk :: c1 :: emp :: c3 :: c4 :: A)):=s';exact⟨_,rfl,k rm lk w'' hr (s2.aA [1,0,3,4,5,6,7])⟩
   have opS:∀ {c1 c2 c4:aJ} {w' : World} {R:Nat->World->Prop},St w w' (Sep (c1 :: c2 :: emp :: c4 :: A))->(∀ r w'',St w w'' (Sep (c1 :: c2 :: ah r #[.slice none 0 0] 319 :: c4 :: A))->R r w'')->au w' (.cells #[.slice none 0 0] 319) R:=by
    intro c1 c2 c4 w' R s k;exact s.aB _ λ r w'' s'=>k r w'' (s'.aA [1,2,0,4,5,6,7])
   have opM:∀ {c1 c2 c3:aJ} {w' : World} {R:Nat->World->Prop},St w w' (Sep (c1 :: c2 :: c3 :: emp :: A))->(∀ r w'',St w w'' (Sep (c1 :: c2 :: c3 :: ah r #[.map none] 371 :: A))->R r w'')->au w' (.cells #[.map none] 371) R:=by
    intro c1 c2 c3 w' R s k;exact s.aB _ λ r w'' s'=>k r w'' (s'.aA [1,2,3,0,5,6,7])
   have stS:∀ {c1 c2 c4:aJ} {r:Nat} {v:Value} {w' : World} {R:World->Prop},v.oneCell' = true->St w w' (Sep (c1 :: c2 :: ah r #[.slice none 0 0] 319 :: c4 :: A))->(∀ w'',St w w'' (Sep (c1 :: c2 :: ah r #[v] 319 :: c4 :: A))->R w'')->aS w' ⟨r,0,none⟩ v R:=by
    intro c1 c2 c4 r v w' R h1 s k;exact s.aM 2 rfl (by show 0<1; decide) h1 k
   have stM:∀ {c1 c2 c3:aJ} {r:Nat} {v:Value} {w' : World} {R:World->Prop},v.oneCell' = true->St w w' (Sep (c1 :: c2 :: c3 :: ah r #[.map none] 371 :: A))->(∀ w'',St w w'' (Sep (c1 :: c2 :: c3 :: ah r #[v] 371 :: A))->R w'')->aS w' ⟨r,0,none⟩ v R:=by
    intro c1 c2 c3 r v w' R h1 s k;exact s.aM 3 rfl (by show 0<1; decide) h1 k
   have opC:∀ {c1 c2 c3 c4:aJ} {w' : World} {Q:Prop},St w w' (Sep (c1 :: c2 :: c3 :: c4 :: A))->Q->af w' ⟨r2,0,none⟩ 0 m.vs/\af w' ⟨r1,0,none⟩ 0 (iv x.op :: x.u.on [iv x.v,.slice x.a x.args.length x.c])/\Q:=λ s k=>⟨s.cellsIn 4 rfl,s.cellsIn 5 rfl,k⟩;clear s1 s2 s3 s4 s5 s6 c3 c4 c5
   repeat' (with_reducible first
    | refine Xw h λ g w1 h=>?_
    | refine opO h λ rm lk w1 hr h=>?_
    | refine opS h λ r w1 h=>?_
    | refine opM h λ r w1 h=>?_
    | refine stS rfl h λ w1 h=>?_
    | refine stM rfl h λ w1 h=>?_
    | refine opC h ?_
    | exact⟨_,_,_,hr,h⟩
    | refine⟨?_,?_⟩)
 ·exact cT (by simpa using hk) (.inl ⟨hk,rfl,s3.aC⟩)
def yf(q:I6)(v:Int)(c:Ch):Int:=if c.want=q then (if cost c.p q>v then cost c.p q else v) else v
def DN(q:I6)(v:Int)(x:Of):Int:=if x.want=q then (if x.v>v then x.v else v) else v
def Nj(l:List Ch)(bids:List Of)(q:I6):Int:=bids.foldl (DN q) (l.foldl (yf q) 0)
abbrev ZH (w:World) (a:OA) (l:List Of):Prop:=dx 8 Of.cells w a l
theorem Of.one(o:Of):∀ v∈o.cells,v.oneCell' = true:=by
 intro v hv; simp[Of.cells,I6.on] at hv; rcases hv with rfl|rfl|rfl|rfl|rfl|rfl|rfl|rfl<;>rfl
def Yc:Of:=⟨0,z6,0⟩
theorem QK{w:World}{a1 a2:OA}{c1 c2 b1 b2:Nat}{l:List Ch}{bids:List Of}(hr:G7 w a1 l)(hl:l.length<=1000)(ho:∀ c∈l,c.Ok)(hb:ZH w a2 bids)(hbl:bids.length<=100000)(e1:w.cell? ⟨b1,0,none⟩=some (.slice a1 l.length c1))(e2:w.cell? ⟨b2,0,none⟩=some (.slice a2 bids.length c2))(q:I6) :
  CP 255 #[.agg q.vs.toArray,pt b1,pt b2] w (λ r w'=>r=iv (Nj l bids q)/\aD w w' []):=by
 refine tj ?_;unfold od;refine(St.start w).one.aB q.vs.toArray λ r1 w1 s1=>⟨_,_,_,dJ e1 s1.aC,?_⟩;let M:List aJ:=[ah r1 q.vs.toArray 41,emp];refine⟨λ n i w2 m=>∃ k:Nat,i=k/\k<=l.length/\m=l.length-k/\n=(l.take k).foldl (yf q) 0/\St w w2 (Sep M),⟨l.length,0,rfl,by omega,by omega,rfl,s1⟩,?_⟩;rintro w2 m n i ⟨k,rfl,hk,hm,rfl,s2⟩ -
 by_cases hlt:(k:Int)<(l.length:Int)
 ·have hx:l[k]?=some (l[k]'(by omega)):=gE (by omega);generalize l[k]'(by omega)=y at hx;obtain⟨p,hp,hcl⟩:=(hr.aC s2.aC).at hx;have ef:=vT (f:=yf q) (a:=0) hx;refine cT (dT hlt) ⟨λ n w3=>n=(l.take (k+1)).foldl (yf q) 0/\St w w3 (Sep M),?_,ay hp ⟨by omega,by omega,y.p,y.want,hcl,s2.aB CY.cells.toArray λ r2 w4 s4=>s4.aE 0 rfl y.cells rfl y.one λ w5 s5=>⟨y.want,cU s5 0 rfl,q,s5.cellsIn 1 rfl,?_⟩⟩⟩
  ·rintro w3 n ⟨rfl,s3⟩ -;exact⟨l.length-(k+1),by omega,k+1,aH ⟨by omega,by omega⟩,by omega,rfl,rfl,s3⟩
  rw[I6.beq_eq]
  by_cases hw:y.want=q
  ·have oy:=ho y (List.mem_of_getElem? hx);refine cT (dT hw) ⟨y.p,xT s5 0 rfl,q,s5.cellsIn 1 rfl,aq (jI w5 oy.p (by rw[<- hw]; exact oy.w)) ?_⟩;rintro v w6 ⟨rfl,c6⟩;exact⟨_,rfl,by rw[ef,yf,if_pos hw],(s5.quiet c6).aA [1,2]⟩
  ·exact cF (dF hw) ⟨by rw[ef,yf,if_neg hw],s5.aA [1,2]⟩
 ·obtain rfl:l.length=k:=by omega
  rw[List.take_length];refine cF (dF hlt) ⟨_,_,_,dJ e2 s2.aC,?_⟩;refine⟨λ n i w2 m=>∃ k:Nat,i=k/\k<=bids.length/\m=bids.length-k/\n=(bids.take k).foldl (DN q) (l.foldl (yf q) 0)/\St w w2 (Sep M),⟨bids.length,0,rfl,by omega,by omega,rfl,s2⟩,?_⟩;clear hm hk hlt s2;rintro w7 m n i ⟨k,rfl,hk,hm,rfl,s2⟩ -
  by_cases hlt:(k:Int)<(bids.length:Int)
  ·have hx:bids[k]?=some (bids[k]'(by omega)):=gE (by omega);generalize bids[k]'(by omega)=y at hx;obtain⟨p,hp,hcl⟩:=(hb.aC s2.aC).at hx;have ef:=vT (f:=DN q) (a:=l.foldl (yf q) 0) hx;refine cT (dT hlt) ⟨λ n w3=>n=(bids.take (k+1)).foldl (DN q) (l.foldl (yf q) 0)/\St w w3 (Sep M),?_,ay hp ⟨by omega,by omega,_,y.want,_,hcl,s2.aB Yc.cells.toArray λ r2 w4 s4=>s4.aE 0 rfl y.cells rfl y.one λ w5 s5=>⟨y.want,s5.aQ 0 1 rfl rfl,q,s5.cellsIn 1 rfl,?_⟩⟩⟩
   ·rintro w3 n ⟨rfl,s3⟩ -;exact⟨bids.length-(k+1),by omega,k+1,aH ⟨by omega,by omega⟩,by omega,rfl,rfl,s3⟩
   rw[I6.beq_eq]
   by_cases hw:y.want=q
   ·exact cT (dT hw) ⟨_,s5.ag 0 rfl 7,by rw[ef,DN,if_pos hw],s5.aA [1,2]⟩
   ·exact cF (dF hw) ⟨by rw[ef,DN,if_neg hw],s5.aA [1,2]⟩
  ·obtain rfl:bids.length=k:=by omega
   rw[List.take_length];exact cF (dF hlt) ⟨rfl,s2.aC⟩
theorem Zv:fZ prog 249 253 (.agg Yc.cells.toArray) 8 64:=fZ.mk' underlying249 (by kernel_rfl) rfl (by decide)
abbrev GB (a:OA) (c:Nat) (l:List Of):aJ:=cJ 253 8 Of.cells a c l
theorem zj{α:Type}{sz:Nat}{f:α->List Value}{w:World}{r:Nat}{x:α}(h:af w ⟨r,0,none⟩ 0 (f x))(hf:(f x).length=sz):dx sz f w (some ⟨r,0,none⟩) [x]:=λ i y hy=>by
 match i,hy with
 | 0,rfl=>exact⟨_,_,rfl,by rw[aZ]; simpa using h,hf,rfl⟩
mutual
def oK(m:I6)(T:List Int):Nat->List Of
 | 0=>[]
 | i+1=>if 0<i/\T.getD i 0>HI m (di m i) (ke m T i) 6 then oK m T i++[⟨0,di m i,T.getD i 0⟩] else oK m T i
def ke(m:I6)(T:List Int):Nat->List Int
 | 0=>T
 | i+1=>(ke m T i).set i (if HI m (di m i) (ke m T i) 6>(ke m T i).getD i 0 then HI m (di m i) (ke m T i) 6 else (ke m T i).getD i 0)
end
theorem F8(m:I6)(T:List Int):∀ i,(ke m T i).length=T.length
 | 0=>rfl
 | i+1=>by rw[ke,List.length_set,F8 m T i]
theorem F7(m:I6)(T:List Int):∀ i,(oK m T i).length<=i
 | 0=>Nat.le_refl 0
 | i+1=>by
  have:=F7 m T i;rw[oK]
  split
  ·rw[List.length_append,List.length_singleton]; omega
  ·omega
def Al(m:I6)(T:List Int):List Of:=oK m T (bq m)
section
variable {w0 w:World} {B:aJ} {m:I6} {g r1 r2 r3 r4 r5 l D:Nat} {lp:Loop} {T:List Int} {a1:OA} {c1:Nat}
def RL(m:I6)(T:List Int)(a1:OA)(c1 g r1 r2 r3 r4 r5:Nat)(B:aJ)(a:OA)(c i:Nat)(out:List Of):List aJ :=
 [uX (some ⟨g,0,none⟩) (bq m) (ke m T i),ah r3 #[.slice (some ⟨g,0,none⟩) (bq m) (bq m)] 319,GB a c out,ah r4 #[.slice a out.length c] 249,ah r5 #[iv i] 3,ah r1 #[.slice a1 (bq m) c1] 319,ah r2 m.vs.toArray 41,B]
def Vw(m:I6)(T:List Int)(a1:OA)(c1 g r1 r2 r3 r4 r5 l:Nat)(lp:Loop)(B:aJ)(i:Nat):aJ :=
 Tp λ (p:Option Addr×Nat)=>Sep (aV l (.loop lp) :: RL m T a1 c1 g r1 r2 r3 r4 r5 B p.1 p.2 i (oK m T i))
theorem Ll(hm:I6.Le m 4)(hp:pr m.l<=1024)(hT:∀ {w'},aD w0 w' []->dx 1 i1 w' a1 T)(hl:T.length=bq m){i:Nat}(hi:i<bq m){Fr:aJ}{a0:OA}{l0 c0:Nat}{u0:I6}{a2:OA}{l2:Nat}{c2:Nat}{a3:OA}{l3:Nat}{c3:Nat}{a4:OA}{l4:Nat}{c4:Nat}{a5:OA}{l5:Nat}{c5:Nat}{e1:Value}{u2:I6}{v1:Value}{fn:FuncId}(hlp:lp=e9 a0 l0 c0 u0 r1 r2 a2 l2 c2 a3 l3 c3 r3 a4 l4 c4 a5 l5 c5 e1 r4 r5 u2 v1 fn D)(h:St w0 w (star (Vw m T a1 c1 g r1 r2 r3 r4 r5 l lp B i) Fr)) :
  gX prog l #[.agg (di m i).vs.toArray] w λ b w2=>b=true/\St w0 w2 (star (Vw m T a1 c1 g r1 r2 r3 r4 r5 l lp B (i+1)) Fr):=by
 have hc:=mT hm;have hml:=(F8 m T i).trans hl;obtain⟨⟨a,c⟩,h⟩:=h.ex;have s:St w0 w (Sep (aV l (.loop lp) :: RL m T a1 c1 g r1 r2 r3 r4 r5 B a c i (oK m T i)++[Fr])):=h.open;refine lg (a1:=a0) (l1:=l0) (c1:=c0) (u1:=u0) (r1:=r1) (r2:=r2) (a2:=a2) (l2:=l2) (c2:=c2) (a3:=a3) (l3:=l3) (c3:=c3) (r3:=r3) (a4:=a4) (l4:=l4) (c4:=c4) (a5:=a5) (l5:=l5) (c5:=c5) (_e1:=e1) (r4:=r4) (r5:=r5) (u2:=u2) (v1:=v1) (s.mg 0 rfl) (by rw[hlp]; rfl) (by rw[hlp]; rfl) (by rw[hlp]; rfl) (by rw[hlp]; rfl) ?_;unfold gU;have hst:lp.state=.ready:=by rw[hlp]; rfl
 have hpd:({ ({ lp with state:=.busy }:Loop) with state:=.ready,pending:=none }:Loop)=lp:=by rw[hlp]; rfl
 clear hlp;let L:Option Addr->Nat->List Of->List Int->Nat->Loop->Nat->List aJ:=λ a c out mo i lp r6 =>
  [ah r6 (di m i).vs.toArray 41,aV l (.loop lp),uX (some ⟨g,0,none⟩) (bq m) mo,ah r3 #[.slice (some ⟨g,0,none⟩) (bq m) (bq m)] 319,GB a c out,ah r4 #[.slice a out.length c] 249,ah r5 #[iv i] 3,ah r1 #[.slice a1 (bq m) c1] 319,ah r2 m.vs.toArray 41,B,Fr]
 refine s.aB z6.vs.toArray λ r6 w1 s1=>s1.aE 0 rfl (di m i).vs rfl (I6.one _) λ w2 s2=>?_;have s2:St w0 w2 (Sep (L a c (oK m T i) (ke m T i) i lp r6)):=s2;refine⟨lp,s2.mg 1 rfl,hst,?_⟩;have s3:St w0 _ (Sep (L a c (oK m T i) (ke m T i) i { lp with state:=.busy } r6)):=s2.putAt 1 rfl (.loop { lp with state:=.busy });have hb:=Ng (kr hm i) hp (c:=bq m) (St.rd cA (s3.out 2 rfl)) (by rw[hml]; exact hc.2.1.symm);rw[hml] at hb;refine⟨m,s3.cellsIn 8 rfl,di m i,s3.cellsIn 0 rfl,_,_,_,s3.ag 3 rfl 0,aq hb ?_⟩;clear hb;rintro v w4 ⟨rfl,c4⟩;have s4:=s3.quiet c4;generalize hun:HI m (di m i) (ke m T i) 6=un;have eO:oK m T (i+1)=if 0<i/\T.getD i 0>un then oK m T i++[⟨0,di m i,T.getD i 0⟩] else oK m T i:=by rw[oK,hun]
 have eT:ke m T (i+1)=(ke m T i).set i (if un>(ke m T i).getD i 0 then un else (ke m T i).getD i 0):=by rw[ke,hun]
 have tc:∀ {w'},aD w0 w' []->∃ q,a1=some q/\w'.cell? (Addr.add q (i*1))=some (iv (T.getD i 0)):=λ hc' =>
  fu (hT hc') (by rw[List.getD_eq_getElem?_getD,gE (by omega)]; rfl)
 refine⟨_,rfl,λ w5=>∃ a' c',St w0 w5 (Sep (L a' c' (oK m T (i+1)) (ke m T i) i { lp with state:=.busy } r6)),?_,?_⟩
 ·rintro w5 ⟨a',c',s5⟩ x1;have s6:=s5.quiet (aD.drew w5 []);have cm:w5.drew.cell? (Addr.add ⟨g,0,none⟩ (((i:Nat):Int).toNat*1))=some (iv ((ke m T i).getD i 0)):=by
   obtain⟨q,hq,hc⟩:=fu (St.rd cA (s6.out 2 rfl)) (i:=i) (x:=(ke m T i).getD i 0) (by rw[List.getD_eq_getElem?_getD,gE (by omega)]; rfl)
   cases hq; exact hc
  refine⟨_,_,_,s6.ag 3 rfl 0,_,s6.ag 6 rfl 0,_,_,_,s6.ag 3 rfl 0,_,s6.ag 6 rfl 0,ay rfl ⟨by omega,by omega,_,cm,ay rfl ⟨by omega,by omega,?_⟩⟩⟩;rw[Int.toNat_natCast];refine St.jY (v:=iv) rfl (s6.out 2 rfl) (i:=i) (by omega) λ w7 s7=>?_;rw[<- eT] at s7;have s7:St w0 w7 (Sep (L a' c' (oK m T (i+1)) (ke m T (i+1)) i { lp with state:=.busy } r6)):=s7.back (i:=2) (by show 2<11; decide);refine⟨_,s7.ag 6 rfl 0,s7.aM 6 rfl (by show 0<1; decide) rfl λ w8 s8=>⟨_,s8.mg 1 rfl,rfl,?_⟩⟩;rw[aH (n:=(i:Int)+1) ⟨by omega,by omega⟩] at s8;have s9:=s8.putAt 1 rfl (.loop lp);rw[hpd];exact St.tg (f:=λ (p:Option Addr×Nat)=>Sep (aV l (.loop lp) :: RL m T a1 c1 g r1 r2 r3 r4 r5 B p.1 p.2 (i+1) (oK m T (i+1)))) (a',c') ((s9.aA [1,2,3,4,5,6,7,8,9,10]).shut)
 ·refine⟨λ b w6=>b=decide (0<i/\T.getD i 0>un)/\St w0 w6 (Sep (L a c (oK m T i) (ke m T i) i { lp with state:=.busy } r6)),?_,?_⟩
  ·rintro w6 b ⟨rfl,s6⟩ x2;have hol:=F7 m T i
   by_cases hb:0<i/\T.getD i 0>un
   ·rw[if_pos hb] at eO;have s7:=s6.quiet (aD.drew w6 []);obtain⟨q,hq,hcq⟩:=tc s7.aC;refine cT (dT hb) ⟨_,_,_,s7.ag 5 rfl 0,di m i,s7.cellsIn 0 rfl,_,_,_,s7.ag 7 rfl 0,_,s7.ag 6 rfl 0,ay hq ⟨by omega,by omega,_,hcq,s7.aB (⟨0,di m i,T.getD i 0⟩:Of).cells.toArray λ r9 w8 s8=>⟨s8.ag 6 rfl 0,?_⟩⟩⟩;refine jl (l2:=[(⟨0,di m i,T.getD i 0⟩:Of)]) Zv Of.len Of.one (s8.out 5 rfl) (zj (s8.cellsIn 0 rfl) rfl) (by simp; omega) (by simp; omega) λ a' c' w9 s9=>?_;have s9:=s9.back (i:=5) (by show 5<12; decide);refine s9.aM 6 rfl (by show 0<1; decide) rfl λ w10 s10=>⟨a',c',?_⟩;rw[eO];exact s10.aA [1,2,3,4,5,6,7,8,9,10,11]
   ·rw[if_neg hb] at eO;exact cF (dF hb) ⟨a,c,by rw[eO]; exact s6⟩
  ·refine⟨_,s4.ag 6 rfl 0,?_⟩
   by_cases h0:0<i
   ·obtain⟨q,hq,hcq⟩:=tc s4.aC;refine cT (dT (by omega)) ⟨_,_,_,s4.ag 7 rfl 0,_,s4.ag 6 rfl 0,ay hq ⟨by omega,by omega,_,hcq,?_,s4⟩⟩
    by_cases g0:T.getD i 0>un
    ·rw[dT g0,dT ⟨h0,g0⟩]
    ·rw[dF g0,dF λ h=>g0 h.2]
   ·exact cF (dF (by omega)) ⟨by rw[dF λ h=>h0 h.1],s4⟩
end
theorem Lm{w:World}{m:I6}{T:List Int}{a1:OA}{c1:Nat}(hm:I6.Le m 4)(hp:pr m.l<=1024)(hr:dx 1 i1 w a1 T)(hl:T.length=bq m) :
  CP 201 #[.slice a1 (bq m) c1,.agg m.vs.toArray] w (λ r w'=>(40<(Al m T).length/\r=.tuple #[.slice none 0 0,iv 3]/\aD w w' [])\/((Al m T).length<=40/\∃ a c,r=.tuple #[.slice a (Al m T).length c,iv 0]/\St w w' (Sep [GB a c (Al m T)]))):=by
 refine sW ?_;unfold nZ;have hc:=mT hm;refine(St.start w).one.aB _ λ r1 w1 s1=>s1.aB m.vs.toArray λ r2 w2 s2=>⟨_,_,_,s2.ag 1 rfl 0,?_⟩;refine dV SB cA (x:=0) rfl s2 (n:=bq m) (by omega) (by omega) λ g w3 c3 s3=>?_;have s3:St w w3 (Sep [uX (some ⟨g,0,none⟩) (bq m) (List.replicate (bq m) 0),ah r2 m.vs.toArray 41,ah r1 #[.slice a1 (bq m) c1] 319,emp]):=s3;refine s3.aB _ λ r3 w4 s4=>s4.aM 0 rfl (by decide) rfl λ w5 s5=>⟨_,_,_,s5.ag 0 rfl 0,_,_,_,s5.ag 3 rfl 0,?_⟩;refine Jg SB cA z7 (by simp) (s5.out 1 rfl) (l2:=T) hl (hr.aC s5.aC) λ _ w6 s6=>?_;have s6:St w w6 (Sep [ah r3 #[.slice (some ⟨g,0,none⟩) (bq m) (bq m)] 319,uX (some ⟨g,0,none⟩) (bq m) T,ah r2 m.vs.toArray 41,ah r1 #[.slice a1 (bq m) c1] 319,emp]):=s6.back (i:=1) (by show 1<5; decide);refine s6.aB _ λ r4 w7 s7=>s7.aB _ λ r5 w8 s8=>s8.aM 0 rfl (by decide) rfl λ w9 s9=>⟨m,s9.cellsIn 4 rfl,aq (Ta (s9.dW (e:=253) (sz:=8) (f:=Of.cells)) m hm hp) ?_⟩;rintro v w10 ⟨b,rfl,s10⟩;have s10:St w w10 (Sep [ah b m.vs.toArray 41,GB none 0 [],ah r5 #[iv 0] 3,ah r4 #[.slice none 0 0] 249,ah r3 #[.slice (some ⟨g,0,none⟩) (bq m) (bq m)] 319,uX (some ⟨g,0,none⟩) (bq m) T,ah r2 m.vs.toArray 41,ah r1 #[.slice a1 (bq m) c1] 319,emp]):=s10;refine⟨_,rfl,Cw (by kernel_rfl) ?_⟩;refine Cv s10 (λ _ _=>⟨rfl,rfl⟩) λ fn l w11 s11=>?_;have s12:=(s11.aA [0,7,6,3,5,4,9,8,1,2]).split [_,_,_,_,_,_,_,_,_];have s13:=St.tg (f:=λ (p:Option Addr×Nat)=>Sep (aV l (.loop _) :: RL m T a1 c1 g r1 r2 r3 r4 r5 (aV w10.heap.size (.deferred (some []))) p.1 p.2 0 (oK m T 0))) (none,0) s12;refine aq (Jm hm (R:=Vw m T a1 c1 g r1 r2 r3 r4 r5 l _ (aV w10.heap.size (.deferred (some [])))) (λ i w1 Fr hi h=>Ll hm hp (λ hc=>hr.aC hc) hl hi rfl h) s13) ?_;rintro v w12 ⟨rfl,s14⟩;obtain⟨⟨a,c⟩,s15⟩:=s14.ex;refine⟨_,rfl,_,s15.first,λ w13 s16=>⟨_,_,_,s16.ag 3 rfl 0,?_⟩⟩;have s17:=s16.putAt 7 rfl (.deferred none)
 by_cases h40:40<(Al m T).length
 ·exact cT (dT (by unfold Al at h40; omega)) ⟨s16.mg 7 rfl,.inl ⟨h40,rfl,s17.aC⟩⟩
 ·exact cF (dF (by unfold Al at h40; omega)) ⟨_,_,_,s16.ag 3 rfl 0,s16.mg 7 rfl,.inr ⟨by omega,a,c,rfl,s17.aA [2]⟩⟩
def uH(x:Xv)(m:I6):Int:=if fA x≠0 then fA x else if 40<(Al m (Pp m (lz m x))).length then 3 else 0
def uI(x:Xv)(m:I6):List Of:=Al m (Pp m (lz m x))
theorem KX{w:World}{x:Xv}{m:I6}(hm:I6.Le m 4)(hp:pr m.l<=1024)(hz:aY x<=100000)(hx:x.In w) :
  CP 154 #[.agg x.cells.toArray,.agg m.vs.toArray] w (λ r w'=>(uH x m≠0/\r=.tuple #[.slice none 0 0,iv (uH x m)]/\aD w w' [])\/(uH x m=0/\(uI x m).length<=40/\∃ a c,r=.tuple #[.slice a (uI x m).length c,iv 0]/\St w w' (Sep [GB a c (uI x m)]))):=by
 refine uv (u1:=x.u) ?_;unfold pF;refine(St.start w).one.aB x.cells.toArray λ r1 w1 s1=>s1.aB m.vs.toArray λ r2 w2 s2=>⟨_,x.u,_,_,_,_,s2.cellsIn 1 rfl,m,s2.cellsIn 0 rfl,aq (SQ hm hp hz (hx.aC s2.aC)) ?_⟩;rintro v w3 (⟨hk,rfl,c3⟩|⟨hk,g,rfl,s3⟩)
 ·refine⟨_,_,_,_,rfl,cT (by simpa using hk) (.inl ⟨?_,?_,(s2.quiet c3).aC⟩)⟩
  ·rw[uH,if_pos hk]; exact hk
  ·rw[uH,if_pos hk]
 ·have s4:=s2.and s3;have hl:(Pp m (lz m x)).length=bq m:=A4 m _ _;refine⟨_,_,_,_,rfl,cF rfl ⟨m,s4.second.cellsIn 0 rfl,aq (Lm hm hp (St.rd cA s3) hl) ?_⟩⟩;have e0:uH x m=if 40<(Al m (Pp m (lz m x))).length then 3 else 0:=by rw[uH,if_neg (λ h=>h hk)]
  rintro v w5 (⟨h40,rfl,c5⟩|⟨h40,a,c,rfl,s5⟩)
  ·exact⟨_,_,_,_,rfl,.inl ⟨by rw[e0,if_pos h40]; decide,by rw[e0,if_pos h40],s4.aC.trans c5 (by simp)⟩⟩
  ·exact⟨_,_,_,_,rfl,.inr ⟨by rw[e0,if_neg (by show ¬ 40<(Al _ _).length; omega)],h40,a,c,rfl,O4 s4.aC s5⟩⟩
def Ew(r:Nat)(S:Se):List aJ:=[ah r S.arr 100,cJ 170 5 Pr.cells S.a1 S.c1 S.ps,cJ 159 4 Br.cells S.a2 S.c2 S.bd,cJ 174 3 T3.cells S.a3 S.c3 S.cp,cJ 177 3 T3.cells S.a4 S.c4 S.sa]
structure xM (S:Se) (n:Nat):Prop where
 ps:∀ p∈S.ps,p.In
 bd:∀ p∈S.bd,p.In
 l1:S.ps.length<=n
 l2:S.bd.length<=n
 l3:S.cp.length<=n
 l4:S.sa.length<=n
theorem Et{α:Type}{e:TypeId}{sz:Nat}{f:α->List Value}{a:OA}{c:Nat}{l:List α}:jk (cJ e sz f a c l) λ _=>l.length<=c:=λ _ _ h=>(AB h.1).1
theorem jk.and{A:aJ}{Q R:World->Prop}(h:jk A Q)(k:jk A R):jk A λ w=>Q w/\R w:=λ w F hA=>⟨h w F hA,k w F hA⟩
theorem OY{r n:Nat}{S:Se}(h:xM S n):jk (Sep (Ew r S)) S.In :=
 jk.mono (jk.cons (Q:=λ _=>True) (λ _ _ _=>trivial) (jk.cons (jk.and (bz Pr.len) Et) (jk.cons (jk.and (bz Br.len) Et) (jk.cons (jk.and (bz T3.len) Et) (jk.cons (jk.and (bz T3.len) Et) jk.nil)))))
  λ _ ⟨_,h1,h2,h3,h4,_⟩=>⟨fy.of h1.1 h.ps,lD.of h2.1 h.bd,ES.of h3.1,ES.of h4.1,h1.2,h2.2,h3.2,h4.2⟩
def nV(ws:List (List UInt8))(i:Nat):Int:=(gD (ws.getD (i+2) [])).1
theorem N7{ws:List (List UInt8)}{i:Nat}(h:i+2<ws.length):((ws.drop 2).map λ x=>(gD x).1)[i]?=some (nV ws i):=by
 rw[List.getElem?_map,List.getElem?_drop,show 2+i=i+2 by omega,nV,List.getD_eq_getElem?_getD,gE h]; rfl
theorem Sp(x:List UInt8):In (gD x).1:=by
 unfold gD
 split
 ·exact⟨by decide,by decide⟩
 ·split
  ·exact⟨by decide,by decide⟩
  ·exact Sr (by omega)
def Ek(S:Se)(ws:List (List UInt8)):Int :=
 if vv (ws.getD 0 [])=0 then 22 else if vv (ws.getD 0 [])≠(ws.length:Int) then 2
 else if (iL S (ws.getD 0 []) (ws.getD 1 [])).2≠0 then (iL S (ws.getD 0 []) (ws.getD 1 [])).2 else pT (ws.drop 2)
def Cz(S:Se)(ws:List (List UInt8)):Se :=
 if ws.getD 0 []=Ud then { S with ps:=S.ps++[⟨ws.getD 1 [],nV ws 0,nV ws 1,nV ws 2,nV ws 3⟩] }
 else if ws.getD 0 []=Ua then { S with bd:=S.bd++[⟨ws.getD 1 [],nV ws 0,nV ws 1,nV ws 2⟩] }
 else if ws.getD 0 []=Ub then { S with cp:=S.cp++[⟨(iL S (ws.getD 0 []) (ws.getD 1 [])).1,nV ws 0,nV ws 1⟩] }
 else if ws.getD 0 []=T9 then { S with sa:=S.sa++[⟨(iL S (ws.getD 0 []) (ws.getD 1 [])).1,nV ws 0,nV ws 1⟩] }
 else S
theorem VW{S:Se}{n:Nat}(h:xM S n)(ws:List (List UInt8)):xM (Cz S ws) (n+1):=by
 obtain⟨h1,h2,l1,l2,l3,l4⟩:=h;unfold Cz;have ni:=λ i=>Sp (ws.getD (i+2) [])
 split
 ·refine⟨λ p hp=>?_,h2,by simp; omega,(Nat.le_succ_of_le l2),(Nat.le_succ_of_le l3),(Nat.le_succ_of_le l4)⟩;rcases List.mem_append.1 hp with hp|hp
  ·exact h1 p hp
  ·rw[List.mem_singleton.1 hp]; exact⟨ni 0,ni 1,ni 2,ni 3⟩
 ·split
  ·refine⟨h1,λ p hp=>?_,(Nat.le_succ_of_le l1),by simp; omega,(Nat.le_succ_of_le l3),(Nat.le_succ_of_le l4)⟩;rcases List.mem_append.1 hp with hp|hp
   ·exact h2 p hp
   ·rw[List.mem_singleton.1 hp]; exact⟨ni 0,ni 1,ni 2⟩
  ·split
   ·exact⟨h1,h2,(Nat.le_succ_of_le l1),(Nat.le_succ_of_le l2),by simp; omega,(Nat.le_succ_of_le l4)⟩
   ·split
    ·exact⟨h1,h2,(Nat.le_succ_of_le l1),(Nat.le_succ_of_le l2),(Nat.le_succ_of_le l3),by simp; omega⟩
    ·exact⟨h1,h2,by omega,by omega,by omega,by omega⟩
theorem xM.up{S:Se}{n m:Nat}(h:xM S n)(hn:n<=m):xM S m:=⟨h.ps,h.bd,by have:=h.l1; omega,by have:=h.l2; omega,by have:=h.l3; omega,by have:=h.l4; omega⟩
theorem xM.er{S S' : Se}{n:Nat}(h:xM S n)(e:S'.er=S.er):xM S' n:=by
 have e1:S'.ps=S.ps:=show S'.er.ps=S.er.ps from congrArg Se.ps e;have e2:S'.bd=S.bd:=show S'.er.bd=S.er.bd from congrArg Se.bd e;have e3:S'.cp=S.cp:=show S'.er.cp=S.er.cp from congrArg Se.cp e;have e4:S'.sa=S.sa:=show S'.er.sa=S.er.sa from congrArg Se.sa e;exact⟨by rw[e1]; exact h.ps,by rw[e2]; exact h.bd,by rw[e1]; exact h.l1,by rw[e2]; exact h.l2,by rw[e3]; exact h.l3,by rw[e4]; exact h.l4⟩
theorem VY{w0 w:World}{r n c:Nat}{S:Se}{B:aJ}{a:OA}{ws:List (List UInt8)}(s:St w0 w (Sep (Ew r S++[B])))(hB:jk B λ w=>dx 1 sF w a ws)(hc:ws.length<=c)(h1:1<=ws.length)(hl:ws.length<=100000)(hx:∀ x∈ws,x.length<=1000000)(hg:xM S n)(hn:n<=90000) :
  CP 139 #[.pointer (some ⟨r,0,none⟩),.slice a ws.length c] w (λ v w'=>v=iv (Ek S ws)/\(Ek S ws≠0->St w0 w' (Sep (Ew r S++[B])))/\(Ek S ws=0->∃ S' : Se,S'.er=(Cz S ws).er/\St w0 w' (Sep (Ew r S'++[B])))):=by
 refine Bz ?_;unfold AS;have wc:∀ {w' : World} {l:List aJ} {i:Nat},St w0 w' (Sep l)->l[i]?=some B->∀ (j:Nat),j<ws.length->∃ q,a=some q/\w'.cell? (Addr.add q (j*1))=some (sv (ws.getD j [])):=λ s e j hj =>
  IB ((s.out _ e).first.imp hB) (by rw[List.getD_eq_getElem?_getD,gE hj]; rfl)
 obtain⟨q,hq,c0⟩:=wc s (i:=5) rfl 0 (by omega);have wc' : ∀ {w' : World} {l:List aJ} {i:Nat},St w0 w' (Sep l)->l[i]?=some B->∀ (j:Nat),j<ws.length->w'.cell? (Addr.add q (j*1))=some (sv (ws.getD j [])):=λ s e j hj=>by
  obtain⟨q',hq',h⟩:=wc s e j hj;rw[hq] at hq'; cases hq'; exact h
 have bad:∀ {k:Int} {w' : World},k≠0->Ek S ws=k->St w0 w' (Sep (Ew r S++[B]))->iv k=iv (Ek S ws)/\(Ek S ws≠0->St w0 w' (Sep (Ew r S++[B])))/\(Ek S ws=0->∃ S' : Se,S'.er=(Cz S ws).er/\St w0 w' (Sep (Ew r S'++[B]))):=λ hk e hc =>
  ⟨by rw[e],λ _=>hc,λ h=>absurd (e.symm.trans h) hk⟩
 refine ay hq ⟨by omega,by omega,_,c0,aq (S6 w _) ?_⟩;rintro v w1 ⟨rfl,rfl⟩;refine⟨_,rfl,?_⟩
 by_cases h0:vv (ws.getD 0 [])=0
 ·exact cT (by simpa using h0) (bad (by decide) (by rw[Ek,if_pos h0]) s)
 refine cF (by simpa using h0) ?_
 by_cases h2:vv (ws.getD 0 [])=(ws.length:Int)
 ·have hw4:4<=ws.length:=by
   unfold vv at h0 h2
   split at h2
   ·omega
   ·rename_i g1
    split at h2
    ·omega
    ·rename_i g2
     split at h2
     ·omega
     ·rename_i g3; rw[if_neg g1,if_neg g2,if_neg g3] at h0; exact absurd rfl h0
  have s2:=s.quiet (aD.drew w1 []);have sI:S.In w1.drew:=by
   have:=s2.aA [0,1,2,3,4];exact(this:St w0 w1.drew (Sep (Ew r S))).imp (OY hg)
  refine cT (by simpa using h2) ⟨_,_,_,_,_,_,_,_,_,_,_,_,s2.cellsIn 0 rfl,ay hq ⟨by omega,by omega,_,wc' s2 (i:=5) rfl 0 (by omega),ay hq ⟨by omega,by omega,_,wc' s2 (i:=5) rfl 1 (by omega),aq (O6 sI (by have:=hg.l1; omega) (by have:=hg.l2; omega) _ _) ?_⟩⟩⟩;rintro v w2 ⟨rfl,c2⟩;have s3:=s2.quiet c2;have e1:Ek S ws=if (iL S (ws.getD 0 []) (ws.getD 1 [])).2≠0 then (iL S (ws.getD 0 []) (ws.getD 1 [])).2 else pT (ws.drop 2):=by rw[Ek,if_neg h0,if_neg (λ h=>h h2)]
  refine⟨_,_,rfl,?_⟩
  by_cases h3:(iL S (ws.getD 0 []) (ws.getD 1 [])).2=0
  ·rw[if_neg (λ h=>h h3)] at e1;refine cF (by simpa using h3) ⟨by decide,by omega,?_⟩;have hfl:dx 1 sF w2 a ws:=(s3.out 5 rfl).first.imp hB;have ht:dx 1 sF w2 (some (q.add (((2:Int)).toNat*1))) (ws.drop 2):=λ i x hi=>by
    rw[List.getElem?_drop] at hi;obtain⟨q',cs,e,h1,h2,h3⟩:=hfl (2+i) x hi;rw[hq] at e; cases e;refine⟨_,cs,rfl,?_,h2,h3⟩;rw[Addr.add_add];have:((2:Int)).toNat*1+i*1=(2+i)*1:=by show 2*1+i*1=(2+i)*1; omega
    rw[this]; exact h1
   have hln:ws.length-((2:Int)).toNat=(ws.drop 2).length:=by rw[List.length_drop]; rfl
   rw[if_neg (show ¬ c=((2:Int)).toNat by show ¬ c=2; omega),hq,Option.map_some,hln];refine aq (IG ht (by rw[List.length_drop]; omega) λ x h=>hx x (List.mem_of_mem_drop h)) ?_;rintro v w4 (⟨hne,rfl,c4⟩|⟨he,a6,c6,rfl,k4⟩)
   ·exact⟨_,_,_,_,rfl,cT (by simpa using hne) (bad hne e1 (s3.quiet c4))⟩
   ·have s4:St w0 w4 (Sep (cJ 3 1 i1 a6 c6 ((ws.drop 2).map λ x=>(gD x).1) :: (Ew r S++[B]))):=s3.and k4.single;rw[he] at e1;refine⟨_,_,_,_,rfl,cF rfl ⟨λ w5=>∃ S' : Se,S'.er=(Cz S ws).er/\St w0 w5 (Sep (Ew r S'++[B])),λ w5 h _=>⟨by rw[e1],λ hh=>absurd e1 hh,λ _=>h⟩,ay rfl ⟨by omega,by omega,_,wc' s4 (i:=6) rfl 0 (by omega),?_⟩⟩⟩;have s5:=s4.quiet (aD.drew w4 []);obtain⟨q6,hq6,_⟩:=fu (St.rd cA s5) (N7 (ws:=ws) (i:=0) (by omega));have nc:∀ i,i+2<ws.length->w4.drew.cell? (Addr.add q6 (i*1))=some (iv (nV ws i)):=λ i hi=>by
     obtain⟨q',hq',hc'⟩:=fu (St.rd cA s5) (N7 (ws:=ws) hi);rw[hq6] at hq'; cases hq'; exact hc'
    have w1c:=wc' s5 (i:=6) rfl 1 (by omega);have z1:=hg.l1; have z2:=hg.l2; have z3:=hg.l3; have z4:=hg.l4;rw[jm,jm,jm,jm,jm]
    by_cases g1:ws.getD 0 []=Ud
    ·have hw6:ws.length=6:=by unfold vv at h2; rw[if_pos g1] at h2; omega
     have eM:Cz S ws={ S with ps:=S.ps++[⟨ws.getD 1 [],nV ws 0,nV ws 1,nV ws 2,nV ws 3⟩] }:=by rw[Cz,if_pos g1]
     refine cT (beq_iff_eq.2 g1) ⟨_,_,_,s5.ag 1 rfl 0,ay rfl ⟨by omega,by omega,_,w1c,ay hq6 ⟨by omega,by omega,_,nc 0 (by omega),ay hq6 ⟨by omega,by omega,_,nc 1 (by omega),ay hq6 ⟨by omega,by omega,_,nc 2 (by omega),ay hq6 ⟨by omega,by omega,_,nc 3 (by omega),?_⟩⟩⟩⟩⟩⟩;refine s5.aB (⟨ws.getD 1 [],nV ws 0,nV ws 1,nV ws 2,nV ws 3⟩:Pr).cells.toArray λ r1 w6 s6=>⟨s6.ag 2 rfl 0,?_⟩;refine jl (l2:=[(⟨ws.getD 1 [],nV ws 0,nV ws 1,nV ws 2,nV ws 3⟩:Pr)]) XQ Pr.len Pr.one (s6.out 3 rfl) (zj (s6.cellsIn 0 rfl) rfl) (by simp; omega) (by simp; omega) λ a8 c8 w7 s7=>?_;have s8:=s7.back (i:=3) (by show 3<8; decide);refine s8.aM 2 rfl (j:=0) (by show 0<4; decide) rfl λ w8 s9=>⟨{ S with ps:=S.ps++[⟨ws.getD 1 [],nV ws 0,nV ws 1,nV ws 2,nV ws 3⟩],a1:=a8,c1:=c8 },by rw[eM]; rfl,s9.aA [2,3,4,5,6,7]⟩
    refine cF (beq_eq_false_iff_ne.2 g1) ?_
    by_cases g2:ws.getD 0 []=Ua
    ·have hw6:ws.length=5:=by unfold vv at h2; rw[if_neg g1,if_pos g2] at h2; omega
     have eM:Cz S ws={ S with bd:=S.bd++[⟨ws.getD 1 [],nV ws 0,nV ws 1,nV ws 2⟩] }:=by rw[Cz,if_neg g1,if_pos g2]
     refine cT (beq_iff_eq.2 g2) ⟨_,_,_,s5.ag 1 rfl 1,ay rfl ⟨by omega,by omega,_,w1c,ay hq6 ⟨by omega,by omega,_,nc 0 (by omega),ay hq6 ⟨by omega,by omega,_,nc 1 (by omega),ay hq6 ⟨by omega,by omega,_,nc 2 (by omega),?_⟩⟩⟩⟩⟩;refine s5.aB (⟨ws.getD 1 [],nV ws 0,nV ws 1,nV ws 2⟩:Br).cells.toArray λ r1 w6 s6=>⟨s6.ag 2 rfl 1,?_⟩;refine jl (l2:=[(⟨ws.getD 1 [],nV ws 0,nV ws 1,nV ws 2⟩:Br)]) XN Br.len Br.one (s6.out 4 rfl) (zj (s6.cellsIn 0 rfl) rfl) (by simp; omega) (by simp; omega) λ a8 c8 w7 s7=>?_;have s8:=s7.back (i:=4) (by show 4<8; decide);refine s8.aM 2 rfl (j:=1) (by show 1<4; decide) rfl λ w8 s9=>⟨{ S with bd:=S.bd++[⟨ws.getD 1 [],nV ws 0,nV ws 1,nV ws 2⟩],a2:=a8,c2:=c8 },by rw[eM]; rfl,s9.aA [2,3,4,5,6,7]⟩
    refine cF (beq_eq_false_iff_ne.2 g2) ?_
    by_cases g3:ws.getD 0 []=Ub
    ·have hw6:ws.length=4:=by unfold vv at h2; rw[if_neg g1,if_neg g2,if_pos (.inl g3)] at h2; omega
     have eM:Cz S ws={ S with cp:=S.cp++[⟨(iL S (ws.getD 0 []) (ws.getD 1 [])).1,nV ws 0,nV ws 1⟩] }:=by rw[Cz,if_neg g1,if_neg g2,if_pos g3]
     refine cT (beq_iff_eq.2 g3) ⟨_,_,_,s5.ag 1 rfl 2,ay hq6 ⟨by omega,by omega,_,nc 0 (by omega),ay hq6 ⟨by omega,by omega,_,nc 1 (by omega),?_⟩⟩⟩;refine s5.aB (⟨(iL S (ws.getD 0 []) (ws.getD 1 [])).1,nV ws 0,nV ws 1⟩:T3).cells.toArray λ r1 w6 s6=>⟨s6.ag 2 rfl 2,?_⟩;refine jl (l2:=[(⟨(iL S (ws.getD 0 []) (ws.getD 1 [])).1,nV ws 0,nV ws 1⟩:T3)]) XP T3.len T3.one (s6.out 5 rfl) (zj (s6.cellsIn 0 rfl) rfl) (by simp; omega) (by simp; omega) λ a8 c8 w7 s7=>?_;have s8:=s7.back (i:=5) (by show 5<8; decide);refine s8.aM 2 rfl (j:=2) (by show 2<4; decide) rfl λ w8 s9=>⟨{ S with cp:=S.cp++[⟨(iL S (ws.getD 0 []) (ws.getD 1 [])).1,nV ws 0,nV ws 1⟩],a3:=a8,c3:=c8 },by rw[eM]; rfl,s9.aA [2,3,4,5,6,7]⟩
    refine cF (beq_eq_false_iff_ne.2 g3) ?_
    by_cases g4:ws.getD 0 []=T9
    ·have hw6:ws.length=4:=by unfold vv at h2; rw[if_neg g1,if_neg g2,if_pos (.inr g4)] at h2; omega
     have eM:Cz S ws={ S with sa:=S.sa++[⟨(iL S (ws.getD 0 []) (ws.getD 1 [])).1,nV ws 0,nV ws 1⟩] }:=by rw[Cz,if_neg g1,if_neg g2,if_neg g3,if_pos g4]
     refine cT (beq_iff_eq.2 g4) ⟨_,_,_,s5.ag 1 rfl 3,ay hq6 ⟨by omega,by omega,_,nc 0 (by omega),ay hq6 ⟨by omega,by omega,_,nc 1 (by omega),?_⟩⟩⟩;refine s5.aB (⟨(iL S (ws.getD 0 []) (ws.getD 1 [])).1,nV ws 0,nV ws 1⟩:T3).cells.toArray λ r1 w6 s6=>⟨s6.ag 2 rfl 3,?_⟩;refine jl (l2:=[(⟨(iL S (ws.getD 0 []) (ws.getD 1 [])).1,nV ws 0,nV ws 1⟩:T3)]) XM T3.len T3.one (s6.out 6 rfl) (zj (s6.cellsIn 0 rfl) rfl) (by simp; omega) (by simp; omega) λ a8 c8 w7 s7=>?_;have s8:=s7.back (i:=6) (by show 6<8; decide);refine s8.aM 2 rfl (j:=3) (by show 3<4; decide) rfl λ w8 s9=>⟨{ S with sa:=S.sa++[⟨(iL S (ws.getD 0 []) (ws.getD 1 [])).1,nV ws 0,nV ws 1⟩],a4:=a8,c4:=c8 },by rw[eM]; rfl,s9.aA [2,3,4,5,6,7]⟩
    ·exact cF (beq_eq_false_iff_ne.2 g4) ⟨S,by rw[Cz,if_neg g1,if_neg g2,if_neg g3,if_neg g4],s4.second⟩
  ·rw[if_pos h3] at e1;exact cT (by simpa using h3) (bad h3 e1 s3)
 ·exact cF (by simpa using h2) (bad (by decide) (by rw[Ek,if_neg h0,if_pos h2]) s)
theorem CJ(sep:ByteArray):∀ (k:Nat) (s:ByteArray),∀ x∈Lib.splitB sep 0 k s,x.size<=s.size
 | 0,s,x,hx=>by rw[Lib.splitB_zero,List.mem_singleton] at hx; rw[hx]; exact Nat.le_refl _
 | k+1,s,x,hx=>by
  rw[Lib.splitB] at hx
  split at hx
  ·rw[List.mem_singleton] at hx; rw[hx]; exact Nat.le_refl _
  ·rcases List.mem_cons.1 hx with rfl|hx
   ·rw[ByteArray.size_extract]; omega
   ·have:=CJ sep k _ x hx;rw[ByteArray.size_extract] at this;omega
theorem CL{c:UInt8}{s x:List UInt8}(hx:x∈bD c s):x.length<=s.length:=by
 obtain⟨b,hb,rfl⟩:=List.mem_map.1 hx;have:=CJ _ _ _ b hb;rw[gZ] at this;exact this
theorem II(c:UInt8)(s:List UInt8):1<=(bD c s).length:=by rw[nF]; omega
def gN:Se:=⟨[],[],[],[],none,0,none,0,none,0,none,0⟩
def gz:Se->List (List UInt8)->Se×Int
 | S,[]=>(S,0)
 | S,l :: ls=>if l=[] then gz S ls else if Ek S (bD 32 l)≠0 then (gN,Ek S (bD 32 l)) else gz (Cz S (bD 32 l)) ls
def wq(t:List UInt8):Int:=if 4000<t.length then 3 else if (gz gN (bD 10 t)).2≠0 then (gz gN (bD 10 t)).2 else IC (gz gN (bD 10 t)).1
def wu(t:List UInt8):Se:=(gz gN (bD 10 t)).1
theorem VU{S S' : Se}(e:S'.er=S.er)(ws:List (List UInt8)):Ek S' ws=Ek S ws:=by
 have:∀ S:Se,Ek S ws=Ek S.er ws:=λ _=>rfl;rw[this S',e,<- this]
theorem VV{S S' : Se}(e:S'.er=S.er)(ws:List (List UInt8)):(Cz S' ws).er=(Cz S ws).er:=by
 have:∀ S:Se,(Cz S ws).er=(Cz S.er ws).er:=λ S=>by
  unfold Cz
  split
  ·rfl
  ·split
   ·rfl
   ·split
    ·rfl
    ·split<;>rfl
 rw[this S',e,<- this]
theorem V2{S S' : Se}(e:S'.er=S.er):IC S' = IC S:=by
 have:∀ S:Se,IC S=IC S.er:=λ _=>rfl;rw[this S',e,<- this]
theorem Ef:∀ {l:List (List UInt8)} {S S' : Se},S'.er=S.er->(gz S' l).1.er=(gz S l).1.er/\(gz S' l).2=(gz S l).2
 | [],_,_,e=>⟨e,rfl⟩
 | x :: l,S,S',e=>by
  rw[gz,gz,VU e]
  split
  ·exact Ef e
  ·split
   ·exact⟨rfl,rfl⟩
   ·exact Ef (VV e _)
theorem PS(w:World):gN.In w:=⟨λ i p h=>by simp[gN] at h,λ i p h=>by simp[gN] at h,λ i p h=>by simp[gN] at h,λ i p h=>by simp[gN] at h,Nat.le_refl _,Nat.le_refl _,Nat.le_refl _,Nat.le_refl _⟩
theorem O7(w:World)(t:List UInt8)(ht:t.length<=80000):CP 121 #[sv t] w (λ r w'=>∃ (S' : Se) (i:Int),r=.tuple #[.agg S'.arr,iv i,iv (wq t)]/\St w w' (held S'.In)/\(wq t=0->S'.er=(wu t).er/\S'.Ok)):=by
 refine AQ ?_;unfold xC;refine(St.start w).one.aB gN.arr λ r1 w1 s1=>?_;have bad:∀ {k i:Int} {w' : World} {m:List aJ} {j:Nat},St w w' (Sep m)->m[j]?=some (ah r1 gN.arr 100)->k≠0->wq t=k ->
   aU ⟨r1,0,none⟩ 0 gN.arr.toList w' λ w3=>∃ (a1:OA) (l1 c1:Nat) (a2:OA) (l2 c2:Nat) (a3:OA) (l3 c3:Nat) (a4:OA) (l4 c4:Nat),af w3 ⟨r1,0,none⟩ 0 [.slice a1 l1 c1,.slice a2 l2 c2,.slice a3 l3 c3,.slice a4 l4 c4] /\
    ∃ (S' : Se) (i' : Int),Value.tuple #[.agg #[.slice a1 l1 c1,.slice a2 l2 c2,.slice a3 l3 c3,.slice a4 l4 c4],iv i,iv k]=.tuple #[.agg S'.arr,iv i',iv (wq t)]/\St w w3 (held S'.In)/\(wq t=0->S'.er=(wu t).er/\S'.Ok):=λ {k i w' m j} s e hk hp =>
  s.aE j e gN.arr.toList rfl (by simp[gN,Se.arr,Value.oneCell']) λ w3 s3=>⟨_,_,_,_,_,_,_,_,_,_,_,_,s3.cellsIn (cs:=gN.arr) (T:=100) j (List.getElem?_set_self (fE e)),gN,i,by rw[hp]; rfl,((St.start' s3.aC).one.sg PS).first,λ h=>absurd (hp.symm.trans h) hk⟩
 by_cases h4:4000<t.length
 ·exact cT (by rw[gZ]; exact dT (by omega)) (bad s1 (j:=0) rfl (by decide) (by rw[wq,if_pos h4]))
 refine cF (by rw[gZ]; exact dF (by omega)) (s1.aB gN.arr λ r2 w3 s3=>aq (Kf w3 10 t (by omega)) ?_);rintro v w4 ⟨g,rfl,k4⟩;have e0:wq t=if (gz gN (bD 10 t)).2≠0 then (gz gN (bD 10 t)).2 else IC (gz gN (bD 10 t)).1:=by rw[wq,if_neg h4]
 have hll:=CK 10 t;have hls:∀ x∈bD 10 t,x.length<=4000:=λ x hx=>by have:=CL hx; omega
 generalize hL:bD 10 t=L at *;have s4:St w w4 (Sep [cJ 9 1 sF (some ⟨g,0,none⟩) L.length L,ah r2 gN.arr 100,ah r1 gN.arr 100,emp]):=s3.and k4.single;have s5:St w w4 (Sep (Ew r2 gN++[Sep [cJ 9 1 sF (some ⟨g,0,none⟩) L.length L,ah r1 gN.arr 100]])):=by
  have h1:St w w4 (Sep (cJ 177 3 T3.cells none 0 [] :: cJ 174 3 T3.cells none 0 [] :: cJ 159 4 Br.cells none 0 [] :: cJ 170 5 Pr.cells none 0 [] :: [cJ 9 1 sF (some ⟨g,0,none⟩) L.length L,ah r2 gN.arr 100,ah r1 gN.arr 100,emp])):=(((s4.dW).dW).dW).dW;have h2:=(h1.aA [5,3,2,1,0,4,6]).split [_,_,_,_,_];exact St.cat (h2.eqv (bg.right (bg.unit _)))
 let B:aJ:=Sep [cJ 9 1 sF (some ⟨g,0,none⟩) L.length L,ah r1 gN.arr 100];have rdL:jk B λ w=>dx 1 sF w (some ⟨g,0,none⟩) L:=λ w F ⟨F1,F2,_,h1,_,_⟩=>bz IA w F1 h1;have sB1:∀ {w' : World} {S:Se},St w w' (Sep (Ew r2 S++[B]))->St w w' (Sep (Ew r2 S++[cJ 9 1 sF (some ⟨g,0,none⟩) L.length L,ah r1 gN.arr 100])):=λ s=>s.dR [_,_,_,_,_];refine⟨_,_,_,rfl,λ i w5 m=>∃ (k:Nat) (S:Se),i=k/\k<=L.length/\m=L.length-k/\xM S k/\(gz S (L.drop k)).1.er=(gz gN L).1.er/\(gz S (L.drop k)).2=(gz gN L).2/\St w w5 (Sep (Ew r2 S++[B])),⟨L.length,0,gN,rfl,by omega,by omega,⟨by simp[gN],by simp[gN],by simp[gN],by simp[gN],by simp[gN],by simp[gN]⟩,rfl,rfl,s5⟩,?_⟩;rintro w5 m i ⟨k,S,rfl,hk,hm,hg,p1,p2,s6⟩ -
 by_cases hlt:(k:Int)<(L.length:Int)
 ·have hx:L[k]?=some (L[k]'(by omega)):=gE (by omega);have hdrop:L.drop k=L[k]'(by omega) :: L.drop (k+1):=List.drop_eq_getElem_cons (by omega);generalize L[k]'(by omega)=x at hx hdrop;rw[hdrop,gz] at p1 p2;obtain⟨q,hq,hc⟩:=IB ((s6.out 5 rfl).first.imp rdL) hx
  cases hq
  refine cT (dT hlt) ⟨λ w6=>∃ S' : Se,xM S' (k+1)/\(gz S' (L.drop (k+1))).1.er=(gz gN L).1.er/\(gz S' (L.drop (k+1))).2=(gz gN L).2/\St w w6 (Sep (Ew r2 S'++[B])),?_,ay rfl ⟨by omega,by omega,_,hc,?_⟩⟩
  ·rintro w6 ⟨S',h1,h2,h3,s7⟩ -;exact⟨L.length-(k+1),by omega,k+1,S',aH ⟨by omega,by omega⟩,by omega,rfl,h1,h2,h3,s7⟩
  ·by_cases hx0:x=[]
   ·rw[if_pos hx0] at p1 p2;exact cT (by rw[hx0,jm]; rfl) ⟨S,hg.up (by omega),p1,p2,s6⟩
   ·rw[if_neg hx0] at p1 p2;have hxl:=hls x (List.mem_of_getElem? hx);refine cF (by rw[jm,jm]; exact beq_eq_false_iff_ne.2 hx0) (aq (Kf w5 32 x (by omega)) ?_);rintro v w7 ⟨g2,rfl,k7⟩;have s7:St w w7 (Sep (cJ 9 1 sF (some ⟨g2,0,none⟩) (bD 32 x).length (bD 32 x) :: (Ew r2 S++[B]))):=s6.and k7.single;have hwl:=CK 32 x;have s8:St w w7 (Sep (Ew r2 S++[Sep [cJ 9 1 sF (some ⟨g2,0,none⟩) (bD 32 x).length (bD 32 x),B]])) :=
     St.cat (((s7.aA [1,2,3,4,5,0,6]).split [_,_,_,_,_]).eqv (bg.right (bg.unit _)))
    refine⟨_,_,_,rfl,aq (VY s8 (λ w F ⟨F1,F2,_,h1,_,_⟩=>bz IA w F1 h1) (Nat.le_refl _) (II 32 x) (by omega) (λ y hy=>by have:=CL hy; omega) hg (by omega)) ?_⟩;rintro v w8 ⟨rfl,ko,ok⟩;refine⟨_,rfl,?_⟩
    by_cases hr:Ek S (bD 32 x)=0
    ·rw[if_neg (λ h=>h hr)] at p1 p2;obtain⟨S',eS,s9⟩:=ok hr;have h1:=Ef (l:=L.drop (k+1)) eS;refine cF (by simpa using hr) ⟨S',(VW hg _).er eS,h1.1.trans p1,h1.2.trans p2,?_⟩;have s10:=s9.dR [_,_,_,_,_];exact s10.aA [0,1,2,3,4,6]
    ·rw[if_pos hr] at p1 p2;have p2:Ek S (bD 32 x)=(gz gN L).2:=p2;have s9:=sB1 (((ko hr).dR [_,_,_,_,_]).aA [0,1,2,3,4,6]);exact cT (by simpa using hr) (bad s9 (j:=6) rfl hr (by rw[e0,if_pos (by rw[<- p2]; exact hr),<- p2]))
 ·obtain rfl:k=L.length:=by omega
  rw[List.drop_length,gz] at p1 p2;have p1:S.er=(gz gN L).1.er:=p1;have p2:(0:Int)=(gz gN L).2:=p2;rw[if_neg (λ h=>h p2.symm),<- V2 p1] at e0;have s7:=sB1 s6;have sI:S.In w5:=(show St w w5 (Sep (Ew r2 S)) from s7.aA [0,1,2,3,4]).imp (OY hg);refine cF (dF hlt) ⟨_,_,_,_,_,_,_,_,_,_,_,_,s7.cellsIn 0 rfl,aq (CG sI) ?_⟩;rintro v w10 ⟨⟨rfl,hok⟩,c10⟩;have s8:=s7.quiet c10;refine⟨_,rfl,?_⟩
  by_cases h0:IC S=0
  ·refine cF (by simpa using h0) ⟨_,_,_,_,_,_,_,_,_,_,_,_,s8.cellsIn 0 rfl,s8.aE 6 rfl S.arr.toList rfl (by simp[Se.arr,Value.oneCell']) λ w12 s9=>⟨_,_,_,_,_,_,_,_,_,_,_,_,s9.cellsIn (cs:=S.arr) 6 rfl,S,0,by rw[e0,h0]; rfl,?_,λ _=>⟨by rw[wu,hL]; exact p1,hok.1 h0⟩⟩⟩;exact((show St w w12 (Sep (Ew r2 S)) from s9.aA [0,1,2,3,4]).held (OY hg))
  ·exact cT (by simpa using h0) (bad s8 (j:=6) rfl h0 e0)
def pQ(o:Po):Sx:={ o:=o,ph:=0,s:=gN,k:=none,bd:=[cP,cP,cP,cP,cP,cP,cP,cP],dec:=0,cnt:=0,dig:=0 }
theorem Wh(w:World)(o:Po):CP 32 #[o.v] w (λ r w'=>∃ b,r=.pointer (some ⟨b,0,none⟩)/\St w w' (Sep [ah b (pQ o).cells.toArray 114])):=by
 refine Ey ?_;unfold CM;exact(St.start w).one.aB o.cells.toArray λ r1 w1 s1=>⟨_,_,_,_,s1.cellsIn 0 rfl,s1.aB (pQ o).cells.toArray λ r2 w2 s2=>⟨r2,rfl,s2.aA [0]⟩⟩
theorem mI{S:Sx}(h:S.bd.length=8):S.cells.toArray[9]?=some (.pointer S.k):=by
 obtain⟨o,ph,s,k,bd,dec,cnt,dig⟩:=S;obtain⟨b0,b1,b2,b3,b4,b5,b6,b7,rfl⟩:=cq h;rfl
section
variable {w0 w:World} {b g:Nat} {S:Sx} {C:Ck} {B:aJ}
def eP(b:Nat)(S:Sx)(g:Nat)(C:Ck):List aJ:=ah b S.cells.toArray 114 :: fO g C
theorem St.mY{m:List aJ}(s:St w0 w (Sep (fO g C++m))):St w0 w (Sep (fO g C++[Sep m])):=St.cat ((s.split (fO g C)).eqv (bg.right (bg.unit _)))
theorem O9(s:St w0 w (Sep (eP b S g C++[B])))(h:S.bd.length=8)(hk:S.k=some ⟨g,0,none⟩)(hC:C.Ok)(e:Ev) :
  CP 92 #[.pointer (some ⟨b,0,none⟩),e.v] w (λ r w'=>∃ (x:Int) (S' : Sx) (C' : Ck),r=iv x/\S'.bd.length=8/\S'.k=S.k/\x=(if C.ov then 10 else 0)/\(C.ov=false->C'.er=(if e.kind=3 then gk C else vj C).er/\S' = if (if e.kind=3 then fe C else true) then { S with ph:=2 } else S)/\St w0 w' (Sep (eP b S' g C'++[B]))):=by
 refine qt (u1:=e.want) ?_;unfold kS;refine s.aB e.cells.toArray λ r1 w1 s1=>?_;let Bf:aJ:=Sep [ah r1 e.cells.toArray 43,ah b S.cells.toArray 114,B];have s2:St w0 w1 (Sep (fO g C++[Bf])):=St.mY (m:=[_,_,_]) (s1.aA [2,3,4,5,6,7,0,1,8]);have cl:w1.cell? ⟨b,9,none⟩=some (.pointer (some ⟨g,0,none⟩)):=by rw[s1.ag 1 rfl,mI h,hk]
 have unf:∀ {w' : World} {C' : Ck},St w0 w' (Sep (fO g C'++[Bf]))->St w0 w' (Sep (eP b S g C'++[B])):=λ s=>(s.dR [_,_,_,_,_,_]).aA [7,0,1,2,3,4,5,8];refine⟨λ o x w2=>∃ C' : Ck,x=(if C.ov then 10 else 0)/\(C.ov=false->C'.er=(if e.kind=3 then gk C else vj C).er/\o=if e.kind=3 then fe C else true)/\St w0 w2 (Sep (eP b S g C'++[B])),?_,_,s1.ag 0 rfl 0,?_⟩
 ·rintro w2 o x ⟨C',hx,ho,s3⟩ -;refine⟨λ w3=>∃ S' : Sx,S'.bd.length=8/\S'.k=S.k/\S' = (if o then { S with ph:=2 } else S)/\St w0 w3 (Sep (eP b S' g C'++[B])),?_,?_⟩
  ·rintro w3 ⟨S',h8,hk',hS,s4⟩ -;exact⟨x,S',C',rfl,h8,hk',hx,λ hv=>⟨(ho hv).1,by rw[hS,(ho hv).2]⟩,s4⟩
  ·cases o with
   | true =>
    refine cT rfl (s3.aM 0 rfl (j:=4) (by rw[eY h]; omega) rfl λ w4 s4=>⟨{ S with ph:=2 },h,rfl,rfl,?_⟩);rw[GP h] at s4;exact s4
   | false=>exact cF rfl ⟨S,h,rfl,rfl,s3⟩
 ·by_cases h3:e.kind=3
  ·refine cT (by simpa using h3) ⟨_,cl,aq (Qm s2 hC) ?_⟩;rintro v w5 (⟨hv,rfl,s5⟩|⟨hv,rfl,C',eC,s5⟩)
   ·exact⟨_,_,rfl,C,by rw[hv]; rfl,λ h=>(by rw[hv] at h; cases h),unf s5⟩
   ·exact⟨_,_,rfl,C',by rw[hv]; rfl,λ _=>⟨by rw[if_pos h3]; exact eC,by rw[if_pos h3]⟩,unf s5⟩
  ·refine cF (by simpa using h3) ⟨_,cl,aq (Wk s2 hC) ?_⟩;rintro v w5 (⟨hv,rfl,s5⟩|⟨hv,rfl,C',eC,s5⟩)
   ·exact⟨_,rfl,C,by rw[hv]; rfl,λ h=>(by rw[hv] at h; cases h),unf s5⟩
   ·exact⟨_,rfl,C',by rw[hv]; rfl,λ _=>⟨by rw[if_neg h3]; exact eC,by rw[if_neg h3]⟩,unf s5⟩
end
section
variable {w0 w:World} {b g:Nat} {S:Sx} {C:Ck} {B:aJ}
theorem LV(s:St w0 w (Sep (eP b S g C++[B])))(h:S.bd.length=8)(hk:S.k=some ⟨g,0,none⟩)(hC:C.Ok){e:Ev}{n:Nat}{y:Br}(hn:e.bidder=n)(hy:C.s.bd[n]?=some y) :
  CP 91 #[.pointer (some ⟨b,0,none⟩),e.v] w (λ r w'=>r=iv (lH C n y e.want)/\St w0 w' (Sep (eP b S g (if lH C n y e.want=0 then sO C n e.want else C)++[B]))):=by
 refine oP (u1:=e.want) ?_;unfold j0;refine s.aB e.cells.toArray λ r1 w1 s1=>?_;have s1':=s1.quiet (aD.drew w1 []);let Bf:aJ:=Sep [ah r1 e.cells.toArray 43,ah b S.cells.toArray 114,B];have s2:St w0 w1.drew (Sep (fO g C++[Bf])):=St.mY (m:=[_,_,_]) (s1'.aA [2,3,4,5,6,7,0,1,8]);have cl:w1.drew.cell? ⟨b,9,none⟩=some (.pointer (some ⟨g,0,none⟩)):=by rw[s1'.ag 1 rfl,mI h,hk]
 have unf:∀ {w' : World} {C' : Ck},St w0 w' (Sep (fO g C'++[Bf]))->St w0 w' (Sep (eP b S g C'++[B])):=λ s=>(s.dR [_,_,_,_,_,_]).aA [7,0,1,2,3,4,5,8];have cb:w1.drew.cell? ⟨r1,1,none⟩=some (iv n):=by rw[<- hn]; exact s1'.ag 0 rfl 1
 refine⟨_,cl,_,cb,e.want,s1'.aQ 0 3 rfl rfl,aq (Vo s2 hC hy e.want) ?_⟩;rintro v w2 ⟨rfl,s3⟩;refine⟨_,rfl,rfl,unf ?_⟩
 split at s3
 ·rename_i h0; rw[if_pos h0]; exact s3
 ·rename_i h0; rw[if_neg h0]; exact s3
end
section
variable {w0 w:World} {b g:Nat} {S:Sx} {C:Ck} {B:aJ}
def fQ(S:Sx)(i:Nat):Sx:={ S with bd:=S.bd.set i { S.bd.getD i cP with out:=true } }
theorem Sv(s:St w0 w (Sep (eP b S g C++[B])))(h:S.bd.length=8)(hk:S.k=some ⟨g,0,none⟩)(hC:C.Ok){e:Ev}{i:Nat}(he:e.bidder=i)(hi:i<C.s.bd.length) :
  CP 95 #[.pointer (some ⟨b,0,none⟩),e.v] w (λ r w'=>(C.dp[i]?=some true/\r=iv 10/\St w0 w' (Sep (eP b (bx (fQ S i) i) g C++[B])))\/(C.dp[i]?=some false/\r=iv 0/\St w0 w' (Sep (eP b (bx (fQ S i) i) g (kD C i)++[B])))):=by
 refine kf (u1:=e.want) ?_;unfold gH;have hi8:i<8:=by have:=hC.s.bd.l2; omega
 have hy:S.bd[i]?=some (S.bd.getD i cP):=by rw[List.getD_eq_getElem?_getD,gE (by omega)]; rfl
 refine s.aB e.cells.toArray λ r1 w1 s1=>?_;have s2:=s1.quiet (aD.drew w1 []);have c1:w1.drew.cell? ⟨r1,1,none⟩=some (iv i):=by rw[<- he]; exact s2.ag 0 rfl 1
 refine⟨_,c1,by omega,by omega,?_⟩;rw[WL,aZ];refine s2.aM 1 rfl (j:=10+i*11+10) (by rw[eY h]; omega) rfl λ w2 s3=>?_;rw[SO h hi8 hy] at s3;have h2:(fQ S i).bd.length=8:=by simpa[fQ] using h
 have h3:(bx (fQ S i) i).bd.length=8:=by simpa[bx] using h2
 have s3:St w0 w2 (Sep (ah r1 e.cells.toArray 43 :: ah b (fQ S i).cells.toArray 114 :: (fO g C++[B]))):=s3;have c2:w2.cell? ⟨r1,1,none⟩=some (iv i):=by rw[<- he]; exact s3.ag 0 rfl 1
 refine⟨_,c2,aq (Eu (m:=ah r1 e.cells.toArray 43 :: (fO g C++[B])) (s3.aA [1,0,2,3,4,5,6,7,8]) h2 hi8) ?_⟩;rintro v w3 ⟨rfl,s4⟩;have s5:=s4.quiet (aD.drew w3 []);let S' : Sx:=bx (fQ S i) i;let Bf:aJ:=Sep [ah r1 e.cells.toArray 43,ah b S'.cells.toArray 114,B];have s6:St w0 w3.drew (Sep (fO g C++[Bf])):=St.mY (m:=[_,_,_]) (s5.aA [2,3,4,5,6,7,1,0,8]);have cl:w3.drew.cell? ⟨b,9,none⟩=some (.pointer (some ⟨g,0,none⟩)):=by
  rw[s5.ag 0 rfl,mI h3];show some (Value.pointer S.k)=_;rw[hk]
 have unf:∀ {w' : World} {C' : Ck},St w0 w' (Sep (fO g C'++[Bf]))->St w0 w' (Sep (eP b S' g C'++[B])):=λ s=>(s.dR [_,_,_,_,_,_]).aA [7,0,1,2,3,4,5,8];have c3:w3.drew.cell? ⟨r1,1,none⟩=some (iv i):=by rw[<- he]; exact s5.ag 1 rfl 1
 refine⟨rfl,_,cl,_,c3,aq (UG s6 hC hi) ?_⟩;rintro v w4 (⟨hd,rfl,s7⟩|⟨hd,rfl,s7⟩)
 ·exact⟨_,rfl,.inl ⟨hd,rfl,unf s7⟩⟩
 ·exact⟨_,rfl,.inr ⟨hd,rfl,unf s7⟩⟩
end
section
variable {w0 w:World} {b g:Nat} {S:Sx} {C:Ck} {B:aJ}
def bN(S:Sx):Nat->Sx
 | 0=>S
 | k+1=>bx (bN S k) k
theorem AJ(h:S.bd.length=8):∀ k,(bN S k).bd.length=8
 | 0=>h
 | k+1=>by have:=AJ h k; simpa[bN,bx] using this
theorem O8(s:St w0 w (Sep (eP b S g C++[B])))(h:S.bd.length=8)(hk:S.k=some ⟨g,0,none⟩)(hC:C.Ok)(e:Ev) :
  CP 96 #[.pointer (some ⟨b,0,none⟩),e.v] w (λ r w'=>(cO C e.round=true/\r=iv 4/\St w0 w' (Sep (eP b S g C++[B])))\/(cO C e.round=false/\r=iv 0/\∃ C',C'.er=(fG C e.round.toNat).er/\St w0 w' (Sep (eP b { bN S 8 with ph:=1 } g C'++[B])))):=by
 refine qq (u1:=e.want) ?_;unfold kR;refine s.aB e.cells.toArray λ r1 w1 s1=>?_;have s2:=s1.quiet (aD.drew w1 []);let Bf:aJ:=Sep [ah r1 e.cells.toArray 43,ah b S.cells.toArray 114,B];have s3:St w0 w1.drew (Sep (fO g C++[Bf])):=St.mY (m:=[_,_,_]) (s2.aA [2,3,4,5,6,7,0,1,8]);have cl:w1.drew.cell? ⟨b,9,none⟩=some (.pointer (some ⟨g,0,none⟩)):=by rw[s2.ag 1 rfl,mI h,hk]
 have unf:∀ {w' : World} {C' : Ck},St w0 w' (Sep (fO g C'++[Bf]))->St w0 w' (Sep (eP b S g C'++[B])):=λ s=>(s.dR [_,_,_,_,_,_]).aA [7,0,1,2,3,4,5,8];refine⟨_,cl,_,s2.ag 0 rfl 2,aq (Sj s3 hC e.round) ?_⟩;rintro v w2 (⟨hr,rfl,s4⟩|⟨hr,rfl,C',eC,s4⟩)
 ·exact⟨_,rfl,cT rfl (.inl ⟨hr,rfl,unf s4⟩)⟩
 ·refine⟨_,rfl,cF rfl ⟨λ i w3 m=>∃ k:Nat,i=k/\k<=8/\m=8-k/\St w0 w3 (Sep (eP b (bN S k) g C'++[B])),⟨8,0,rfl,by omega,by omega,unf s4⟩,?_⟩⟩;rintro w3 m i ⟨k,rfl,hk8,hm,s5⟩ -;have h5:=AJ h k
  by_cases hlt:(k:Int)<8
  ·refine cT (dT hlt) (aq (Eu (m:=fO g C'++[B]) s5 h5 (i:=k) (by omega)) ?_);rintro v w4 ⟨rfl,s6⟩;exact⟨rfl,8-(k+1),by omega,k+1,aH ⟨by omega,by omega⟩,by omega,rfl,s6⟩
  ·obtain rfl:k=8:=by omega
   refine cF (dF hlt) (s5.aM 0 rfl (j:=4) (by rw[eY h5]; omega) rfl λ w4 s6=>.inr ⟨hr,rfl,C',eC,?_⟩);rw[GP h5] at s6;exact s6
end
def Ci(F:I6->Int)(b:I6)(v:Int)(c:Ch):Int:=if c.want=b then v else if F c.want+cost c.p b-cost c.p c.want<v then F c.want+cost c.p b-cost c.p c.want else v
def TO(F:I6->Int)(l:List Ch)(b:I6):Int:=l.foldl (Ci F b) 1000000
theorem QI{l:List Ch}(h:∀ c∈l,c.Ok){q:I6}(hq:I6.Le q 4):∀ {v:Int},0<=v/\v<=24000000->0<=l.foldl (yf q) v/\l.foldl (yf q) v<=24000000:=by
 induction l with
 | nil=>intro v hv; exact hv
 | cons c l ih =>
  intro v hv;rw[List.foldl_cons];refine ih (λ c hc=>h c (by simp[hc])) ?_;have:=mU (h c (by simp)).p hq;unfold yf
  split
  ·split<;>omega
  ·exact hv
theorem QH{l:List Of}(h:∀ x∈l,x.v<=1000000){q:I6}:∀ {v:Int},0<=v/\v<=24000000->0<=l.foldl (DN q) v/\l.foldl (DN q) v<=24000000:=by
 induction l with
 | nil=>intro v hv; exact hv
 | cons c l ih =>
  intro v hv;rw[List.foldl_cons];refine ih (λ c hc=>h c (by simp[hc])) ?_;have:=h c (by simp);unfold DN
  split
  ·split<;>omega
  ·exact hv
theorem QJ{l:List Ch}{bids:List Of}(h:∀ c∈l,c.Ok)(hb:∀ x∈bids,x.v<=1000000){q:I6}(hq:I6.Le q 4):0<=Nj l bids q/\Nj l bids q<=24000000:=QH hb (QI h hq (by decide))
theorem Vx{w:World}{a:OA}{c:Nat}{l:List Ch}(hr:G7 w a l)(hl:l.length<=1000)(ho:∀ c∈l,c.Ok){F:I6->Int}(hF:∀ q,I6.Le q 4->0<=F q/\F q<=24000000){v:Value}(hv:∀ (w' : World) (q:I6) (R:Ending->World->Prop),aD w w' []->I6.Le q 4->(∀ w'',aD w' w'' []->R (.returned (iv (F q))) w'')->eu prog v #[.agg q.vs.toArray] w' R){b:I6}(hb:I6.Le b 4) :
  CP 205 #[.slice a l.length c,v,.agg b.vs.toArray] w (λ r w'=>r=iv (TO F l b)/\aD w w' []):=by
 refine Ax ?_;unfold xz;refine(St.start w).one.aB b.vs.toArray λ r1 w1 s1=>?_;let M:List aJ:=[ah r1 b.vs.toArray 41,emp];refine⟨λ n i w2 m=>∃ k:Nat,i=k/\k<=l.length/\m=l.length-k/\n=(l.take k).foldl (Ci F b) 1000000/\St w w2 (Sep M),⟨l.length,0,rfl,by omega,by omega,rfl,s1⟩,?_⟩;rintro w2 m n i ⟨k,rfl,hk,hm,rfl,s2⟩ -
 by_cases hlt:(k:Int)<(l.length:Int)
 ·have hx:l[k]?=some (l[k]'(by omega)):=gE (by omega);generalize l[k]'(by omega)=y at hx;obtain⟨p,hp,hcl⟩:=(hr.aC s2.aC).at hx;have oy:=ho y (List.mem_of_getElem? hx);have ef:=vT (f:=Ci F b) (a:=1000000) hx;refine cT (dT hlt) ⟨λ n w3=>n=(l.take (k+1)).foldl (Ci F b) 1000000/\St w w3 (Sep M),?_,ay hp ⟨by omega,by omega,y.p,y.want,hcl,s2.aB CY.cells.toArray λ r2 w4 s4=>s4.aE 0 rfl y.cells rfl y.one λ w5 s5=>⟨y.want,cU s5 0 rfl,b,s5.cellsIn 1 rfl,?_⟩⟩⟩
  ·rintro w3 n ⟨rfl,s3⟩ -;exact⟨l.length-(k+1),by omega,k+1,aH ⟨by omega,by omega⟩,by omega,rfl,rfl,s3⟩
  rw[I6.beq_eq]
  by_cases hw:y.want=b
  ·exact cF (by rw[dT hw]; rfl) ⟨by rw[ef,Ci,if_pos hw],s5.aA [1,2]⟩
  ·have s6:=s5.quiet (aD.drew w5 []);refine cT (by rw[dF hw]; rfl) ⟨y.want,cU s6 0 rfl,y.p,xT s6 0 rfl,b,s6.cellsIn 1 rfl,y.p,xT s6 0 rfl,y.want,cU s6 0 rfl,hv _ y.want _ s6.aC oy.w λ w7 c7=>?_⟩;have s7:=s6.quiet c7;refine⟨_,rfl,cU s7 0 rfl,xT s7 0 rfl,s7.cellsIn 1 rfl,xT s7 0 rfl,aq (jI w7 oy.p hb) ?_⟩;rintro x w8 ⟨rfl,c8⟩;have s8:=s7.quiet c8;refine⟨_,rfl,cU s8 0 rfl,xT s8 0 rfl,aq (jI w8 oy.p oy.w) ?_⟩;rintro x w9 ⟨rfl,c9⟩;have h1:=hF y.want oy.w;have h2:=mU oy.p hb;have h3:=mU oy.p oy.w;refine⟨_,rfl,?_,(s8.quiet c9).aA [1,2]⟩;rw[ef,Ci,if_neg hw,aH (n:=F y.want+cost y.p b) ⟨by omega,by omega⟩,aH ⟨by omega,by omega⟩]
 ·obtain rfl:l.length=k:=by omega
  rw[List.take_length];exact cF (dF hlt) ⟨rfl,s2.aC⟩
