import Derived.Test.YtmffhopdpbikgaaGreatDoorE05
set_option linter.unusedVariables false
set_option maxRecDepth 100000
namespace Go.Proofs.YtmffhopdpbikgaaGreatDoor
open Go Go.Vc _root_.Go.Proofs.Tryz
inductive Xv where
 | mk (op:Int) (u:I6) (v:Int) (a:OA) (c:Nat) (args:List Xv)
def Xv.op:Xv->Int|.mk op _ _ _ _ _=>op
def Xv.u:Xv->I6|.mk _ u _ _ _ _=>u
def Xv.v:Xv->Int|.mk _ _ v _ _ _=>v
def Xv.a:Xv->Option Addr|.mk _ _ _ a _ _=>a
def Xv.c:Xv->Nat|.mk _ _ _ _ c _=>c
def Xv.args:Xv->List Xv|.mk _ _ _ _ _ l=>l
def Xv.cells(x:Xv):List Value:=iv x.op :: x.u.on [iv x.v,.slice x.a x.args.length x.c]
theorem Xv.len(x:Xv):x.cells.length=9:=rfl
theorem Xv.one(x:Xv):∀ v∈x.cells,v.oneCell' = true:=by
 intro v hv; simp[Xv.cells,I6.on] at hv; rcases hv with rfl|rfl|rfl|rfl|rfl|rfl|rfl|rfl|rfl<;>rfl
mutual
def Xv.er:Xv->Xv
 | .mk op u v _ _ args=>.mk op u v none 0 (Xv.RP args)
def Xv.RP:List Xv->List Xv
 | []=>[]
 | x :: l=>Xv.er x :: Xv.RP l
end
theorem Xv.E1:∀ l:List Xv,Xv.RP l=l.map Xv.er
 | []=>rfl
 | x :: l=>by rw[Xv.RP,Xv.E1 l]; rfl
theorem Xv.ot(x:Xv):x.er=.mk x.op x.u x.v none 0 (x.args.map Xv.er):=by cases x; rw[Xv.er,Xv.E1]; rfl
inductive Xv.In (w:World):Xv->Prop where
 | mk {x:Xv} (h:cW 9 Xv.cells w x.a x.args) (k:∀ y∈x.args,Xv.In w y):Xv.In w x
theorem Xv.In.fl{w:World}{x:Xv}(h:x.In w):cW 9 Xv.cells w x.a x.args:=by cases h; assumption
theorem Xv.In.sub{w:World}{x:Xv}(h:x.In w):∀ y∈x.args,y.In w:=by cases h; assumption
theorem Xv.In.av{w w' : World}{x:Xv}(h:x.In w)(hc:aA w w' []):x.In w':=by
 induction h with
 | mk h k ih=>exact .mk (h.av hc) ih
def cI:Xv:=.mk 0 z6 0 none 0 []
theorem F8:cI.er=cI:=by rw[Xv.ot]; rfl
theorem Sl:hU prog 58 60 (.agg cI.cells.toArray) 9 88:=hU.mk' underlying58 (by kernel_rfl) rfl (by decide)
abbrev SD (a:OA) (c:Nat) (l:List Xv):aD:=bM 60 9 Xv.cells a c l
abbrev LU (l:List Xv) (w:World):Prop:=∀ x∈l,x.In w
def fM(g:Sc->Xv×Sc)(σ:Sc):Xv×Sc:=if σ.2≠0 then (cI,σ) else g σ
def fN(g:Sc->Xv×Sc):Nat->List Xv->Sc->List Xv×Sc
 | 0,acc,σ=>(acc,σ)
 | n+1,acc,σ=>if nh [44] σ.1 σ.2 then fN g n (acc++[(fM g (σ.acc [44])).1]) (fM g (σ.acc [44])).2 else (acc,σ)
def bN(t:Tk):Int:=if t.k=1 then KC t.t else 1
def wP(σ:Sc):Sc:=if bN (aN σ.1 σ.2)=0 then σ.fail 2 else σ
def JQ(ps:List Pr)(g:Sc->Xv×Sc)(op:Int)(a1:Xv)(σ:Sc):Xv×Sc :=
 if op=2\/op=3 then (.mk op z6 0 none 0 (fN g σ.1.length [a1] σ).1,(fN g σ.1.length [a1] σ).2.exp [41])
 else if op=4 then (.mk op (aU ps (σ.exp [44])).1.1 (aU ps (σ.exp [44])).1.2 none 0 [a1],(aU ps (σ.exp [44])).2.exp [41])
 else if op=5 then (.mk op z6 (uv 1000000 (σ.exp [44]).1 (σ.exp [44]).2) none 0 [a1],((σ.exp [44]).qG 1000000).exp [41])
 else (.mk op z6 0 none 0 [a1],σ.exp [41])
def zS(σ:Sc):Sc:=(wP σ).next.exp [40]
def fF(ps:List Pr):Nat->Sc->Xv×Sc
 | 0,σ=>(cI,σ)
 | f+1,σ =>
  if bN (aN σ.1 σ.2)=1 then (.mk 1 (aU ps (wP σ)).1.1 (aU ps (wP σ)).1.2 none 0 [],(aU ps (wP σ)).2)
  else JQ ps (fF ps f) (bN (aN σ.1 σ.2)) (fM (fF ps f) (zS σ)).1 (fM (fF ps f) (zS σ)).2
theorem uM(m:List UInt8)(σ:Sc):(σ.exp m).1.length<=σ.1.length:=cC _ _ _
theorem Ej(ps:List Pr):∀ (f:Nat) (b:I6) (σ:Sc),(tR ps f b σ).2.1.length<=σ.1.length
 | 0,_,_=>Nat.le_refl _
 | f+1,b,σ=>by
  rw[tR]
  split
  ·exact Nat.le_trans (Ej ps f _ _) (Nat.le_trans (BQ _ _ _) (cC _ _ _))
  ·exact Nat.le_refl _
theorem Nu(ps:List Pr)(σ:Sc):(jN ps σ).2.1.length<=σ.1.length:=by
 unfold jN
 split
 ·exact Nat.le_refl _
 ·split
  ·exact Nat.le_trans (cC _ _ _) (cC _ _ _)
  ·have h1:(Eh ps (σ.exp [123])).2.1.length<=(tR ps (fh ps z6 (σ.exp [123])).2.1.length (fh ps z6 (σ.exp [123])).1 (fh ps z6 (σ.exp [123])).2).2.1.length:=by
    unfold Eh Ei
    split
    ·exact cC _ _ _
    ·exact cC _ _ _
   exact Nat.le_trans h1 (Nat.le_trans (Ej ps _ _ _) (Nat.le_trans (BQ _ _ _) (cC _ _ _)))
theorem P3(σ:Sc):(Na σ).1.length<=σ.1.length:=by unfold Na; split; exact Nat.le_refl _; split; exact Nat.le_refl _; exact Nat.le_refl _
theorem pW(ps:List Pr)(σ:Sc):(aU ps σ).2.1.length<=σ.1.length :=
 Nat.le_trans (xP _ _ _) (Nat.le_trans (cC _ _ _) (Nat.le_trans (Nu _ _) (P3 _)))
theorem E3(σ:Sc):(wP σ).1.length<=σ.1.length:=by unfold wP; split; exact Nat.le_refl _; exact Nat.le_refl _
theorem E4(σ:Sc):(zS σ).1.length<=σ.1.length:=Nat.le_trans (cC _ _ _) (Nat.le_trans (xC _ _) (E3 σ))
section
variable {g:Sc->Xv×Sc} (hg:∀ σ,(g σ).2.1.length<=σ.1.length)
include hg
theorem xu(σ:Sc):(fM g σ).2.1.length<=σ.1.length:=by unfold fM; split; exact Nat.le_refl _; exact hg _
theorem CZ:∀ (n:Nat) (acc:List Xv) (σ:Sc),(fN g n acc σ).2.1.length<=σ.1.length
 | 0,_,_=>Nat.le_refl _
 | n+1,acc,σ=>by
  rw[fN]
  split
  ·exact Nat.le_trans (CZ n _ _) (Nat.le_trans (xu hg _) (cC _ _ _))
  ·exact Nat.le_refl _
theorem Pm(ps:List Pr)(op:Int)(a1:Xv)(σ:Sc):(JQ ps g op a1 σ).2.1.length<=σ.1.length:=by
 unfold JQ
 split
 ·exact Nat.le_trans (cC _ _ _) (CZ hg _ _ _)
 ·split
  ·exact Nat.le_trans (cC _ _ _) (Nat.le_trans (pW _ _) (cC _ _ _))
  ·split
   ·exact Nat.le_trans (cC _ _ _) (Nat.le_trans (xP _ _ _) (cC _ _ _))
   ·exact cC _ _ _
end
theorem BR(ps:List Pr):∀ (f:Nat) (σ:Sc),(fF ps f σ).2.1.length<=σ.1.length
 | 0,_=>Nat.le_refl _
 | f+1,σ=>by
  rw[fF]
  split
  ·exact Nat.le_trans (pW _ _) (E3 σ)
  ·exact Nat.le_trans (Pm (BR ps f) _ _ _ _) (Nat.le_trans (xu (BR ps f) _) (E4 σ))
theorem Pq{m:List UInt8}{σ:Sc}(h:(σ.exp m).2=0):σ.2=0:=by
 unfold Sc.exp JU at h;simp only at h
 split at h
 ·exact h
 ·unfold sy mM at h
  split at h
  ·assumption
  ·exact h
theorem JN{σ:Sc}(h1:bN (aN σ.1 σ.2)≠1)(h:(zS σ).2=0):(zS σ).1.length<σ.1.length:=by
 have h2:(wP σ).2=0:=Pq (σ:=(wP σ).next) h;have h3:bN (aN σ.1 σ.2)≠0:=λ h0=>by
  unfold wP at h2;rw[if_pos h0] at h2;unfold Sc.fail mM at h2;simp only at h2
  split at h2
  ·cases h2
  ·rename_i hn; exact hn h2
 have e1:wP σ=σ:=by rw[wP,if_neg h3]
 have hk:(aN σ.1 σ.2).k=1:=by
  unfold bN at h1
  split at h1
  ·assumption
  ·exact absurd rfl h1
 rw[e1] at h2;have hlt:(fo σ.1 σ.2).length<σ.1.length:=by
  rw[fo,if_pos h2];rw[aN,if_pos h2] at hk
  cases hl:σ.1 with
  | nil=>rw[hl] at hk; cases hk
  | cons x l=>simp
 rw[zS,e1];exact Nat.lt_of_le_of_lt (cC _ _ _) hlt
end Go.Proofs.YtmffhopdpbikgaaGreatDoor
namespace Go.Vc
open Go
def Hh(es:Array MapEntry)(ks:List Int):Prop:=es.toList.map (·.key)=ks.map iv/\∀ e∈es.toList,e.val=.bool true
def zq(r:Nat)(ks:List Int):aD:=Oa λ (x:{ p:Array MapEntry×Nat // Hh p.1 ks })=>bg r (.map x.1.1 x.1.2)
theorem oA(k:Int):∀ (es:List MapEntry) (ks:List Int) (i:Nat),es.map (·.key)=ks.map iv->(∀ e∈es,e.val=.bool true) ->
  (k∈ks/\∃ j,Instr.findNow (.int .i64) (iv k) es i=some (some (j,.bool true)))\/(k∉ks/\Instr.findNow (.int .i64) (iv k) es i=some none)
 | [],[],_,_,_=>.inr ⟨by simp,rfl⟩
 | e :: es,x :: ks,i,h,hv=>by
  simp only[List.map_cons,List.cons.injEq] at h;have hs:Instr.sameNow (.int .i64) (iv k) e.key=some (k==x):=by rw[h.1]; simp[Instr.sameNow]
  by_cases hkx:k=x
  ·subst hkx;refine .inl ⟨by simp,i,?_⟩;have:=hv e (by simp);simp[Instr.findNow,hs,this]
  ·have hb:(k==x)=false:=by simpa using hkx
   rcases oA k es ks (i+1) h.2 (λ e he=>hv e (by simp[he])) with⟨h1,j,h2⟩|⟨h1,h2⟩
   ·exact .inl ⟨by simp[h1],j,by simp[Instr.findNow,hs,hb,h2]⟩
   ·exact .inr ⟨by simp[h1,hkx],by simp[Instr.findNow,hs,hb,h2]⟩
 | [],_ :: _,_,h,_=>by simp at h
 | _ :: _,[],_,h,_=>by simp at h
structure RN (P:Program) (t k e:TypeId) (z:Value):Prop where
 u:P.underlying t=some (.map k e)
 z:(P.info? e).bind (·.zero)=some z
section
variable {P:Program} {t kt et:TypeId} {w0 w:World} {B:aD} {r:Nat} {ks:List Int}
theorem eH(hk:P.underlying kt=some (.int .i64))(b:Bool)(n:Nat)(k:Int)(w:World):(Instr.checkKey b (n+1) kt (iv k)).run P w=.ok () w:=by
 simp[Instr.checkKey,aC hk]
theorem yU(hT:RN P t kt et (.bool false))(hk:P.underlying kt=some (.int .i64))(s:St w0 w (star (zq r ks) B))(k:Int){R:Bool->World->Prop}(h:R (decide (k∈ks)) w) :
  aP P (Instr.lookup t (.map (some r)) (iv k) false) w λ e w'=>∃ b:Bool,e=.bool b/\R b w':=by
 obtain⟨⟨⟨es,cl⟩,h1,h2⟩,s'⟩:=s.ex;have ho:w.heap[r]?=some (.map es cl):=s'.obj;have hz:(zeroValue et).run P w=.ok (.bool false) w:=by
  have:=hT.z
  cases hi:P.info? et with
  | none=>simp[hi] at this
  | some i=>simp[hi] at this; simp[zeroValue,typeInfo,hi,this]
 have hc:=eH (P:=P) hk es.isEmpty 9999 k w;rcases oA k es.toList ks 0 h1 h2 with⟨hm,j,hf⟩|⟨hm,hf⟩
 ·refine⟨.bool true,w,?_,true,rfl,by rwa [decide_eq_true hm] at h⟩;simp[Instr.lookup,aC hT.u,Instr.findKey,aC hk,hf,ho,hc,getObj,Sem.run]
 ·refine⟨.bool false,w,?_,false,rfl,by rwa [decide_eq_false hm] at h⟩;simp[Instr.lookup,aC hT.u,Instr.findKey,aC hk,hf,ho,hc,hz,getObj,Sem.run]
theorem A3(hT:RN P t kt et (.bool false))(hk:P.underlying kt=some (.int .i64))(s:St w0 w (star (zq r ks) B))(k:Int)(hn:k∉ks){R:World->Prop}(h:∀ w',aA w w' [r]->St w0 w' (star (zq r (ks++[k])) B)->R w'):aP P (Instr.mapUpdate t (.map (some r)) (iv k) (.bool true)) w λ _ w'=>R w':=by
 obtain⟨⟨⟨es,cl⟩,h1,h2⟩,s'⟩:=s.ex;have ho:w.heap[r]?=some (.map es cl):=s'.obj;have hc:=eH (P:=P) hk false 9999 k w;rcases oA k es.toList ks 0 h1 h2 with⟨hm,_⟩|⟨hm,hf⟩
 ·exact absurd hm hn
 ·have hs:=s'.put (.map (es.push { key:=iv k,val:=.bool true,born:=cl }) (cl+1));have hr:(Instr.mapUpdate t (.map (some r)) (iv k) (.bool true)).run P w=.ok () { w with heap:=w.heap.setIfInBounds r (.map (es.push { key:=iv k,val:=.bool true,born:=cl }) (cl+1)) }:=by
   simp[Instr.mapUpdate,aC hT.u,Instr.findKey,aC hk,hf,ho,hc,setObj,getObj,Sem.run]
  refine⟨_,_,hr,h _ (aA.put w r _ (by simp)) (St.qx (f:=λ (x:{ p:Array MapEntry×Nat // Hh p.1 (ks++[k]) })=>bg r (.map x.1.1 x.1.2)) ⟨(_,_),?_,?_⟩ hs)⟩
  ·simp[h1]
  ·intro e he;have he' : e∈es.toList++[{ key:=iv k,val:=.bool true,born:=cl }]:=by simpa using he
   rcases List.mem_append.1 he' with he|he
   ·exact h2 e he
   ·rw[List.mem_singleton.1 he]
theorem Di{ty:TypeId}(hT:RN P t kt et (.bool false))(s:St w0 w (star (zq r ks) B)){R:World->Prop}(h:∀ w',aA w w' [r]->St w0 w' (star (zq r []) B)->R w') :
  aP P (Builtin.clear_ #[t] ty #[.map (some r)]) w λ _ w'=>R w':=by
 obtain⟨⟨⟨es,cl⟩,h1,h2⟩,s'⟩:=s.ex;have ho:w.heap[r]?=some (.map es cl):=s'.obj;have hs:=s'.put (.map #[] cl);have hr:(Builtin.clear_ #[t] ty #[.map (some r)]).run P w=.ok (.tuple #[]) { w with heap:=w.heap.setIfInBounds r (.map #[] cl) }:=by
  simp[Builtin.clear_,aC hT.u,ho,setObj,getObj,Sem.run]
 exact⟨_,_,hr,h _ (aA.put w r _ (by simp)) (St.qx (f:=λ (x:{ p:Array MapEntry×Nat // Hh p.1 [] })=>bg r (.map x.1.1 x.1.2)) ⟨(_,_),by simp,by simp⟩ hs)⟩
theorem kU{t' : TypeId}(s:St w0 w B){R:Option Nat->World->Prop}(h:∀ r w',aA w w' []->St w0 w' (star (bg r (.map #[] 0)) B)->R (some r) w'):aP P (Instr.makeMap t' none) w λ e w'=>∃ m:Option Nat,e=.map m/\R m w':=by
 refine⟨_,_,?_,_,rfl,h _ _ (aA.new w (.map #[] 0) []) (s.newObj (.map #[] 0)).swap⟩;simp[Instr.makeMap,newObj,Sem.run]
theorem St.RI(s:St w0 w (star (bg r (.map #[] 0)) B)):St w0 w (star (zq r []) B) :=
 St.qx (f:=λ (x:{ p:Array MapEntry×Nat // Hh p.1 [] })=>bg r (.map x.1.1 x.1.2)) ⟨(#[],0),by simp,by simp⟩ s
end
end Go.Vc
namespace Go.Vc
structure Lo where
 v:Nat->Int
 f:Nat->Int
 lr:Nat->Nat
 ch:Int
def p5{α:Type}(f:Nat->α)(i:Nat)(x:α):Nat->α:=λ j=>if j=i then x else f j
theorem cw{α:Type}(f:Nat->α)(i:Nat)(x:α):p5 f i x i=x:=if_pos rfl
theorem fA{α:Type}(f:Nat->α){i j:Nat}(x:α)(h:j≠i):p5 f i x j=f j:=if_neg h
theorem B4{α:Type}(f:Nat->α)(n i:Nat)(x:α):((List.range n).map f).set i x=(List.range n).map (p5 f i x):=by
 refine List.ext_getElem? λ j=>?_;rw[List.getElem?_set,List.length_map,List.length_range,List.getElem?_map,List.getElem?_map]
 by_cases h:i=j
 ·subst h;rw[if_pos rfl]
  by_cases hl:i<n
  ·rw[if_pos hl,List.getElem?_range hl,Option.map_some,cw]
  ·rw[if_neg hl,List.getElem?_eq_none (by simpa using hl),Option.map_none]
 ·rw[if_neg h]
  cases hj:(List.range n)[j]? with
  | none=>rfl
  | some k =>
   have:k=j:=by
    obtain⟨hl,e⟩:=List.getElem?_eq_some_iff.1 hj;simpa using e.symm
   subst this;rw[Option.map_some,Option.map_some,fA _ _ (Ne.symm h)]
def QI:Lo:=⟨λ _=>0,λ _=>-1,λ _=>0,-1⟩
def I7(g:Nat->Nat->Int)(r a b:Nat)(t:Lo):Lo:=if t.v a+g a b<t.v b then { v:=p5 t.v b (t.v a+g a b),f:=p5 t.f b a,lr:=p5 t.lr b r,ch:=b } else t
def Oj(g:Nat->Nat->Int)(r a:Nat):Nat->Lo->Lo
 | 0,t=>t
 | b+1,t=>I7 g r a b (Oj g r a b t)
def Oi(g:Nat->Nat->Int)(n r:Nat):Nat->Lo->Lo
 | 0,t=>t
 | a+1,t=>Oj g r a n (Oi g n r a t)
def Om(g:Nat->Nat->Int)(n r:Nat)(s:Lo):Lo:=Oi g n r n { s with ch:=-1 }
def PF(g:Nat->Nat->Int)(n:Nat):Nat->Nat->Lo->Lo
 | 0,_,s=>s
 | k+1,r,s=>if (Om g n (r+1) s).ch<0 then Om g n (r+1) s else PF g n k (r+1) (Om g n (r+1) s)
def tu(g:Nat->Nat->Int)(n:Nat):Lo:=PF g n n 0 QI
structure Gd (g:Nat->Nat->Int) (n:Nat) (G T:Int) (r a b:Nat) (s:Lo):Prop where
 lo:∀ x,x<n->-(G*(T+1))<=s.v x/\s.v x<=0
 la:a<n->-(G*T)<=s.v a
 lr:∀ x,x<n->s.lr x<=r
 f:∀ y,y<n->(s.f y=-1/\s.lr y=0)\/∃ p,p<n/\s.f y=(p:Int)/\1<=s.lr y/\s.lr y<=s.lr p+1
 ch:s.ch<0\/∃ c,c<n/\s.ch=(c:Int)/\s.lr c=r
 dn:∀ x,x<n->x<a->s.lr x<r->∀ y,y<n->s.v y<=s.v x+g x y
 nx:∀ x,x<n->a<=x->s.lr x+1<r->∀ y,y<n->s.v y<=s.v x+g x y
 cu:a<n->∀ y,y<b->s.v y<=s.v a+g a y
structure HB (g:Nat->Nat->Int) (n:Nat) (G T:Int) (r a:Nat) (s:Lo):Prop where
 i:Gd g n G T r a 0 s
 b:∀ x,x<n->-(G*T)<=s.v x
section
variable {g:Nat->Nat->Int} {n:Nat} {G T:Int} {r a b:Nat} {s:Lo}
theorem Gd.Oq(h:Gd g n G T r n 0 s)(hb:∀ x,x<n->-(G*T)<=s.v x):Gd g n G T (r+1) 0 0 { s with ch:=-1 } :=
 ⟨h.lo,λ hn=>hb 0 hn,λ x hx=>Nat.le_succ_of_le (h.lr x hx),h.f,.inl (show(-1:Int)<0 by decide),λ x _ hx=>absurd hx (Nat.not_lt_zero x),λ x hx _ hl y hy=>h.dn x hx hx (Nat.lt_of_succ_lt_succ hl) y hy,λ _ y hy=>absurd hy (Nat.not_lt_zero y)⟩
theorem Gd.I7(h:Gd g n G T r a b s)(g0:∀ a,g a a=0)(gb:∀ a b,a<n->b<n->-G<=g a b/\g a b<=G)(hr:1<=r)(ha:a<n)(hb:b<n):Gd g n G T r a (b+1) (I7 g r a b s):=by
 unfold Vc.I7
 split
 ·rename_i hlt;have hab:a≠b:=λ e=>by subst e; rw[g0 a] at hlt; omega
  have hra:r<=s.lr a+1:=by
   rcases Nat.lt_or_ge (s.lr a+1) r with h1|h1
   ·have:=h.nx a ha (Nat.le_refl a) h1 b hb;omega
   ·exact h1
  have vb:∀ x,p5 s.v b (s.v a+g a b) x<=s.v x:=λ x=>by
   by_cases e:x=b
   ·subst e; rw[cw]; omega
   ·rw[fA _ _ e]; exact Int.le_refl _
  have va:p5 s.v b (s.v a+g a b) a=s.v a:=fA _ _ hab;refine⟨λ x hx=>?_,λ _=>?_,λ x hx=>?_,λ y hy=>?_,.inr ⟨b,hb,rfl,cw _ _ _⟩,λ x hx hxa hl y hy=>?_,λ x hx hxa hl y hy=>?_,λ _ y hy=>?_⟩
  ·show -(G*(T+1))<=p5 s.v b _ x/\p5 s.v b _ x<=0;have h0:=h.lo x hx;have h1:=vb x;refine⟨?_,by omega⟩
   by_cases e:x=b
   ·subst e;rw[cw];have h2:=h.la ha;have h3:=(gb a x ha hx).1;rw[Int.mul_add,Int.mul_one];omega
   ·rw[fA _ _ e]; exact h0.1
  ·show -(G*T)<=p5 s.v b _ a;rw[va]; exact h.la ha
  ·show p5 s.lr b r x<=r
   by_cases e:x=b
   ·subst e; rw[cw]; exact Nat.le_refl _
   ·rw[fA _ _ e]; exact h.lr x hx
  ·show(p5 s.f b (a:Int) y=-1/\p5 s.lr b r y=0)\/∃ p,p<n/\p5 s.f b (a:Int) y=(p:Int)/\1<=p5 s.lr b r y/\p5 s.lr b r y<=p5 s.lr b r p+1;have up:∀ p,p<n->s.lr p<=p5 s.lr b r p:=λ p hp=>by
    by_cases e:p=b
    ·subst e; rw[cw]; exact h.lr p hp
    ·rw[fA _ _ e]; exact Nat.le_refl _
   by_cases e:y=b
   ·subst e;rw[cw,cw];exact .inr ⟨a,ha,rfl,hr,by have:=up a ha; omega⟩
   ·rw[fA _ _ e,fA _ _ e];rcases h.f y hy with h1|⟨p,hp,h1,h2,h3⟩
    ·exact .inl h1
    ·exact .inr ⟨p,hp,h1,h2,by have:=up p hp; omega⟩
  ·show p5 s.v b _ y<=p5 s.v b _ x+g x y;have hl:p5 s.lr b r x<r:=hl;have e:x≠b:=λ e=>by subst e; rw[cw] at hl; omega
   rw[fA _ _ e] at hl;rw[fA (i:=b) (j:=x) _ _ e];have:=h.dn x hx hxa hl y hy;have:=vb y;omega
  ·show p5 s.v b _ y<=p5 s.v b _ x+g x y;have hl:p5 s.lr b r x+1<r:=hl;have e:x≠b:=λ e=>by subst e; rw[cw] at hl; omega
   rw[fA _ _ e] at hl;rw[fA (i:=b) (j:=x) _ _ e];have:=h.nx x hx hxa hl y hy;have:=vb y;omega
  ·show p5 s.v b _ y<=p5 s.v b _ a+g a y;rw[va]
   by_cases e:y=b
   ·subst e; rw[cw]; exact Int.le_refl _
   ·have:=h.cu ha y (by omega);have:=vb y;omega
 ·rename_i hlt;exact⟨h.lo,h.la,h.lr,h.f,h.ch,h.dn,h.nx,λ _ y hy=>by
   by_cases e:y=b
   ·subst e; omega
   ·exact h.cu ha y (by omega)⟩
theorem Gd.Oj(h:Gd g n G T r a 0 s)(g0:∀ a,g a a=0)(gb:∀ a b,a<n->b<n->-G<=g a b/\g a b<=G)(hr:1<=r)(ha:a<n):∀ b,b<=n->Gd g n G T r a b (Oj g r a b s)
 | 0,_=>h
 | b+1,hb=>(Gd.Oj h g0 gb hr ha b (Nat.le_of_succ_le hb)).I7 g0 gb hr ha hb
theorem Gd.Rm(h:Gd g n G T r a n s)(hG:0<=G)(ha:a<n):HB g n G (T+1) r (a+1) s:=by
 have e:G*(T+1+1)=G*(T+1)+G:=by rw[Int.mul_add G (T+1),Int.mul_one]
 refine⟨⟨λ x hx=>?_,λ hx=>(h.lo (a+1) hx).1,h.lr,h.f,h.ch,λ x hx hxa hl y hy=>?_,λ x hx hxa hl y hy=>h.nx x hx (by omega) hl y hy,λ _ y hy=>absurd hy (Nat.not_lt_zero y)⟩,λ x hx=>(h.lo x hx).1⟩
 ·have:=h.lo x hx;rw[e];omega
 ·by_cases e:x=a
  ·subst e; exact h.cu hx y hy
  ·exact h.dn x hx (by omega) hl y hy
theorem HB.Oi(h:HB g n G T r 0 s)(hG:0<=G)(g0:∀ a,g a a=0)(gb:∀ a b,a<n->b<n->-G<=g a b/\g a b<=G)(hr:1<=r):∀ a,a<=n->HB g n G (T+(a:Int)) r a (Oi g n r a s)
 | 0,_=>by rw[show T+((0:Nat):Int)=T by omega]; exact h
 | a+1,ha=>by
  have ih:=HB.Oi h hG g0 gb hr a (Nat.le_of_succ_le ha);have:=(ih.i.Oj g0 gb hr ha n (Nat.le_refl n)).Rm hG ha;rw[show T+((a+1:Nat):Int)=T+(a:Int)+1 by omega];exact this
theorem Oh(hG:0<=G):HB g n G 0 0 n QI:=by
 refine⟨⟨λ x _=>?_,λ h=>absurd h (Nat.lt_irrefl n),λ _ _=>Nat.le_refl 0,λ _ _=>.inl ⟨rfl,rfl⟩,.inl (show(-1:Int)<0 by decide),λ _ _ _ h=>absurd h (Nat.lt_irrefl 0),λ _ _ _ h=>absurd h (Nat.not_lt_zero _),λ h=>absurd h (Nat.lt_irrefl n)⟩,λ x _=>?_⟩
 ·show -(G*(0+1))<=0/\(0:Int)<=0;rw[Int.zero_add,Int.mul_one]; omega
 ·show -(G*0)<=0;rw[Int.mul_zero]; omega
theorem Ol(hG:0<=G)(g0:∀ a,g a a=0)(gb:∀ a b,a<n->b<n->-G<=g a b/\g a b<=G):∀ (k r:Nat) (T:Int) (s:Lo),r+k=n->HB g n G T r n s->∃ r' T',HB g n G T' r' n (PF g n k r s)/\(0<=(PF g n k r s).ch->r' = n)
 | 0,r,T,s,hk,h=>⟨r,T,h,λ _=>hk⟩
 | k+1,r,T,s,hk,h=>by
  have h1:HB g n G T (r+1) 0 { s with ch:=-1 }:=⟨h.i.Oq h.b,h.b⟩;have h2:HB g n G (T+(n:Int)) (r+1) n (Om g n (r+1) s):=h1.Oi hG g0 gb (by omega) n (Nat.le_refl n);unfold PF
  split
  ·rename_i hc;exact⟨r+1,_,h2,λ h=>absurd h (by omega)⟩
  ·exact Ol hG g0 gb k (r+1) _ _ (by omega) h2
theorem HZ(hG:0<=G)(g0:∀ a,g a a=0)(gb:∀ a b,a<n->b<n->-G<=g a b/\g a b<=G):∃ r T,HB g n G T r n (tu g n)/\(0<=(tu g n).ch->r=n) :=
 Ol hG g0 gb n 0 0 QI (by omega) (Oh hG)
end
end Go.Vc
namespace Go.Proofs.YtmffhopdpbikgaaGreatDoor
open Go Go.Vc _root_.Go.Proofs.Tryz
structure Jb (w:World) (s:Se):Prop where
 i:s.In w
 o:s.Ok
theorem Jb.av{w w' : World}{s:Se}(h:Jb w s)(hc:aA w w' []):Jb w' s:=⟨h.i.av hc,h.o⟩
theorem Je{w:World}{s:Se}(h:Jb w s){n:Nat}{b:Br}(hb:s.bd[n]?=some b){c:Ch}(hc:c.Ok) :
  CP 120 #[.agg s.arr,iv n,c.v] w (λ r w'=>r=iv (CS b c)/\aA w w' []):=by
 refine lM ?_;unfold gG;have hn:=(List.getElem?_eq_some_iff.1 hb).1;refine(St.start w).one.ax s.arr λ r1 w1 s1=>s1.ax c.cells.toArray λ r2 w2 s2=>⟨_,_,_,_,_,_,_,_,_,_,_,_,s2.cellsIn 1 rfl,aj (J6 (s:=s) n) ?_⟩;rintro v w3 ⟨rfl,c3⟩;have s3:=s2.quiet c3;obtain⟨q,hq,hcl⟩:=Js ((h.av s3.av).i.bd) hb 2 _ rfl;refine⟨_,rfl,cF (by simp; omega) ⟨_,_,_,s3.ag 1 rfl 1,?_⟩⟩;rw[hq];refine⟨by omega,by omega,_,hcl,λ g w4=>g=decide (b.bud≠0/\b.bud<cost c.p c.want)/\aA w w4 [],?_,?_⟩
 ·rintro w4 g ⟨rfl,c4⟩ -
  by_cases hg:b.bud≠0/\b.bud<cost c.p c.want
  ·exact cT (dT hg) ⟨by rw[CS,if_pos hg],c4⟩
  ·exact cF (dF hg) ⟨by rw[CS,if_neg hg],c4⟩
 ·by_cases h0:b.bud=0
  ·exact cF (by simp[h0]) ⟨by simp[h0],s3.av⟩
  ·refine cT (by simpa using h0) ⟨_,uG s3 0 rfl,_,bJ s3 0 rfl,aj (fS w3 hc.p hc.w) ?_⟩;rintro v w5 ⟨rfl,c5⟩;exact⟨_,rfl,by simp[h0],(s3.quiet c5).av⟩
def AH(l:List Ch):Bool:=(l.getLast?.map λ c=>decide (c.want=z6)).getD false
theorem JT{w:World}{a:OA}{c:Nat}{l:List Ch}(h:CN w a l)(hl:l.length<=1000):CP 173 #[.slice a l.length c] w (λ r w'=>r=.bool (AH l)/\w' = w):=by
 refine rq ?_;unfold mF
 by_cases h0:l.length=0
 ·have:l=[]:=List.eq_nil_of_length_eq_zero h0;subst this;exact cF rfl ⟨rfl,rfl⟩
 ·have hx:l[l.length-1]?=some (l[l.length-1]'(by omega)):=gE (by omega);have hlast:l.getLast? = some (l[l.length-1]'(by omega)):=by rw[List.getLast?_eq_getElem?,hx]
  generalize l[l.length-1]'(by omega)=x at hx hlast;obtain⟨q,hq,hcl⟩:=h.at hx;rw[hq];have e:IntKind.i64.wrap ((l.length:Int)-1)=((l.length-1:Nat):Int):=by rw[aB ⟨by omega,by omega⟩]; omega
  rw[e];refine cT (dT (by omega)) ⟨by omega,by omega,x.want,?_,?_,rfl⟩
  ·refine aY _ 0 λ j v hj=>?_;have h6:j<6:=(List.getElem?_eq_some_iff.1 hj).1;have:=aL hcl (6+j) v (by
    match j,h6,hj with
    | 0,_,hj|1,_,hj|2,_,hj|3,_,hj|4,_,hj|5,_,hj=>simpa[Ch.cells,I6.on,I6.vs] using hj)
   rw[Nat.zero_add] at this;rw[Addr.add_add,Nat.zero_add,Int.toNat_natCast];exact this
  ·rw[AH,hlast]; simp[I6.beq_eq]
def I2(s:Se)(n:Int)(a:OA)(c:Nat)(l:List Ch):List Value:=[.slice s.a1 s.ps.length s.c1,.slice s.a2 s.bd.length s.c2,.slice s.a3 s.cp.length s.c3,.slice s.a4 s.sa.length s.c4,iv n,.slice a l.length c]
theorem J9{w0 w:World}{s:Se}{n:Int}{a:OA}{c:Nat}{l:List Ch}{ls:List aD}{r:Nat}{T:TypeId}(h:St w0 w (Sep ls))(i:Nat)(e:ls[i]?=some (ai r (I2 s n a c l).toArray T)):af w ⟨r,0,none⟩ 0 s.arr.toList :=
 aY _ 0 λ j v hj=>by
  have h6:j<4:=(List.getElem?_eq_some_iff.1 hj).1;rw[bw,Nat.zero_add,Nat.zero_add,h.ag i e]
  match j,h6,hj with
  | 0,_,hj|1,_,hj|2,_,hj|3,_,hj=>simpa[I2,Se.arr] using hj
theorem AN{w:World}{s:Se}(h:Jb w s){n:Int}{a:OA}{k:Nat}{l:List Ch}{c:Ch}(hc:c.Ok) :
  CP 211 #[.agg (I2 s n a k l).toArray,c.v] w (λ r w'=>r=iv (KK s.ps c.want)/\aA w w' []):=by
 refine ig ?_;unfold dN;refine(St.start w).one.ax (I2 s n a k l).toArray λ r1 w1 s1=>s1.ax c.cells.toArray λ r2 w2 s2=>⟨_,_,_,s2.ag 1 rfl 0,_,bJ s2 0 rfl,aj (KI ((h.av s2.av).i.ps) h.i.h1 h.o.ps hc.w) ?_⟩;rintro v w3 ⟨rfl,c3⟩;exact⟨_,rfl,rfl,(s2.quiet c3).av⟩
def Gu(s:Se)(b:Br)(l:List Ch):Int:=l.foldl (λ m c=>if KK s.ps c.want<m then KK s.ps c.want else m) b.pts
theorem Ph{w:World}{s:Se}(h:Jb w s){n:Nat}{b:Br}(hb:s.bd[n]?=some b){a:OA}{k:Nat}{l:List Ch}(hr:CN w a l)(hl:l.length<=1000)(ho:∀ c∈l,c.Ok) :
  CP 212 #[.agg s.arr,iv n,.slice a l.length k] w (λ r w'=>r=iv (Gu s b l)/\aA w w' []):=by
 refine kg ?_;unfold fK;have hn:=(List.getElem?_eq_some_iff.1 hb).1;refine(St.start w).one.ax s.arr λ r1 w1 s1=>⟨_,_,_,_,_,_,_,_,_,_,_,_,s1.cellsIn 0 rfl,aj (J6 (s:=s) n) ?_⟩;rintro v w2 ⟨rfl,c2⟩;have s2:=(s1.quiet c2).quiet (aA.drew w2 []);obtain⟨q,hq,hcl⟩:=Js ((h.av s2.av).i.bd) hb 3 _ rfl;refine⟨_,rfl,cF (by simp; omega) ⟨_,_,_,_,_,_,_,_,_,_,_,_,s2.cellsIn 0 rfl,_,_,_,s2.ag 0 rfl 1,?_⟩⟩;refine ak hq ⟨by omega,by omega,_,hcl,λ m n4 w3 x=>∃ j:Nat,n4=j/\j<=l.length/\x=l.length-j/\m=Gu s b (l.take j)/\St w w3 (Sep [ai r1 s.arr 75,emp]),⟨l.length,0,rfl,by omega,by omega,rfl,s2⟩,?_⟩;rintro w3 x m n4 ⟨j,rfl,hj,hx',rfl,s3⟩ -
 by_cases hlt:(j:Int)<(l.length:Int)
 ·have hx:l[j]?=some (l[j]'(by omega)):=gE (by omega);generalize l[j]'(by omega)=y at hx;obtain⟨q2,rfl,hcl2⟩:=(hr.av s3.av).at hx;refine cT (by simpa using hlt) ⟨by omega,by omega,y.p,y.want,hcl2,s3.ax Ai.cells.toArray λ r2 w4 s4=>s4.ay 0 rfl y.cells rfl y.one λ w5 s5=>⟨y.p,y.want,s5.cellsIn 0 rfl,?_⟩⟩;have hp:=AN (n:=(n:Int)) (a:=some q2) (k:=k) (l:=l) (h.av s5.av) (ho y (List.mem_of_getElem? hx));refine aj hp ?_;rintro v w6 ⟨rfl,c6⟩;refine⟨_,rfl,l.length-(j+1),by omega,j+1,aB ⟨by omega,by omega⟩,by omega,rfl,?_,(s5.quiet c6).au [1,2]⟩;rw[aG hx]; unfold Gu; rw[List.foldl_append,List.foldl_cons,List.foldl_nil]
 ·obtain rfl:j=l.length:=by omega
  exact cF (by simp) ⟨by rw[List.take_length],s3.av⟩
def Dw(s:Se)(b:Br)(l:List Ch)(c:Ch):Bool:=decide (KK s.ps c.want<=Gu s b l)
theorem GB{w:World}{s:Se}(h:Jb w s){n:Nat}{b:Br}(hb:s.bd[n]?=some b){a:OA}{k:Nat}{l:List Ch}(hr:CN w a l)(hl:l.length<=1000)(ho:∀ c∈l,c.Ok){c:Ch}(hc:c.Ok) :
  CP 170 #[.agg (I2 s n a k l).toArray,c.v] w (λ r w'=>r=.bool (Dw s b l c)/\aA w w' []):=by
 refine jW ?_;unfold fe;refine(St.start w).one.ax (I2 s n a k l).toArray λ r1 w1 s1=>s1.ax c.cells.toArray λ r2 w2 s2=>?_;have s3:=s2.quiet (aA.drew w2 []);refine⟨_,_,_,_,_,_,_,_,_,_,_,_,_,_,_,_,s3.cellsIn 1 rfl,c.p,c.want,s3.cellsIn 0 rfl,_,_,_,_,_,_,_,_,_,_,_,_,J9 s3 1 rfl,_,s3.ag 1 rfl 4,_,_,_,s3.ag 1 rfl 5,aj (AN (n:=n) (a:=a) (k:=k) (l:=l) (h.av s3.av) hc) ?_⟩;rintro v w3 ⟨rfl,c3⟩;have s4:=s3.quiet c3;refine⟨_,rfl,s4.ag 1 rfl 5,s4.ag 1 rfl 4,J9 s4 1 rfl,aj (Ph (h.av s4.av) hb (hr.av s4.av) hl ho) ?_⟩;rintro v w5 ⟨rfl,c5⟩;exact⟨_,rfl,rfl,(s4.quiet c5).av⟩
def uF(c:Ch):Bool:=c.p.l.all qG&&c.want.l.all j8
theorem De{c:Ch}:uF c=true<->c.Ok:=by
 unfold uF;rw[Bool.and_eq_true];exact⟨λ h=>⟨tH.1 h.1,It h.2⟩,λ h=>⟨tH.2 h.p,leq h.w⟩⟩
theorem K0(w:World)(c:Ch):CP 194 #[c.v] w (λ r w'=>r=.bool (uF c)/\aA w w' []):=by
 refine tN ?_;unfold oW;refine(St.start w).one.ax c.cells.toArray λ r1 w1 s1=>⟨c.p,uG s1 0 rfl,λ n w2 m=>∃ k:Nat,n=k/\k<=6/\m=6-k/\(c.p.l.take k).all qG=true/\w2=w1,⟨6,0,rfl,by omega,by omega,rfl,rfl⟩,?_⟩;rintro w2 m n ⟨k,rfl,hk,hm,ha,rfl⟩ -
 by_cases hlt:(k:Int)<6
 ·have hk' : k<6:=by omega
  refine cT (dT hlt) ⟨by omega,by omega,_,c.p.get k hk',λ b w3=>b=(!qG (c.p.at' k))/\w3=w2,?_,?_⟩
  ·rintro w3 b ⟨rfl,rfl⟩ -
   cases hx:qG (c.p.at' k) with
   | true=>exact cF rfl ⟨6-(k+1),by omega,k+1,inc (by decide) hk',by omega,rfl,uu ha (c.p.yT k hk') hx,rfl⟩
   | false=>exact cT rfl ⟨by rw[uF,xN (c.p.yT k hk') hx]; rfl,s1.av⟩
  ·by_cases h0:c.p.at' k<0
   ·exact cT (dT h0) ⟨by simp[qG]; omega,rfl⟩
   ·refine cF (dF h0) ⟨?_,rfl⟩;rw[qG,dT (show 0<=c.p.at' k by omega),Bool.true_and]
    by_cases h1:c.p.at' k<=1000000
    ·rw[dT h1,dF (by omega)]; rfl
    ·rw[dF h1,dT (by omega)]; rfl
 ·obtain rfl:k=6:=by omega
  refine cF (by simp) ⟨_,bJ s1 0 rfl,aj (bR w2 c.want) ?_⟩;rintro v w4 ⟨rfl,c4⟩;refine⟨_,rfl,?_,(s1.quiet c4).av⟩;rw[uF,show c.p.l.all qG=true from ha]
  cases c.want.l.all j8<;>rfl
theorem xO{w:World}{a:OA}{k:Nat}{l:List Ch}(hr:CN w a l)(hl:l.length<=1000) :
  CP 133 #[.slice a l.length k] w (λ r w'=>r=.bool (l.all uF)/\aA w w' []):=by
 refine oT ?_;unfold jK;refine⟨λ n w1 m=>∃ j:Nat,n=j/\j<=l.length/\m=l.length-j/\(l.take j).all uF=true/\aA w w1 [],⟨l.length,0,rfl,by omega,by omega,rfl,aA.refl _ _⟩,?_⟩;rintro w1 m n ⟨j,rfl,hj,hm,ha,hc⟩ -
 by_cases hlt:(j:Int)<(l.length:Int)
 ·have hx:l[j]?=some (l[j]'(by omega)):=gE (by omega);generalize l[j]'(by omega)=y at hx;obtain⟨q2,rfl,hcl2⟩:=(hr.av hc).at hx;refine cT (by simpa using hlt) ⟨by omega,by omega,y.p,y.want,hcl2,(St.start' hc).one.ax Ai.cells.toArray λ r2 w4 s4=>s4.ay 0 rfl y.cells rfl y.one λ w5 s5=>⟨y.p,y.want,s5.cellsIn 0 rfl,aj (K0 w5 y) ?_⟩⟩;rintro v w6 ⟨rfl,c6⟩;refine⟨_,rfl,?_⟩
  cases hy:uF y with
  | true =>
   refine cF rfl ⟨l.length-(j+1),by omega,j+1,aB ⟨by omega,by omega⟩,by omega,rfl,?_,(s5.quiet c6).av⟩;rw[aG hx,List.all_append,ha]; simp[hy]
  | false =>
   refine cT rfl ⟨?_,(s5.quiet c6).av⟩;rw[List.all_eq_false.2 ⟨y,List.mem_of_getElem? hx,by simp[hy]⟩]
 ·obtain rfl:j=l.length:=by omega
  rw[List.take_length] at ha;exact cF (by simp) ⟨by rw[ha],hc⟩
def yJ(a b:Ch):Int:=cost a.p b.want-cost a.p a.want
theorem MB{a b:Ch}(ha:a.Ok)(hb:b.Ok) : -24000000<=yJ a b/\yJ a b<=24000000:=by
 have h1:=lW ha.p hb.w;have h2:=lW ha.p ha.w;unfold yJ; omega
theorem Pw(w:World){a b:Ch}(ha:a.Ok)(hb:b.Ok):CP 136 #[a.v,b.v] w (λ r w'=>r=iv (yJ a b)/\aA w w' []):=by
 refine vm ?_;unfold qX;have h1:=lW ha.p hb.w;have h2:=lW ha.p ha.w;refine(St.start w).one.ax a.cells.toArray λ r1 w1 s1=>s1.ax b.cells.toArray λ r2 w2 s2=>?_;have s3:=s2.quiet (aA.drew w2 []);refine⟨_,uG s3 1 rfl,_,bJ s3 0 rfl,_,uG s3 1 rfl,_,bJ s3 1 rfl,aj (fS _ ha.p hb.w) ?_⟩;rintro v w3 ⟨rfl,c3⟩;have s4:=s3.quiet c3;refine⟨_,rfl,bJ s4 1 rfl,uG s4 1 rfl,aj (fS _ ha.p ha.w) ?_⟩;rintro v w5 ⟨rfl,c5⟩;refine⟨_,rfl,?_,(s4.quiet c5).av⟩;rw[aB ⟨by omega,by omega⟩]; rfl
abbrev i1 (x:Int):List Value:=[iv x]
theorem bU(x:Int):(i1 x).length=1:=rfl
theorem yM(x:Int):∀ v∈i1 x,v.oneCell' = true:=by intro v hv; simp at hv; subst hv; rfl
theorem NA:hU prog 130 2 (iv 0) 1 8:=hU.mk' underlying130 (by kernel_rfl) rfl (by decide)
theorem Oy:hU prog 65 3 (iv 0) 1 8:=hU.mk' underlying65 (by kernel_rfl) rfl (by decide)
theorem Rk:RN prog 331 3 4 (.bool false):=⟨underlying331,by kernel_rfl⟩
theorem fG{w:World}{a:OA}{l:List Int}(h:cW 1 i1 w a l){i:Nat}{x:Int}(hi:l[i]?=some x):∃ q,a=some q/\w.cell? (Addr.add q (i*1))=some (iv x):=by
 obtain⟨q,hq,hc⟩:=h.at hi;have:=aL hc 0 _ rfl;rw[Nat.zero_add,Addr.add_add,Nat.add_zero] at this;exact⟨q,hq,this⟩
def cO(f:Nat->Int)(n:Nat):List Int:=(List.range n).map f
theorem dz(f:Nat->Int)(n:Nat):(cO f n).length=n:=by simp[cO]
theorem Du(f:Nat->Int){n i:Nat}(h:i<n):(cO f n)[i]?=some (f i):=by simp[cO,h]
theorem uY:∀ (n:Nat) (l:List Nat),l.Nodup->(∀ x∈l,x<n)->l.length<=n
 | 0,[],_,_=>Nat.le_refl _
 | 0,x :: _,_,h=>absurd (h x (by simp)) (by omega)
 | n+1,l,hd,h=>by
  by_cases hm:n∈l
  ·have h1:=uY n (l.erase n) (hd.erase n) λ x hx=>by
    have h2:=(hd.mem_erase_iff).1 hx;have:=h x h2.2;omega
   rw[List.length_erase_of_mem hm] at h1;omega
  ·have h1:=uY n l hd λ x hx=>by
    have:=h x hx;have:x≠n:=λ e=>hm (e▸hx);omega
   omega
theorem tC{l:List Int}{n:Nat}(hd:l.Nodup)(h:∀ x∈l,0<=x/\x<n):l.length<=n:=by
 have h2:(l.map Int.toNat).Nodup:=by
  rw[List.nodup_iff_pairwise_ne] at *;rw[List.pairwise_map];exact hd.imp_of_mem λ {a b} ha hb hne e=>hne (by have:=h a ha; have:=h b hb; omega)
 have h3:∀ x∈l.map Int.toNat,x<n:=λ x hx=>by
  obtain⟨y,hy,rfl⟩:=List.mem_map.1 hx;have:=h y hy;omega
 have:=uY n _ h2 h3;simpa using this
theorem Mj{w:World}{n:Nat}(hn:n<=1000){a:OA}{c:Nat}{st:Lo}(hr:cW 1 i1 w a (cO st.f n)){G T:Int}{g:Nat->Nat->Int}(hs:Gd g n G T n n 0 st){ch:Nat}(hc:ch<n)(hl:st.lr ch=n) :
  CP 250 #[.slice a n c,iv ch] w (λ r w'=>(∃ q l c,r=.slice (some q) l c)/\aA w w' []):=by
 refine tM ?_;unfold oU;have link:∀ {w' : World} {x:Nat},aA w w' []->x<n->∃ q,a=some q/\w'.cell? (Addr.add q (x*1))=some (iv (st.f x)):=λ hc hx=>fG (hr.av hc) (Du _ hx);refine kU (St.start w) λ m w1 c1 s1=>?_;have s1:=St.RI s1;refine⟨λ x w2 k=>∃ (ks:List Int) (y:Nat),x=y/\y<n/\ks.Nodup/\(∀ z∈ks,0<=z/\z<n)/\k+ks.length=n+1/\n<=st.lr y+ks.length/\(∀ z:Nat,(z:Int)∈ks->st.f z=y\/st.f z∈ks)/\St w w2 (star (zq m ks) emp),⟨n+1,[],ch,rfl,hc,List.nodup_nil,by simp,by simp,by rw[hl]; simp,by simp,s1⟩,?_⟩
 rintro w2 k x ⟨ks,y,rfl,hy,hd,hb,hk,hlr,hcl,s2⟩ -;refine yU Rk underlying3 s2 (y:Int) ?_
 by_cases hm:(y:Int)∈ks
 ·refine cF (by rw[dT hm]; rfl) (Di Rk s2 λ w5 c5 s5=>?_);have cl2:∀ z:Nat,(z:Int)∈ks->st.f z∈ks:=λ z hz=>(hcl z hz).elim (λ e=>by rw[e]; exact hm) id;refine⟨λ x a2 l2 c2 w6 k=>∃ (ms:List Int) (y:Nat),x=y/\(y:Int)∈ks/\ms.Nodup/\(∀ z∈ms,z∈ks)/\k+ms.length=n+1/\l2=ms.length/\St w w6 (Sep [zq m ms,bM 3 1 i1 a2 c2 ms,emp]),⟨n+1,[],y,rfl,hm,List.nodup_nil,by simp,by simp,rfl,(s5.cv (e:=3) (sz:=1) (f:=i1)).zU.p4⟩,?_⟩
  rintro w6 k2 x a2 l2 c2 ⟨ms,z,rfl,hz,hd2,hb2,hk2,rfl,s6⟩ -;refine yU Rk underlying3 s6 (z:Int) ?_;have hms:ms.length<=n:=tC hd2 λ v hv=>hb v (hb2 v hv)
  by_cases hm2:(z:Int)∈ms
  ·refine cF (by rw[dT hm2]; rfl) ?_;refine cH Oy bU (x:=0) rfl s6 (n:=ms.length) (by omega) (by omega) λ gg w11 c11 s11=>?_;refine⟨λ x w12 k=>∃ (j:Nat) (out:List Int),x=j/\j<=ms.length/\k=ms.length-j/\out.length=ms.length/\St w w12 (star (bM 3 1 i1 (some ⟨gg,0,none⟩) ms.length out) (Sep [zq m ms,bM 3 1 i1 a2 c2 ms,emp])),⟨ms.length,0,_,rfl,by omega,by omega,by simp,s11⟩,?_⟩
   rintro w12 k3 x ⟨j,out,rfl,hj,hk3,ho,s12⟩ -
   by_cases hlt:(j:Int)<(ms.length:Int)
   ·have hx:ms[j]?=some (ms[j]'(by omega)):=gE (by omega);generalize ms[j]'(by omega)=v at hx;have s13:St w w12 (Sep [bM 3 1 i1 (some ⟨gg,0,none⟩) ms.length out,zq m ms,bM 3 1 i1 a2 c2 ms,emp]):=s12;obtain⟨q,hq,hcq⟩:=fG (St.rd bU (s13.out 2 rfl)) hx;have e1:IntKind.i64.wrap ((IntKind.i64.wrap ((ms.length:Int)-1))-(j:Int))=((ms.length-1-j:Nat):Int):=by
     rw[aB (n:=(ms.length:Int)-1) ⟨by omega,by omega⟩,aB ⟨by omega,by omega⟩]; omega
    rw[e1];refine cT (dT hlt) (ak hq ⟨by omega,by omega,v,hcq,by omega,by omega,?_⟩);rw[Int.toNat_natCast];exact St.iV (v:=iv) rfl s12 (i:=ms.length-1-j) (by omega) λ w13 s14=>⟨ms.length-(j+1),by omega,j+1,_,aB ⟨by omega,by omega⟩,by omega,rfl,by simpa using ho,s14⟩
   ·exact cF (dF hlt) ⟨⟨_,_,_,rfl⟩,s12.av⟩
  ·have hks:ks.length<=n:=tC hd hb;have hd3:(ms++[(z:Int)]).Nodup:=List.nodup_append.2 ⟨hd2,by simp,λ a ha b hb e=>by simp at hb; subst hb; subst e; exact hm2 ha⟩;have hms2:(ms++[(z:Int)]).length<=n:=tC hd3 λ v hv=>by
    rcases List.mem_append.1 hv with h|h
    ·exact hb v (hb2 v h)
    ·simp at h; subst h; exact hb _ hz
   simp only[List.length_append,List.length_singleton] at hms2;refine cT (by rw[dF hm2]; rfl) (A3 Rk underlying3 s6 (z:Int) hm2 λ w8 c8 s8=>?_);have s8' : St w w8 (star (bM 3 1 i1 a2 c2 ms) (star (zq m (ms++[(z:Int)])) (Sep [emp]))):=s8.zU;refine cK (x:=(z:Int)) Oy bU (yM _) s8' (by omega) (by omega) (λ a' c' w10 s10=>?_) rfl;have zr:=hb _ hz;obtain⟨q,hq,hcq⟩:=link s10.av (show z<n by omega);have hfz:=cl2 z hz;have hfr:=hb _ hfz;refine ak hq ⟨by omega,by omega,_,hcq,k2-1,?_,ms++[(z:Int)],(st.f z).toNat,by omega,by rw[Int.toNat_of_nonneg hfr.1]; exact hfz,hd3,?_,?_,rfl,s10.zU⟩
   ·omega
   ·intro v hv;rcases List.mem_append.1 hv with h|h
    ·exact hb2 v h
    ·simp at h; subst h; exact hz
   ·simp only[List.length_append,List.length_singleton]; omega
 ·have hd3:(ks++[(y:Int)]).Nodup:=List.nodup_append.2 ⟨hd,by simp,λ a ha b hb e=>by simp at hb; subst hb; subst e; exact hm ha⟩;have hb3:∀ z∈ks++[(y:Int)],0<=z/\z<n:=λ z hz=>by
   rcases List.mem_append.1 hz with h|h
   ·exact hb z h
   ·simp at h; subst h; omega
  have hms2:=tC hd3 hb3;simp only[List.length_append,List.length_singleton] at hms2;refine cT (by rw[dF hm]; rfl) (A3 Rk underlying3 s2 (y:Int) hm λ w4 c4 s4=>?_);obtain⟨q,hq,hcq⟩:=link s4.av hy;rcases hs.f y hy with⟨_,h0⟩|⟨p,hp,hfp,h1,h2⟩
  ·omega
  ·refine ak hq ⟨by omega,by omega,_,hcq,k-1,by omega,ks++[(y:Int)],p,hfp,hp,hd3,hb3,?_,?_,?_,s4⟩
   ·simp only[List.length_append,List.length_singleton]; omega
   ·simp only[List.length_append,List.length_singleton]; omega
   ·intro z hz;rcases List.mem_append.1 hz with h|h
    ·rcases hcl z h with e|e
     ·exact .inr (by rw[e]; simp)
     ·exact .inr (List.mem_append_left _ e)
    ·simp at h;have h:z=y:=by omega
     subst h; exact .inl hfp
def gF(l:List Ch)(a b:Nat):Int:=yJ (l.getD a Ai) (l.getD b Ai)
theorem MA(l:List Ch)(a:Nat):gF l a a=0:=by unfold gF yJ; omega
theorem Rc{l:List Ch}(h:∀ c∈l,c.Ok)(a b:Nat)(ha:a<l.length)(hb:b<l.length) : -24000000<=gF l a b/\gF l a b<=24000000:=by
 have e:∀ i,i<l.length->(l.getD i Ai).Ok:=λ i hi=>by
  rw[List.getD_eq_getElem?_getD,gE hi];exact h _ (List.getElem_mem hi)
 exact MB (e a ha) (e b hb)
def j5(l:List Ch):Lo:=tu (gF l) l.length
theorem H6{w:World}{a:OA}{c:Nat}{l:List Ch}(hr:CN w a l)(hl:l.length<=100)(ho:∀ c∈l,c.Ok) :
  CP 236 #[.slice a l.length c] w (λ r w' =>
   ((j5 l).ch<0/\(∃ g c,r=.tuple #[.slice (some ⟨g,0,none⟩) l.length c,.slice none 0 0]/\St w w' (star (bM 2 1 i1 (some ⟨g,0,none⟩) c (cO (j5 l).v l.length)) emp)))\/(0<=(j5 l).ch/\(∃ q m c,r=.tuple #[.slice none 0 0,.slice (some q) m c])/\aA w w' [])):=by
 refine qA ?_;unfold kY;generalize hn:l.length=n at *;have hG:(0:Int)<=24000000:=by omega
 have g0:=MA l;have gb:∀ a b,a<n->b<n->-24000000<=gF l a b/\gF l a b<=24000000:=λ a b ha hb=>Rc ho a b (by omega) (by omega);refine cH NA bU (x:=0) rfl (St.start w) (n:=n) (by omega) (by omega) λ gv w1 c1 s1=>?_;refine cH Oy bU (x:=0) rfl s1 (n:=n) (by omega) (by omega) λ gf w2 c2 s2=>?_;let L:Nat->(Nat->Int)->(Nat->Int)->List aD:=λ _ v f=>[bM 3 1 i1 (some ⟨gf,0,none⟩) n (cO f n),bM 2 1 i1 (some ⟨gv,0,none⟩) n (cO v n)];have z1:List.replicate n (0:Int)=cO (λ _=>0) n:=by unfold cO; rw[List.map_const']; simp
 have z2:cO (λ i=>if i<0 then (-1:Int) else 0) n=cO (λ _=>0) n:=by simp
 rw[z1] at s1 s2;refine⟨λ x w3 k=>∃ (j:Nat),x=j/\j<=n/\k=n-j/\St w w3 (Sep (L 0 (λ _=>0) λ i=>if i<j then -1 else 0)),⟨n,0,rfl,by omega,by omega,by
  show St w w2 (Sep [bM 3 1 i1 (some ⟨gf,0,none⟩) n (cO (λ i=>if i<0 then (-1:Int) else 0) n),_]);rw[z2]; exact s2⟩,?_⟩
 rintro w3 k x ⟨j,rfl,hj,hk,s3⟩ -
 by_cases hlt:(j:Int)<((cO (λ _=>(0:Int)) n).length:Int)
 ·have hjn:j<n:=by rw[dz] at hlt; omega
  refine cT (dT (by rw[dz] at hlt; exact hlt)) (ak rfl ⟨by omega,by omega,?_⟩);rw[Int.toNat_natCast];refine St.iV (v:=iv) (x:=-1) rfl (s3.out 0 rfl) (i:=j) (by rw[dz]; exact hjn) λ w4 s4=>⟨n-(j+1),by omega,j+1,aB ⟨by omega,by omega⟩,by omega,rfl,?_⟩;have e:(cO (λ i=>if i<j then (-1:Int) else 0) n).set j (-1)=cO (λ i=>if i<j+1 then -1 else 0) n:=by
   unfold cO;rw[B4]
   congr 1
   funext i
   by_cases h:i=j
   ·subst h; simp[cw]
   ·rw[fA _ _ h]
    by_cases h2:i<j
    ·rw[if_pos h2,if_pos (by omega)]
    ·rw[if_neg h2,if_neg (by omega)]
  rw[e] at s4;exact s4.back (l:=L 0 (λ _=>0) λ i=>if i<j then -1 else 0) (i:=0) (by simp[L])
 rw[dz] at hlt;obtain rfl:n=j:=by omega
 have e1:cO (λ i=>if i<n then (-1:Int) else 0) n=cO (λ _=>-1) n:=by
  unfold cO;refine List.map_congr_left λ i hi=>?_;rw[if_pos (List.mem_range.1 hi)]
 have s3' : St w w3 (Sep (L 0 QI.v QI.f)):=by
  show St w w3 (Sep [bM 3 1 i1 (some ⟨gf,0,none⟩) n (cO (λ _=>-1) n),_]);rw[<- e1]; exact s3
 refine cF (dF hlt) ⟨λ x w5=>x=(j5 l).ch/\St w w5 (Sep (L 0 (j5 l).v (j5 l).f)),?_,?_⟩
 ·rintro w5 x ⟨rfl,s5⟩ -
  by_cases hc:(j5 l).ch<0
  ·refine cT (dT hc) (.inl ⟨hc,gv,n,rfl,?_⟩);have:=(s5.au [1]).v8;exact((s5.au [1,2]).pair)
  ·refine cF (dF hc) ?_;obtain⟨r',T',hS,hrn⟩:=HZ (g:=gF l) (n:=n) hG g0 gb;have hch:0<=(j5 l).ch:=by omega
   have hst:tu (gF l) n=j5 l:=by unfold j5; rw[hn]
   rw[hst] at hS hrn;have hrn':=hrn hch;subst hrn';rcases hS.i.ch with h1|⟨cc,hcc,h1,h2⟩
   ·omega
   ·rw[h1];have rd5:=St.rd bU (s5.out 0 rfl);refine aj (Mj (by omega) rd5 hS.i hcc h2) ?_;rintro v w6 ⟨⟨q,m,cap,rfl⟩,c6⟩;exact⟨_,_,_,rfl,.inr ⟨by omega,⟨q,m,cap,rfl⟩,s5.av.trans c6 (by simp)⟩⟩
 refine⟨λ ch x w7 k=>∃ (r:Nat) (T:Int) (s:Lo),x=r/\r<=n/\k=n-r/\ch=s.ch/\T=(r:Int)*n/\PF (gF l) n (n-r) r s=j5 l/\HB (gF l) n 24000000 T r n s/\St w w7 (Sep (L 0 s.v s.f)),⟨n,0,0,QI,rfl,by omega,by omega,rfl,by simp,by unfold j5 tu; rw[hn]; rfl,Oh hG,s3'⟩,?_⟩
 rintro w7 k7 ch x ⟨r,T,s,rfl,hr7,hk7,rfl,hT,hfin,hS,s7⟩ -
 by_cases hlt:(r:Int)<(n:Int)
 ·have hrn:r<n:=by omega
  have hnr:n-r=(n-(r+1))+1:=by omega
  have hT2:T<=10000/\0<=T:=by
   have h1:(r:Int)*n<=100*n:=Int.mul_le_mul_of_nonneg_right (by omega) (by omega);have h2:(0:Int)<=(r:Int)*n:=Int.mul_nonneg (by omega) (by omega);omega
  have hS1:HB (gF l) n 24000000 T (r+1) 0 { s with ch:=-1 }:=⟨hS.i.Oq hS.b,hS.b⟩;refine cT (dT hlt) ⟨λ ch x w8 k=>∃ (a:Nat) (t:Lo),x=a/\a<=n/\k=n-a/\ch=t.ch/\t=Oi (gF l) n (r+1) a { s with ch:=-1 }/\St w w8 (Sep (L 0 t.v t.f)),⟨n,0,_,rfl,by omega,by omega,rfl,rfl,s7⟩,?_⟩;rintro w8 k8 ch x ⟨aa,t,rfl,ha8,hk8,rfl,ht,s8⟩ -;have hSa:=hS1.Oi hG g0 gb (by omega) aa ha8;rw[<- ht] at hSa
  by_cases hlt8:(aa:Int)<(n:Int)
  ·have han:aa<n:=by omega
   refine cT (dT hlt8) ⟨λ ch x w9 k=>∃ (b:Nat) (t' : Lo),x=b/\b<=n/\k=n-b/\ch=t'.ch/\t' = Oj (gF l) (r+1) aa b t/\St w w9 (Sep (L 0 t'.v t'.f)),⟨n,0,t,rfl,by omega,by omega,rfl,rfl,s8⟩,?_⟩;rintro w9 k9 ch x ⟨bb,t',rfl,hb9,hk9,rfl,ht',s9⟩ -;have hIb:=hSa.i.Oj g0 gb (by omega) han bb hb9;rw[<- ht'] at hIb
   by_cases hlt9:(bb:Int)<(n:Int)
   ·have hbn:bb<n:=by omega
    have xa:l[aa]?=some (l.getD aa Ai):=by rw[List.getD_eq_getElem?_getD,gE (by omega)]; rfl
    have xb:l[bb]?=some (l.getD bb Ai):=by rw[List.getD_eq_getElem?_getD,gE (by omega)]; rfl
    have s10:St w w9.drew (Sep (L 0 t'.v t'.f)):=s9.quiet (aA.drew w9 []);obtain⟨qa,hqa,hca⟩:=(hr.av s10.av).at xa;obtain⟨qb,hqb,hcb⟩:=(hr.av s10.av).at xb;have val:∀ {w' : World} {i:Nat},i<n->St w w' (Sep (L 0 t'.v t'.f))->w'.cell? (Addr.add ⟨gv,0,none⟩ (((i:Nat):Int).toNat*1))=some (iv (t'.v i)):=λ hi s=>by
     obtain⟨q,hq,hc⟩:=fG (St.rd bU (s.out 1 rfl)) (Du t'.v hi)
     cases hq; exact hc
    refine cT (dT hlt9) ⟨λ ch w10=>ch=(I7 (gF l) (r+1) aa bb t').ch/\St w w10 (Sep (L 0 (I7 (gF l) (r+1) aa bb t').v (I7 (gF l) (r+1) aa bb t').f)),?_,?_⟩
    ·rintro w10 ch ⟨rfl,s11⟩ -;refine⟨n-(bb+1),by omega,bb+1,_,aB ⟨by omega,by omega⟩,by omega,rfl,rfl,?_,s11⟩;rw[ht']; rfl
    ·refine ak rfl ⟨by omega,by omega,_,val han s10,ak hqa ⟨by omega,by omega,(l.getD aa Ai).p,(l.getD aa Ai).want,hca,ak hqb ⟨by omega,by omega,(l.getD bb Ai).p,(l.getD bb Ai).want,hcb,aj (Pw _ (ho _ (List.mem_of_getElem? xa)) (ho _ (List.mem_of_getElem? xb))) ?_⟩⟩⟩;rintro v w11 ⟨rfl,c11⟩;have s11:=s10.quiet c11;have ba:=hIb.lo aa han;have hla:=hIb.la han;have hg1:=gb aa bb han hbn;have hTa:(aa:Int)<=100:=by omega
     have ew:IntKind.i64.wrap (t'.v aa+yJ (l.getD aa Ai) (l.getD bb Ai))=t'.v aa+gF l aa bb:=aB ⟨by show _<=t'.v aa+gF l aa bb; omega,by show t'.v aa+gF l aa bb<=_; omega⟩;refine⟨_,rfl,val han s11,ak rfl ⟨by omega,by omega,_,val hbn s11,?_⟩⟩;rw[ew]
     by_cases hrl:t'.v aa+gF l aa bb<t'.v bb
     ·have er:I7 (gF l) (r+1) aa bb t' = { v:=p5 t'.v bb (t'.v aa+gF l aa bb),f:=p5 t'.f bb aa,lr:=p5 t'.lr bb (r+1),ch:=bb }:=by unfold I7; rw[if_pos hrl]
      rw[er];refine cT (dT hrl) (ak rfl ⟨by omega,by omega,?_⟩);rw[Int.toNat_natCast];refine St.iV (v:=iv) (x:=t'.v aa+gF l aa bb) rfl (s11.out 1 rfl) (i:=bb) (by rw[dz]; exact hbn) λ w12 s12=>?_;have e2:(cO t'.v n).set bb (t'.v aa+gF l aa bb)=cO (p5 t'.v bb (t'.v aa+gF l aa bb)) n:=B4 _ _ _ _;rw[e2] at s12;have s13:St w w12 (Sep [bM 3 1 i1 (some ⟨gf,0,none⟩) n (cO t'.f n),bM 2 1 i1 (some ⟨gv,0,none⟩) n (cO (p5 t'.v bb (t'.v aa+gF l aa bb)) n)]):=s12.back (l:=L 0 t'.v t'.f) (i:=1) (by simp[L]);refine ak rfl ⟨by omega,by omega,?_⟩;refine St.iV (v:=iv) (x:=(aa:Int)) rfl (s13.out 0 rfl) (i:=bb) (by rw[dz]; exact hbn) λ w14 s14=>⟨rfl,?_⟩;have e3:(cO t'.f n).set bb (aa:Int)=cO (p5 t'.f bb aa) n:=B4 _ _ _ _;rw[e3] at s14;exact s14.back (l:=[bM 3 1 i1 (some ⟨gf,0,none⟩) n (cO t'.f n),bM 2 1 i1 (some ⟨gv,0,none⟩) n (cO (p5 t'.v bb (t'.v aa+gF l aa bb)) n)]) (i:=0) (by simp)
     ·have er:I7 (gF l) (r+1) aa bb t' = t':=by unfold I7; rw[if_neg hrl]
      rw[er];exact cF (dF hrl) ⟨rfl,s11⟩
   ·obtain rfl:n=bb:=by omega
    refine cF (dF hlt9) ⟨n-(aa+1),by omega,aa+1,_,aB ⟨by omega,by omega⟩,by omega,rfl,rfl,?_,s9⟩;rw[ht',ht]; rfl
  ·obtain rfl:n=aa:=by omega
   have eR:t=Om (gF l) n (r+1) s:=ht;have hfin2:(if (Om (gF l) n (r+1) s).ch<0 then Om (gF l) n (r+1) s else PF (gF l) n (n-(r+1)) (r+1) (Om (gF l) n (r+1) s))=j5 l:=by
    rw[<- hfin,hnr]; rfl
   rw[<- eR] at hfin2;refine cF (dF hlt8) ?_
   by_cases hc:t.ch<0
   ·rw[if_pos hc] at hfin2;refine cT (dT hc) ?_;rw[<- hfin2];exact⟨rfl,s8⟩
   ·rw[if_neg hc] at hfin2;refine cF (dF hc) ⟨n-(r+1),by omega,r+1,T+n,t,aB ⟨by omega,by omega⟩,by omega,rfl,rfl,?_,hfin2,hSa,s8⟩;rw[hT,Int.natCast_add,Int.add_mul]; omega
 ·obtain rfl:n=r:=by omega
  rw[Nat.sub_self] at hfin;have hfin:s=j5 l:=hfin;subst hfin;exact cF (dF hlt) ⟨rfl,s7⟩
def oo(l:List Ch):Bool:=l.all uF&&decide ((j5 l).ch<0)
theorem CU{l:List Ch}:l.all uF=true<->∀ c∈l,c.Ok:=by simp[List.all_eq_true,De]
theorem ID{w:World}{a:OA}{c:Nat}{l:List Ch}(hr:CN w a l)(hl:l.length<=100) :
  CP 213 #[.slice a l.length c] w (λ r w'=>(∃ a1 l1 c1 a2 l2 c2,r=.tuple #[.agg #[.slice a1 l1 c1,.slice a2 l2 c2],.bool (oo l)])/\aA w w' []):=by
 refine tL ?_;unfold oS;refine(St.start w).one.ax _ λ r1 w1 s1=>aj (xO (hr.av s1.av) (by omega)) ?_;rintro v w2 ⟨rfl,c2⟩;have s2:=s1.quiet c2;refine⟨_,rfl,?_⟩
 cases ha:l.all uF with
 | false =>
  refine cT rfl (s2.ay 0 rfl [.slice none 0 0,.slice none 0 0] rfl (by simp[Value.oneCell']) λ w3 s3=>⟨_,_,_,_,_,_,s3.cellsIn 0 rfl,?_⟩);exact⟨⟨_,_,_,_,_,_,by rw[oo,ha]; rfl⟩,s3.av⟩
 | true =>
  have ho:=CU.1 ha;refine cF rfl (aj (H6 (hr.av s2.av) hl ho) ?_);rintro v w4 (⟨hc,g,cc,rfl,s4⟩|⟨hc,⟨q,m,cc,rfl⟩,c4⟩)
  ·have hcons:oo l=true:=by rw[oo,ha,dT hc]; rfl
   let L:List Int->List aD:=λ out=>[bM 2 1 i1 (some ⟨g,0,none⟩) cc out,ai r1 #[.slice none 0 0,.slice none 0 0] 175,emp];have s5:St w w4 (Sep (L (cO (j5 l).v l.length))):=(s2.and s4.first);have val:∀ {w' : World} {out:List Int} {i:Nat},out.length=l.length->i<l.length->St w w' (Sep (L out))->w'.cell? (Addr.add ⟨g,0,none⟩ (((i:Nat):Int).toNat*1))=some (iv (out.getD i 0)):=λ {w' out i} ho hi s=>by
    obtain⟨q,hq,hc⟩:=fG (St.rd bU s) (i:=i) (x:=out.getD i 0) (by rw[List.getD_eq_getElem?_getD,gE (by omega)]; rfl)
    cases hq; exact hc
   refine⟨_,_,_,_,_,_,rfl,cF rfl ⟨λ _ n w6 m=>∃ j:Nat,n=j/\j<=l.length/\m=l.length-j/\St w w6 (Sep (L (cO (j5 l).v l.length))),⟨l.length,0,rfl,by omega,by omega,s5⟩,?_⟩⟩;rintro w6 m n n2 ⟨j,rfl,hj,hm,s6⟩ -
   by_cases hlt:(j:Int)<(l.length:Int)
   ·have hx:l[j]?=some (l[j]'(by omega)):=gE (by omega);generalize l[j]'(by omega)=y at hx;obtain⟨q2,hq,hcl2⟩:=(hr.av s6.av).at hx;refine cT (dT hlt) (ak hq ⟨by omega,by omega,y.p,y.want,hcl2,s6.ax Ai.cells.toArray λ r2 w7 s7=>s7.ay 0 rfl y.cells rfl y.one λ w8 s8=>?_⟩);have s9:=s8.quiet (aA.drew w8 []);have oy:=ho _ (List.mem_of_getElem? hx);have s10:St w w8.drew (Sep (L (cO (j5 l).v l.length))):=s9.au [1,2,3];have hjl:j<l.length:=by omega
    refine⟨_,uG s9 0 rfl,_,bJ s9 0 rfl,ak rfl ⟨by omega,by omega,_,val (dz _ _) hjl s10,aj (fS _ oy.p oy.w) ?_⟩⟩;rintro v w11 ⟨rfl,c11⟩;have s11:=s10.quiet c11;exact⟨_,rfl,val (dz _ _) hjl s11,l.length-(j+1),by omega,j+1,aB ⟨by omega,by omega⟩,by omega,rfl,s11⟩
   ·refine cF (dF hlt) ⟨λ _ n w6 m=>∃ j:Nat,n=j/\j<=l.length/\m=l.length-j/\St w w6 (Sep (L (cO (j5 l).v l.length))),⟨l.length,0,rfl,by omega,by omega,s6⟩,?_⟩;clear s6 hlt hj hm;rintro w10 m3 n5 n6 ⟨j,rfl,hj,hm,s6⟩ -
    by_cases hlt:(j:Int)<(l.length:Int)
    ·have hx:l[j]?=some (l[j]'(by omega)):=gE (by omega);generalize l[j]'(by omega)=y at hx;have hjl:j<l.length:=by omega
     obtain⟨q2,hq,hcl2⟩:=(hr.av s6.av).at hx;refine cT (dT hlt) ⟨λ _ w11=>St w w11 (Sep (L (cO (j5 l).v l.length))),λ w11 n7 s11 _=>⟨l.length-(j+1),by omega,j+1,aB ⟨by omega,by omega⟩,by omega,rfl,s11⟩,?_⟩;refine ak hq ⟨by omega,by omega,y.p,y.want,hcl2,s6.ax Ai.cells.toArray λ r2 w7 s7=>s7.ay 0 rfl y.cells rfl y.one λ w8 s8=>⟨_,bJ s8 0 rfl,?_⟩⟩;have s10:St w w8 (Sep (L (cO (j5 l).v l.length))):=s8.au [1,2,3];exact cB (ak rfl ⟨by omega,by omega,_,val (dz _ _) hjl s10,s10⟩) s10
    ·refine cF (dF hlt) ⟨λ n w6 m=>∃ (j:Nat) (out:List Int),n=j/\j<=l.length/\m=l.length-j/\out.length=l.length/\St w w6 (Sep (L out)),⟨l.length,0,_,rfl,by omega,by omega,dz _ _,s6⟩,?_⟩;clear s6 hlt hj hm;rintro w14 m5 n9 ⟨j,out,rfl,hj,hm,hou,s6⟩ -
     by_cases hlt:(j:Int)<(l.length:Int)
     ·have hjl:j<l.length:=by omega
      refine cT (dT hlt) (ak rfl ⟨by omega,by omega,_,val hou hjl s6,ak rfl ⟨by omega,by omega,?_⟩⟩);rw[Int.toNat_natCast];exact St.iV (v:=iv) rfl s6 (i:=j) (by omega) λ w15 s15=>⟨l.length-(j+1),by omega,j+1,_,aB ⟨by omega,by omega⟩,by omega,rfl,by simpa using hou,s15⟩
     ·refine cF (dF hlt) ((s6.au [1,2]).ay 0 rfl [.slice none 0 0,.slice (some ⟨g,0,none⟩) l.length cc] rfl (by simp[Value.oneCell']) λ w3 s3=>⟨_,_,_,_,_,_,s3.cellsIn 0 rfl,⟨none,0,0,_,_,_,by rw[hcons]⟩,s3.av⟩)
  ·have s4:=s2.quiet c4;refine⟨_,_,_,_,_,_,rfl,cT rfl (s4.ay 0 rfl [.slice (some q) m cc,.slice none 0 0] rfl (by simp[Value.oneCell']) λ w3 s3=>⟨_,_,_,_,_,_,s3.cellsIn 0 rfl,⟨some q,m,cc,none,0,0,by rw[oo,ha,dF (by omega)]; rfl⟩,s3.av⟩)⟩
theorem Ry:hU prog 92 123 Ai.v 12 96:=hU.mk' underlying92 (by kernel_rfl) rfl (by decide)
theorem AM{w:World}{s:Se}{n:Int}{a:OA}{k:Nat}{l:List Ch}(hr:CN w a l)(hk:l.length<=k)(hl:l.length+1<=100)(c:Ch) :
  CP 171 #[.agg (I2 s n a k l).toArray,c.v] w (λ r w'=>r=.bool (oo (l++[c]))/\aA w w' []):=by
 refine ia ?_;unfold dL;refine(St.start w).one.ax (I2 s n a k l).toArray λ r1 w1 s1=>s1.ax c.cells.toArray λ r2 w2 s2=>⟨λ b w3=>b=oo (l++[c])/\aA w w3 [],?_,?_⟩
 ·rintro w3 b ⟨rfl,hc⟩;exact λ _=>⟨rfl,hc⟩
 have s3:=s2.quiet (aA.drew w2 []);have app:∀ {w' : World} {r:Nat} {B:List aD} {R:Option Addr->Nat->Nat->World->Prop},St w w' (Sep (ai r c.cells.toArray 123 :: B))->(∀ a' c' w2,St w w2 (star (bM 123 12 Ch.cells a' c' (l++[c])) (Sep (ai r c.cells.toArray 123 :: B)))->R a' (l++[c]).length c' w2) ->
   aP prog (Builtin.append_ #[92,92] 92 #[.slice (if (((l.length:Nat):Int)).toNat=0 then a else Option.map (λ x=>Addr.add x (0*12)) a) ((((l.length:Nat):Int)).toNat-0) ((((l.length:Nat):Int)).toNat-0),.slice (some ⟨r,0,none⟩) 1 1]) w' λ e w2=>∃ a l c,e=.slice a l c/\R a l c w2:=by
  intro w' r B R sB hR;rw[Int.toNat_natCast,Q8,Nat.sub_zero];refine HG Ry Ch.len c.one sB (hr.av sB.av) (λ j u hj=>?_) (by omega) (by omega) hR;rw[sB.ag 0 rfl]; simpa using hj
 have fin:∀ {w' : World} {B:List aD} {a' : OA} {c' : Nat},St w w' (star (bM 123 12 Ch.cells a' c' (l++[c])) (Sep B)) ->
   CC 213 #[.slice a' (l++[c]).length c'] w' (ur λ r w2=>(∃ a1 l1 c1 a2 l2 c2,r=.tuple #[.agg #[.slice a1 l1 c1,.slice a2 l2 c2],.bool (oo (l++[c]))])/\aA w' w2 []):=λ s=>ID (St.rd Ch.len s) (by simpa using hl)
 let Wn:Array Value:=#[.slice none 0 0,.slice none 0 0];refine⟨_,_,_,s3.ag 1 rfl 5,_,_,_,s3.ag 1 rfl 5,_,_,_,s3.ag 1 rfl 5,by omega,by omega,by omega,by omega,c.p,c.want,s3.cellsIn 0 rfl,?_,?_⟩
 ·refine s3.ax c.cells.toArray λ r3 w4 s4=>⟨s4.ag 2 rfl 5,s4.ag 2 rfl 5,s4.ag 2 rfl 5,app s4 λ a' c' w5 s5=>⟨aj (fin s5) ?_,?_⟩,?_⟩
  ·rintro v w6 ⟨⟨a1,l1,c1,a2,l2,c2,rfl⟩,c6⟩;exact⟨_,_,_,_,_,_,_,rfl,(St.start' (s5.av.trans c6 (by simp))).one.ax Wn λ r4 w7 s7=>s7.ay 0 rfl [.slice a1 l1 c1,.slice a2 l2 c2] rfl (by simp[Value.oneCell']) λ w8 s8=>⟨rfl,s8.av⟩⟩
  ·refine s5.first.one.ax Wn λ r5 w9 s9=>aj (fin (s9.au [1,0])) ?_;rintro v w6 ⟨⟨a1,l1,c1,a2,l2,c2,rfl⟩,c6⟩;exact⟨_,_,_,_,_,_,_,rfl,(s9.quiet c6).ay 0 rfl [.slice a1 l1 c1,.slice a2 l2 c2] rfl (by simp[Value.oneCell']) λ w8 s8=>⟨rfl,s8.av⟩⟩
  ·refine s4.ax Wn λ r6 w12 s12=>⟨s12.ag 3 rfl 5,s12.ag 3 rfl 5,s12.ag 3 rfl 5,app (s12.au [1,0]) λ a' c' w13 s13=>aj (fin s13) ?_⟩;rintro v w6 ⟨⟨a1,l1,c1,a2,l2,c2,rfl⟩,c6⟩;exact⟨_,_,_,_,_,_,_,rfl,(s13.quiet c6).second.ay 1 rfl [.slice a1 l1 c1,.slice a2 l2 c2] rfl (by simp[Value.oneCell']) λ w8 s8=>⟨rfl,s8.av⟩⟩
 ·refine s3.ax Wn λ r7 w16 s16=>⟨s16.cellsIn 1 rfl,s16.ag 2 rfl 5,s16.ag 2 rfl 5,s16.ag 2 rfl 5,s16.ax c.cells.toArray λ r8 w17 s17=>⟨s17.ag 3 rfl 5,s17.ag 3 rfl 5,s17.ag 3 rfl 5,app s17 λ a' c' w18 s18=>aj (fin s18) ?_⟩⟩;rintro v w6 ⟨⟨a1,l1,c1,a2,l2,c2,rfl⟩,c6⟩;exact⟨_,_,_,_,_,_,_,rfl,(s18.quiet c6).second.ay 1 rfl [.slice a1 l1 c1,.slice a2 l2 c2] rfl (by simp[Value.oneCell']) λ w8 s8=>⟨rfl,s8.av⟩⟩
theorem HQ{w:World}{s:Se}(h:Jb w s){n:Nat}{b:Br}(hb:s.bd[n]?=some b){a:OA}{k:Nat}{l:List Ch}(hr:CN w a l)(hk:l.length<=k)(hl:l.length+1<=100)(ho:∀ c∈l,c.Ok){c:Ch}(hc:c.Ok) :
  CP 172 #[.agg (I2 s n a k l).toArray,c.v] w (λ r w'=>r=.bool (Dw s b l c||oo (l++[c]))/\aA w w' []):=by
 refine ic ?_;unfold dM;refine(St.start w).one.ax (I2 s n a k l).toArray λ r1 w1 s1=>s1.ax c.cells.toArray λ r2 w2 s2=>?_;refine⟨_,_,_,_,_,_,_,_,_,_,_,_,_,_,_,_,s2.cellsIn 1 rfl,c.p,c.want,s2.cellsIn 0 rfl,aj (GB (h.av s2.av) hb (hr.av s2.av) (by omega) ho hc) ?_⟩;rintro v w3 ⟨rfl,c3⟩;have s3:=s2.quiet c3;refine⟨_,rfl,?_⟩
 cases hf:Dw s b l c with
 | true=>exact cT rfl ⟨rfl,s3.av⟩
 | false =>
  refine cF rfl ⟨_,_,_,_,_,_,_,_,_,_,_,_,_,_,_,_,s3.cellsIn 1 rfl,c.p,c.want,s3.cellsIn 0 rfl,aj (AM (hr.av s3.av) hk hl c) ?_⟩;rintro v w4 ⟨rfl,c4⟩;exact⟨_,rfl,rfl,(s3.quiet c4).av⟩
def Hf(rule:Int)(s:Se)(b:Br)(l:List Ch)(c:Ch):Bool:=if rule=1 then Dw s b l c else if rule=2 then oo (l++[c]) else Dw s b l c||oo (l++[c])
def EM(rule:Int)(s:Se)(b:Br)(l:List Ch)(c:Ch):Int :=
 if 1<=rule/\rule<=3 then (if (if AH l then decide (c.want=z6) else Hf rule s b l c) then 0 else 15) else 4
theorem Jc{w:World}{s:Se}(h:Jb w s){n:Nat}{b:Br}(hb:s.bd[n]?=some b){a:OA}{k:Nat}{l:List Ch}(hr:CN w a l)(hk:l.length<=k)(hl:l.length+1<=100)(ho:∀ c∈l,c.Ok){c:Ch}(hc:c.Ok)(rule:Int) :
  CP 121 #[.agg s.arr,iv rule,iv n,.slice a l.length k,c.v] w (λ r w'=>r=iv (EM rule s b l c)/\aA w w' []):=by
 refine rj ?_;unfold mE;refine(St.start w).one.ax s.arr λ r1 w1 s1=>s1.ax c.cells.toArray λ r2 w2 s2=>⟨_,_,_,_,_,_,_,_,_,_,_,_,s2.cellsIn 1 rfl,s2.ax #[.slice none 0 0,.slice none 0 0,.slice none 0 0,.slice none 0 0,iv 0,.slice none 0 0] λ r3 w3 s3=>s3.ay 0 rfl (I2 s n a k l) rfl (by simp[I2,Value.oneCell']) λ w4 s4=>?_⟩;have hn:n<s.bd.length:=(List.getElem?_eq_some_iff.1 hb).1;let Acc (x:Bool) (v:Value):Prop:=∀ (w' : World) (R:Ending->World->Prop),aA w w' []->(∀ w'',aA w' w'' []->R (.returned (.bool x)) w'')->cr prog v #[c.v] w' R;refine⟨_,_,_,_,_,_,_,_,_,_,_,_,_,_,_,_,s4.cellsIn 0 rfl,λ v w5=>(1<=rule/\rule<=3)/\Acc (Hf rule s b l c) v/\St w w5 (Sep [ai r2 c.cells.toArray 123,ai r1 s.arr 75,emp]),?_,?_⟩
 ·rintro w5 v ⟨hru,hv,s5⟩ -;refine⟨_,_,_,_,_,_,_,_,_,_,_,_,s5.cellsIn 1 rfl,aj (J6 (n:Int)) ?_⟩;rintro r w6 ⟨rfl,c6⟩;have s6:=s5.quiet c6;refine⟨_,rfl,cF (by simp; omega) ⟨_,bJ s6 0 rfl,aj (bR w6 c.want) ?_⟩⟩;rintro r w7 ⟨rfl,c7⟩;have s7:=s6.quiet c7;have h0:c.want.l.all j8=true:=by
   have:=De.2 hc;rw[uF,Bool.and_eq_true] at this; exact this.2
  rw[h0];refine⟨_,rfl,cF rfl ⟨λ v w8=>Acc (if AH l then decide (c.want=z6) else Hf rule s b l c) v/\St w w8 (Sep [ai r2 c.cells.toArray 123,ai r1 s.arr 75,emp]),?_,aj (JT (hr.av s7.av) (by omega)) ?_⟩⟩
  ·rintro w8 v2 ⟨hv2,s8⟩ -;refine⟨_,_,s8.cellsIn 0 rfl,hv2 _ _ s8.av λ w9 c9=>⟨_,rfl,?_⟩⟩
   cases hx:(if AH l then decide (c.want=z6) else Hf rule s b l c) with
   | false=>exact cT rfl ⟨by rw[EM,if_pos hru,hx]; rfl,(s8.quiet c9).av⟩
   | true=>exact cF rfl ⟨by rw[EM,if_pos hru,hx]; rfl,(s8.quiet c9).av⟩
  ·rintro r w8 ⟨rfl,rfl⟩;refine⟨_,rfl,?_⟩
   cases he:AH l with
   | false=>exact cF rfl ⟨hv,s7⟩
   | true =>
    refine cT rfl ⟨?_,s7⟩;intro w' R _ k;refine bn (by kernel_rfl) (aj (K:=λ r w''=>r=.bool (decide (c.want=z6))/\aA w' w'' []) (nS ?_) ?_)
    ·unfold jo;exact(St.start w').one.ax c.cells.toArray λ r2 w2 s2=>⟨_,bJ s2 0 rfl,by rw[I6.beq_eq],s2.av⟩
    ·rintro r w'' ⟨rfl,hc⟩; exact k w'' hc
 ·have s5:St w w4 (Sep [ai r2 c.cells.toArray 123,ai r1 s.arr 75,emp]):=s4.au [1,2,3]
  by_cases h1:rule=1
  ·subst h1;refine cT rfl ⟨⟨by omega,by omega⟩,?_,s5⟩;intro w' R hw' k;refine bn (by kernel_rfl) (aj (GB (h.av hw') hb (hr.av hw') (by omega) ho hc) ?_);rintro r w'' ⟨rfl,hc⟩; exact k w'' hc
  refine cF (by simpa using h1) ?_
  by_cases h2:rule=2
  ·subst h2;refine cT rfl ⟨_,_,_,_,_,_,_,_,_,_,_,_,_,_,_,_,s4.cellsIn 0 rfl,⟨by omega,by omega⟩,?_,s5⟩;intro w' R hw' k;refine bn (by kernel_rfl) (aj (AM (hr.av hw') hk hl c) ?_);rintro r w'' ⟨rfl,hc⟩; exact k w'' hc
  refine cF (by simpa using h2) ?_
  by_cases h3:rule=3
  ·subst h3;refine cT rfl ⟨_,_,_,_,_,_,_,_,_,_,_,_,_,_,_,_,s4.cellsIn 0 rfl,⟨by omega,by omega⟩,?_,s5⟩;intro w' R hw' k;refine bn (by kernel_rfl) (aj (HQ (h.av hw') hb (hr.av hw') hk hl ho hc) ?_);rintro r w'' ⟨rfl,hc⟩; exact k w'' hc
  exact cF (by simpa using h3) ⟨by rw[EM,if_neg (by omega)],s5.av⟩
def jx(a:Nat)(w:World)(K:KP):=∃ b c d,w.cell? (qd a 8)=some (.slice b c d)/\K (iv (c:Int)) w
theorem oe{b1 w K}(h:jx b1 w K):CP 18 #[.pointer (some ⟨b1,0,none⟩)] w K:=ah (az []) func18 (by kernel_rfl) (by kernel_rfl) h
def iy(a:Nat)(w:World)(K:KP):=an w (.cells z6.vs.toArray 53) λ b c=>∃ d:I6,af c (qd a 9) 0 d.vs/\aK (qd b 0) 0 d.vs c λ a=>∃ c:I6,af a (qd b 0) 0 c.vs/\K (.agg c.vs.toArray) a
theorem nk{b1 w K}(h:iy b1 w K):CP 21 #[.pointer (some ⟨b1,0,none⟩)] w K:=ah (az []) func21 (by kernel_rfl) (by kernel_rfl) h
def gI(a:Nat)(b:Int)(w:World)(K:KP):=∃ c:Bool->qW,(∀ d e,c e d->∀ f:qv,cond e (K qn d) (∃ e f g,d.cell? (qd a 8)=some (.slice e f g)/\∃ g:OA->Nat->Nat->Int->qN,(∃ h,g none 0 0 0 d h)/\∀ d h i j k l,g i j k l d h->∀ m:qv,cond (decide (l<(f:Int))) (aq e λ e=>0<=l/\l<(f:Int)/\∃ f:I6,∃ m n o p q r s t u,af d (Addr.add e ((l).toNat*9)) 0 (f.on [.slice m n o,.slice p q r,.slice s t u])/\an d (.cells #[qz,qz,qz,qz,qz,qz,qn,qn,qn] 57) λ e v=>aK (qd e 0) 0 (f.on [.slice m n o,.slice p q r,.slice s t u]) v λ f=>∃ m:I6,af f.drew (qd e 0) 0 m.vs/\∃ n o p,f.drew.cell? (qd e 6)=some (.slice n o p)/\aq n λ e=>0<=b/\b<(o:Int)/\∃ n:I6,af f.drew (Addr.add e ((b).toNat*6)) 0 n.vs/\an f.drew (.cells (m.on (n.vs):List Value).toArray 123) λ e f=>aP prog (Builtin.append_ #[92,92] 92 #[.slice i j k,.slice (some (qd e 0)) 1 1]) f λ e f=>∃ m n o,e=(.slice m n o)/\∃ e,e<h/\g m n o (IntKind.i64.wrap (l+1)) f e) (K (.slice i j k) d)))/\CC 71 #[qp a,iv b] w λ a b=>∃ d,a=.returned (.bool d)/\c (!d) b
theorem lS{b1 n1 w K}(h:gI b1 n1 w K):CP 36 #[.pointer (some ⟨b1,0,none⟩),iv n1] w K:=ah (az [(6,[(15,.s .bool)]),(122,[(5,.s .slice),(21,.s (.int .i64))])]) func36 (by kernel_rfl) (by kernel_rfl) h
def kB(a:Nat)(w:World)(K:KP):=∃ b c d e f g h i j k l m n o p q r s t,∃ u:I6,∃ v x y z A B C D E F,af w (qd a 0) 0 (.slice b c d :: .slice e f g :: .slice h i j :: .slice k l m :: iv n :: iv o :: iv p :: iv q :: .slice r s t :: u.on [.slice v x y,.slice z A B,.slice C D E,.bool F])/\an w (.cells #[qn,qn,qn,qn,qz,qz,qz,qz,qn,qz,qz,qz,qz,qz,qz,qn,qn,qn,.bool false] 98) λ G H=>aK (qd G 0) 0 (.slice b c d :: .slice e f g :: .slice h i j :: .slice k l m :: iv n :: iv o :: iv p :: iv q :: .slice r s t :: u.on [.slice v x y,.slice z A B,.slice C D E,.bool F]) H λ b=>∃ c d e f g h i j k l m n,af b (qd a 0) 0 [.slice c d e,.slice f g h,.slice i j k,.slice l m n]/\CC 48 #[.agg #[.slice c d e,.slice f g h,.slice i j k,.slice l m n]] b λ b c=>∃ d e f g h i j k l m n o,b=.returned (.agg #[.slice d e f,.slice g h i,.slice j k l,.slice m n o])/\CC 19 #[qp a] c λ b c=>∃ p q r,b=.returned (.slice p q r)/\aK (qd G 0) 0 [.slice d e f,.slice g h i,.slice j k l,.slice m n o] c λ b=>aM b (qd G 8) (.slice p q r) λ b=>∃ c d e,b.drew.cell? (qd a 15)=some (.slice c d e)/\∃ f g h,b.drew.cell? (qd a 16)=some (.slice f g h)/\∃ i j k,b.drew.cell? (qd a 17)=some (.slice i j k)/\CC 49 #[.slice c d e] b.drew λ b c=>∃ d e l,b=.returned (.slice d e l)/\c.cell? (qd a 17)=some (.slice i j k)/\c.cell? (qd a 16)=some (.slice f g h)/\CC 50 #[.slice f g h] c λ b c=>∃ f g h,b=.returned (.slice f g h)/\c.cell? (qd a 17)=some (.slice i j k)/\CC 50 #[.slice i j k] c λ a b=>∃ c i j,a=.returned (.slice c i j)/\aM b (qd G 15) (.slice d e l) λ a=>aM a (qd G 16) (.slice f g h) λ a=>aM a (qd G 17) (.slice c i j) λ a=>K (qp G) a
theorem qi{b1 w K}(h:kB b1 w K):CP 28 #[.pointer (some ⟨b1,0,none⟩)] w K:=ah (az []) func28 (by kernel_rfl) (by kernel_rfl) h
def iz(a:Nat)(w:World)(K:KP):=∃ b c d,w.cell? (qd a 8)=some (.slice b c d)/\CC 41 #[.slice b c d,.func (.func 42) #[] #[]] w λ a b=>∃ c d e,a=.returned (.slice c d e)/\K (.slice c d e) b
theorem nq{b1 w K}(h:iz b1 w K):CP 19 #[.pointer (some ⟨b1,0,none⟩)] w K:=ah (az []) func19 (by kernel_rfl) (by kernel_rfl) h
def mK(a:Nat)(b:Int)(w:World)(K:KP):=cond (decide (b>=0)) (∃ c d e,w.cell? (qd a 17)=some (.slice c d e)/\K (.bool (decide (b<(d:Int)))) w) (K (.bool false) w)
theorem rI{b1 n1 w K}(h:mK b1 n1 w K):CP 71 #[.pointer (some ⟨b1,0,none⟩),iv n1] w K:=ah (az []) func71 (by kernel_rfl) (by kernel_rfl) h
def vL(a:OA)(b c:Nat)(d:OA)(e f:Nat)(g:OA)(h i:Nat)(j:OA)(k l:Nat)(w:World)(K:KP):=an w (.cells #[.slice a b c,.slice d e f,.slice g h i,.slice j k l] 75) λ a b=>an b (.cells #[qn,qn,qn,qn] 75) λ b c=>∃ d e f,c.drew.cell? (qd a 0)=some (.slice d e f)/\∃ g h i,c.drew.cell? (qd a 1)=some (.slice g h i)/\∃ j k l,c.drew.cell? (qd a 2)=some (.slice j k l)/\∃ m n o,c.drew.cell? (qd a 3)=some (.slice m n o)/\CC 82 #[.slice d e f] c.drew λ c d=>∃ e f p,c=.returned (.slice e f p)/\d.cell? (qd a 3)=some (.slice m n o)/\d.cell? (qd a 2)=some (.slice j k l)/\d.cell? (qd a 1)=some (.slice g h i)/\CC 83 #[.slice g h i] d λ c d=>∃ g h i,c=.returned (.slice g h i)/\d.cell? (qd a 3)=some (.slice m n o)/\d.cell? (qd a 2)=some (.slice j k l)/\CC 84 #[.slice j k l] d λ c d=>∃ j k l,c=.returned (.slice j k l)/\d.cell? (qd a 3)=some (.slice m n o)/\CC 85 #[.slice m n o] d λ a c=>∃ d m n,a=.returned (.slice d m n)/\aK (qd b 0) 0 [.slice e f p,.slice g h i,.slice j k l,.slice d m n] c λ a=>∃ c d e f g h i j k l m n,af a (qd b 0) 0 [.slice c d e,.slice f g h,.slice i j k,.slice l m n]/\K (.agg #[.slice c d e,.slice f g h,.slice i j k,.slice l m n]) a
theorem yl{a1 l1 c1 a2 l2 c2 a3 l3 c3 a4 l4 c4 w K}(h:vL a1 l1 c1 a2 l2 c2 a3 l3 c3 a4 l4 c4 w K):CP 48 #[.agg #[.slice a1 l1 c1,.slice a2 l2 c2,.slice a3 l3 c3,.slice a4 l4 c4]] w K:=ah (az []) func48 (by kernel_rfl) (by kernel_rfl) h
def gJ(a:OA)(b c:Nat)(w:World)(K:KP):=aP prog (Instr.makeSlice 54 (iv (b:Int)) (iv (b:Int))) w λ d e=>∃ f g h,d=(.slice f g h)/\aP prog (Builtin.copy_ #[54,54] 3 #[.slice f g h,.slice a b c]) e λ _e1 a=>K (.slice f g h) a
theorem lT{a1 l1 c1 w K}(h:gJ a1 l1 c1 w K):CP 49 #[.slice a1 l1 c1] w K:=ah (az []) func49 (by kernel_rfl) (by kernel_rfl) h
def jA(a:OA)(b c:Nat)(w:World)(K:KP):=aP prog (Instr.makeSlice 55 (iv (b:Int)) (iv (b:Int))) w λ d e=>∃ f g h,d=(.slice f g h)/\aP prog (Builtin.copy_ #[55,55] 3 #[.slice f g h,.slice a b c]) e λ _e1 a=>K (.slice f g h) a
theorem oh{a1 l1 c1 w K}(h:jA a1 l1 c1 w K):CP 50 #[.slice a1 l1 c1] w K:=ah (az []) func50 (by kernel_rfl) (by kernel_rfl) h
def kG(a:OA)(b c:Nat)(d:Value)(w:World)(K:KP):=∃ c:OA->Nat->Nat->Int->qN,(∃ e,c none 0 0 0 w e)/\∀ f e g h i j,c g h i j f e->∀ k:qv,cond (decide (j<(b:Int))) (aq a λ a=>0<=j/\j<(b:Int)/\∃ b:I6,∃ k l m n o p q r s,af f (Addr.add a ((j).toNat*9)) 0 (b.on [.slice k l m,.slice n o p,.slice q r s])/\an f (.cells #[qz,qz,qz,qz,qz,qz,qn,qn,qn] 57) λ a t=>aK (qd a 0) 0 (b.on [.slice k l m,.slice n o p,.slice q r s]) t λ b=>∃ k:I6,∃ l m n o p q r s t,af b (qd a 0) 0 (k.on [.slice l m n,.slice o p q,.slice r s t])/\cr prog d #[.agg (k.on [.slice l m n,.slice o p q,.slice r s t]:List Value).toArray] b λ a b=>∃ d:I6,∃ k l m n o p q r s,a=.returned (.agg (d.on [.slice k l m,.slice n o p,.slice q r s]:List Value).toArray)/\an b (.cells (d.on [.slice k l m,.slice n o p,.slice q r s]:List Value).toArray 57) λ a b=>aP prog (Builtin.append_ #[50,50] 50 #[.slice g h i,.slice (some (qd a 0)) 1 1]) b λ a b=>∃ d k l,a=(.slice d k l)/\∃ a,a<e/\c d k l (IntKind.i64.wrap (j+1)) b a) (K (.slice g h i) f)
theorem qm{a1 l1 c1 v1 w K}(h:kG a1 l1 c1 v1 w K):CP 41 #[.slice a1 l1 c1,v1] w K:=ah (az [(58,[(5,.s .slice),(10,.s (.int .i64))])]) func41 (by kernel_rfl) (by kernel_rfl) h
def iA(a:I6)(b:OA)(c d:Nat)(e:OA)(f g:Nat)(h:OA)(i j:Nat)(w:World)(K:KP):=an w (.cells (a.on [.slice b c d,.slice e f g,.slice h i j]:List Value).toArray 57) λ a b=>an b (.cells #[qz,qz,qz,qz,qz,qz,qn,qn,qn] 57) λ b c=>∃ d e f,c.drew.cell? (qd a 6)=some (.slice d e f)/\∃ g h i,c.drew.cell? (qd a 7)=some (.slice g h i)/\∃ j k l,c.drew.cell? (qd a 8)=some (.slice j k l)/\CC 49 #[.slice d e f] c.drew λ c d=>∃ e f m,c=.returned (.slice e f m)/\d.cell? (qd a 8)=some (.slice j k l)/\d.cell? (qd a 7)=some (.slice g h i)/\CC 49 #[.slice g h i] d λ c d=>∃ g h i,c=.returned (.slice g h i)/\d.cell? (qd a 8)=some (.slice j k l)/\CC 50 #[.slice j k l] d λ c d=>∃ j k l,c=.returned (.slice j k l)/\aM d (qd a 6) (.slice e f m) λ c=>aM c (qd a 7) (.slice g h i) λ c=>aM c (qd a 8) (.slice j k l) λ c=>∃ d:I6,∃ e f g h i j k l m,af c (qd a 0) 0 (d.on [.slice e f g,.slice h i j,.slice k l m])/\aK (qd b 0) 0 (d.on [.slice e f g,.slice h i j,.slice k l m]) c λ a=>∃ c:I6,∃ d e f g h i j k l,af a (qd b 0) 0 (c.on [.slice d e f,.slice g h i,.slice j k l])/\K (.agg (c.on [.slice d e f,.slice g h i,.slice j k l]:List Value).toArray) a
theorem nr{u1 a1 l1 c1 a2 l2 c2 a3 l3 c3 w K}(h:iA u1 a1 l1 c1 a2 l2 c2 a3 l3 c3 w K):CP 42 #[.agg (u1.on [.slice a1 l1 c1,.slice a2 l2 c2,.slice a3 l3 c3]:List Value).toArray] w K:=ah (az []) func42 (by kernel_rfl) (by kernel_rfl) h
def Ay(a:OA)(b c:Nat)(d:OA)(e f:Nat)(g:OA)(h i:Nat)(j:OA)(k l:Nat)(m n o p:Int)(w:World)(K:KP):=an w (.cells #[.slice a b c,.slice d e f,.slice g h i,.slice j k l] 75) λ a b=>an b (.cells #[iv m,iv n,iv o,iv p] 23) λ b c=>∃ d e f g h i j k l m n o,af c (qd a 0) 0 [.slice d e f,.slice g h i,.slice j k l,.slice m n o]/\CC 62 #[.agg #[.slice d e f,.slice g h i,.slice j k l,.slice m n o]] c λ c d=>∃ e,c=.returned (iv e)/\cond (e !=0) (K (.tuple #[.pointer none,iv e]) d) (∃ c e f g,af d (qd b 0) 0 [iv c,iv e,iv f,iv g]/\CC 86 #[.agg #[iv c,iv e,iv f,iv g]] d λ c d=>∃ e,c=.returned (iv e)/\cond (e !=0) (K (.tuple #[.pointer none,iv e]) d) (∃ c:OA->qW,(∀ e f,c f e->∀ g:qv,CC 119 #[.pointer f] e λ e g=>e=.returned (.tuple #[])/\K (.tuple #[.pointer f,qz]) g)/\∃ e f g h i j k l m n o p,af d.drew (qd a 0) 0 [.slice e f g,.slice h i j,.slice k l m,.slice n o p]/\∃ q r s t,af d.drew (qd b 0) 0 [iv q,iv r,iv s,iv t]/\∃ u v x,d.drew.cell? (qd a 0)=some (.slice u v x)/\∃ y z A,d.drew.cell? (qd a 1)=some (.slice y z A)/\(CC 48 #[.agg #[.slice e f g,.slice h i j,.slice k l m,.slice n o p]] d.drew λ B C=>∃ D E F G H I J L M N O P,B=.returned (.agg #[.slice D E F,.slice G H I,.slice J L M,.slice N O P])/\C.cell? (qd a 1)=some (.slice y z A)/\C.cell? (qd a 0)=some (.slice u v x)/\af C (qd b 0) 0 [iv q,iv r,iv s,iv t]/\(CC 118 #[.slice u v x] C λ B Q=>∃ R:I6,B=.returned (.agg R.vs.toArray)/\Q.cell? (qd a 1)=some (.slice y z A)/\af Q (qd b 0) 0 [iv q,iv r,iv s,iv t]/\aP prog (Instr.makeSlice 55 (iv (z:Int)) (iv (z:Int))) Q λ y A=>∃ B Q S,y=(.slice B Q S)/\af A (qd b 0) 0 [iv q,iv r,iv s,iv t]/\an A (.cells (.slice D E F :: .slice G H I :: .slice J L M :: .slice N O P :: iv q :: iv r :: iv s :: iv t :: qn :: R.on [qn,qn,.slice B Q S,.bool false]:List Value).toArray 98) λ y A=>c (some (qd y 0)) A)/\aP prog (Instr.makeSlice 55 (iv (z:Int)) (iv (z:Int))) C λ y A=>∃ B C Q,y=(.slice B C Q)/\A.cell? (qd a 0)=some (.slice u v x)/\af A (qd b 0) 0 [iv q,iv r,iv s,iv t]/\CC 118 #[.slice u v x] A λ y A=>∃ R:I6,y=.returned (.agg R.vs.toArray)/\af A (qd b 0) 0 [iv q,iv r,iv s,iv t]/\an A (.cells (.slice D E F :: .slice G H I :: .slice J L M :: .slice N O P :: iv q :: iv r :: iv s :: iv t :: qn :: R.on [qn,qn,.slice B C Q,.bool false]:List Value).toArray 98) λ y A=>c (some (qd y 0)) A)/\aP prog (Instr.makeSlice 55 (iv (z:Int)) (iv (z:Int))) d.drew λ d y=>∃ z A B,d=(.slice z A B)/\y.cell? (qd a 0)=some (.slice u v x)/\af y (qd b 0) 0 [iv q,iv r,iv s,iv t]/\af y (qd a 0) 0 [.slice e f g,.slice h i j,.slice k l m,.slice n o p]/\CC 48 #[.agg #[.slice e f g,.slice h i j,.slice k l m,.slice n o p]] y λ d e=>∃ f g h i j k l m n o p y,d=.returned (.agg #[.slice f g h,.slice i j k,.slice l m n,.slice o p y])/\e.cell? (qd a 0)=some (.slice u v x)/\af e (qd b 0) 0 [iv q,iv r,iv s,iv t]/\CC 118 #[.slice u v x] e λ a d=>∃ e:I6,a=.returned (.agg e.vs.toArray)/\af d (qd b 0) 0 [iv q,iv r,iv s,iv t]/\an d (.cells (.slice f g h :: .slice i j k :: .slice l m n :: .slice o p y :: iv q :: iv r :: iv s :: iv t :: qn :: e.on [qn,qn,.slice z A B,.bool false]:List Value).toArray 98) λ a b=>c (some (qd a 0)) b))
theorem BK{a1 l1 c1 a2 l2 c2 a3 l3 c3 a4 l4 c4 n1 n2 n3 n4 w K}(h:Ay a1 l1 c1 a2 l2 c2 a3 l3 c3 a4 l4 c4 n1 n2 n3 n4 w K):CP 88 #[.agg #[.slice a1 l1 c1,.slice a2 l2 c2,.slice a3 l3 c3,.slice a4 l4 c4],.agg #[iv n1,iv n2,iv n3,iv n4]] w K:=ah (az [(15,[(8,.s .ptr)])]) func88 (by kernel_rfl) (by kernel_rfl) h
def mJ(a:Nat)(b:Int)(c:I6)(w:World)(K:KP):=an w (.cells c.vs.toArray 34) λ c d=>∃ e,d.cell? (qd a 18)=some (.bool e)/\cond e (K (iv 10) d) (CC 71 #[qp a,iv b] d λ d e=>∃ f,d=.returned (.bool f)/\cond (!f) (K (iv 6) e) (∃ d f g,e.cell? (qd a 17)=some (.slice d f g)/\aq d λ d=>0<=b/\b<(f:Int)/\∃ f,e.cell? (Addr.add d ((b).toNat*1))=some (.bool f)/\cond f (K (iv 10) e) (∃ d:I6,af e.drew (qd a 9) 0 d.vs/\∃ f:I6,af e.drew (qd c 0) 0 f.vs/\an e.drew (.cells #[qz,qz,qz,qz,qz,qz,qz,qz,qz,qz,qz,qz] 123) λ e g=>af g (qd c 0) 0 f.vs/\af g (qd a 9) 0 d.vs/\aK (qd e 0) 0 (d.on (f.vs)) g λ d=>∃ f g h i j k l m n o p q,af d.drew (qd a 0) 0 [.slice f g h,.slice i j k,.slice l m n,.slice o p q]/\∃ r:I6,af d.drew (qd c 0) 0 r.vs/\CC 75 #[.agg #[.slice f g h,.slice i j k,.slice l m n,.slice o p q],iv b,.agg r.vs.toArray] d.drew λ d f=>∃ g,d=.returned (iv g)/\cond (g !=0) (K (iv g) f) (∃ d g h i j k l m n o p q,af f.drew (qd a 0) 0 [.slice d g h,.slice i j k,.slice l m n,.slice o p q]/\∃ r s:I6,af f.drew (qd e 0) 0 (r.on (s.vs))/\CC 120 #[.agg #[.slice d g h,.slice i j k,.slice l m n,.slice o p q],iv b,.agg (r.on (s.vs):List Value).toArray] f.drew λ d f=>∃ g,d=.returned (iv g)/\cond (g !=0) (K (iv g) f) (∃ d g h i j k l m n o p q,af f.drew (qd a 0) 0 [.slice d g h,.slice i j k,.slice l m n,.slice o p q]/\∃ r,f.drew.cell? (qd a 7)=some (iv r)/\∃ s t:I6,af f.drew (qd e 0) 0 (s.on (t.vs))/\CC 36 #[qp a,iv b] f.drew λ f u=>∃ v x y,f=.returned (.slice v x y)/\af u (qd e 0) 0 (s.on (t.vs))/\u.cell? (qd a 7)=some (iv r)/\af u (qd a 0) 0 [.slice d g h,.slice i j k,.slice l m n,.slice o p q]/\CC 121 #[.agg #[.slice d g h,.slice i j k,.slice l m n,.slice o p q],iv r,iv b,.slice v x y,.agg (s.on (t.vs):List Value).toArray] u λ d e=>∃ f,d=.returned (iv f)/\cond (f !=0) (K (iv f) e) (∃ d f g,e.drew.cell? (qd a 15)=some (.slice d f g)/\∃ g h i,e.drew.cell? (qd a 16)=some (.slice g h i)/\∃ a:I6,af e.drew (qd c 0) 0 a.vs/\aq d λ c=>0<=b/\b<(f:Int)/\aK (Addr.add c ((b).toNat*6)) 0 a.vs e.drew λ a=>aq g λ c=>0<=b/\b<(h:Int)/\aM a (Addr.add c ((b).toNat*1)) (.bool true) λ a=>K qz a))))))
theorem rH{b1 n1 u1 w K}(h:mJ b1 n1 u1 w K):CP 89 #[.pointer (some ⟨b1,0,none⟩),iv n1,.agg u1.vs.toArray] w K:=ah (az []) func89 (by kernel_rfl) (by kernel_rfl) h
def jv(a:Nat)(w:World)(K:KP):=∃ b,w.cell? (qd a 18)=some (.bool b)/\cond b (K (.tuple #[.bool false,iv 10]) w) (∃ b c d,w.cell? (qd a 0)=some (.slice b c d)/\CC 34 #[.slice b c d] w λ b c=>∃ d:I6,b=.returned (.agg d.vs.toArray)/\an c (.cells z6.vs.toArray 34) λ b c=>aK (qd b 0) 0 d.vs c λ c=>∃ d e f,c.cell? (qd a 15)=some (.slice d e f)/\CC 49 #[.slice d e f] c λ c d=>∃ e f g,c=.returned (.slice e f g)/\∃ c:OA->Nat->Nat->qW,(∀ h i j k,c i j k h->∀ l:qv,∃ l m n,h.drew.cell? (qd a 8)=some (.slice l m n)/\∃ o:I6,af h.drew (qd a 9) 0 o.vs/\∃ p q r,h.drew.cell? (qd a 15)=some (.slice p q r)/\∃ s t u,h.drew.cell? (qd a 16)=some (.slice s t u)/\an h.drew (.cells (o.on [.slice p q r,.slice i j k,.slice s t u]:List Value).toArray 57) λ h o=>o.cell? (qd a 8)=some (.slice l m n)/\aP prog (Builtin.append_ #[50,50] 50 #[.slice l m n,.slice (some (qd h 0)) 1 1]) o λ h l=>∃ m n o,h=(.slice m n o)/\aM l (qd a 8) (.slice m n o) λ h=>CC 119 #[qp a] h λ h l=>h=.returned (.tuple #[])/\∃ h:I6,af l (qd b 0) 0 h.vs/\CC 124 #[.agg h.vs.toArray,.slice i j k] l λ h i=>∃ j:I6,h=.returned (.agg j.vs.toArray)/\an i (.cells z6.vs.toArray 34) λ h i=>aK (qd h 0) 0 j.vs i λ i=>∃ j:Nat->Int->qW,(∀ k l m,j l m k->∀ n:qv,∃ n:Bool->qW,(∀ o p,n p o->∀ q:qv,cond p (aM o (qd a 18) (.bool true) λ p=>K (.tuple #[.bool true,qz]) p) (∃ p:I6,af o (qd l 0) 0 p.vs/\aK (qd a 9) 0 p.vs o λ l=>K (.tuple #[.bool false,qz]) l))/\∃ l:I6,af k (qd h 0) 0 l.vs/\cond (I6.beq l z6) (n true k) (∃ l o p,k.cell? (qd a 8)=some (.slice l o p)/\cond (decide ((o:Int)>=(30:Int))) (n true k) (n (m !=0) k)))/\∃ k l m n,af i.drew (qd a 4) 0 [iv k,iv l,iv m,iv n]/\∃ o:I6,af i.drew (qd a 9) 0 o.vs/\∃ p:I6,af i.drew (qd h 0) 0 p.vs/\(CC 125 #[.agg #[iv k,iv l,iv m,iv n],.agg o.vs.toArray,.agg p.vs.toArray] i.drew λ q r=>∃ s:I6,∃ t,q=.returned (.tuple #[.agg s.vs.toArray,iv t])/\an r (.cells z6.vs.toArray 53) λ q r=>aK (qd q 0) 0 s.vs r λ r=>j q t r)/\an i.drew (.cells z6.vs.toArray 53) λ i q=>af q (qd h 0) 0 p.vs/\af q (qd a 9) 0 o.vs/\af q (qd a 4) 0 [iv k,iv l,iv m,iv n]/\CC 125 #[.agg #[iv k,iv l,iv m,iv n],.agg o.vs.toArray,.agg p.vs.toArray] q λ h k=>∃ l:I6,∃ m,h=.returned (.tuple #[.agg l.vs.toArray,iv m])/\aK (qd i 0) 0 l.vs k λ h=>j i m h)/\∃ h i j,d.cell? (qd a 8)=some (.slice h i j)/\cond (decide ((i:Int)>(0:Int))) (∃ h,d.drew.cell? (qd a 6)=some (iv h)/\∃ i:I6,af d.drew (qd b 0) 0 i.vs/\∃ j k l,d.drew.cell? (qd a 15)=some (.slice j k l)/\CC 123 #[qp a] d.drew λ m n=>∃ o p q,m=.returned (.slice o p q)/\n.cell? (qd a 15)=some (.slice j k l)/\af n (qd b 0) 0 i.vs/\n.cell? (qd a 6)=some (iv h)/\CC 122 #[iv h,.agg i.vs.toArray,.slice o p q,.slice j k l] n λ a b=>∃ h i j k,a=.returned (.tuple #[.slice h i j,iv k])/\cond (k !=0) (K (.tuple #[.bool false,iv k]) b) (c h i j b)) (c e f g d))
theorem ob{b1 w K}(h:jv b1 w K):CP 90 #[.pointer (some ⟨b1,0,none⟩)] w K:=ah (az [(31,[(5,.s .slice)]),(511,[(9,.s (.blk)),(10,.s (.int .i64))]),(2046,[(111,.s .bool)])]) func90 (by kernel_rfl) (by kernel_rfl) h
def kE(a:Nat)(w:World)(K:KP):=∃ b,w.cell? (qd a 18)=some (.bool b)/\cond b (K (iv 10) w) (CC 119 #[qp a] w λ b c=>b=.returned (.tuple #[])/\aM c (qd a 18) (.bool true) λ a=>K qz a)
theorem ql{b1 w K}(h:kE b1 w K):CP 91 #[.pointer (some ⟨b1,0,none⟩)] w K:=ah (az []) func91 (by kernel_rfl) (by kernel_rfl) h
def kC(a:Nat)(b:Int)(w:World)(K:KP):=∃ c:Bool->qW,(∀ d e,c e d->∀ f:qv,cond e (K (iv 6) d) (∃ e f g,d.cell? (qd a 17)=some (.slice e f g)/\aq e λ e=>0<=b/\b<(f:Int)/\∃ f,d.cell? (Addr.add e ((b).toNat*1))=some (.bool f)/\cond f (K (iv 10) d) (∃ e f g,d.drew.cell? (qd a 17)=some (.slice e f g)/\∃ g h i,d.drew.cell? (qd a 15)=some (.slice g h i)/\∃ i j k,d.drew.cell? (qd a 16)=some (.slice i j k)/\aq e λ e=>0<=b/\b<(f:Int)/\aM d.drew (Addr.add e ((b).toNat*1)) (.bool true) λ d=>aq g λ e=>0<=b/\b<(h:Int)/\aK (Addr.add e ((b).toNat*6)) 0 z6.vs d λ d=>aq i λ e=>0<=b/\b<(j:Int)/\aM d (Addr.add e ((b).toNat*1)) (.bool false) λ d=>K qz d)))/\CC 71 #[qp a,iv b] w λ a b=>∃ d,a=.returned (.bool d)/\c (!d) b
theorem qj{b1 n1 w K}(h:kC b1 n1 w K):CP 94 #[.pointer (some ⟨b1,0,none⟩),iv n1] w K:=ah (az [(12,[(5,.s .bool)])]) func94 (by kernel_rfl) (by kernel_rfl) h
def jw(a:Nat)(b:Int)(w:World)(K:KP):=∃ c:Bool->qW,(∀ d e,c e d->∀ f:qv,cond e (K (iv 4) d) (CC 119 #[qp a] d λ d e=>d=.returned (.tuple #[])/\∃ d:qW,(∀ f,d f->∀ g:qv,aM f (qd a 18) (.bool false) λ f=>K qz f)/\∃ f g h,e.cell? (qd a 8)=some (.slice f g h)/\cond (decide (b<(g:Int))) (∃ f g h,e.cell? (qd a 8)=some (.slice f g h)/\aq f λ f=>0<=b/\b<(g:Int)/\∃ g:I6,af e (Addr.add f ((b).toNat*9)) 0 g.vs/\aK (qd a 9) 0 g.vs e λ f=>∃ g h i,f.cell? (qd a 8)=some (.slice g h i)/\0<=b/\b<=(i:Int)/\CC 128 #[.slice (if i=0 then g else Option.map (λ x=>Addr.add x (0*9)) g) ((b).toNat-0) (i-0)] f λ f g=>∃ h i j,f=.returned (.slice h i j)/\aM g (qd a 8) (.slice h i j) λ f=>d f) (d e)))/\cond (decide (b<0)) (c true w) (∃ d e f,w.cell? (qd a 8)=some (.slice d e f)/\cond (decide (b>(e:Int))) (c true w) (∃ d e f,w.cell? (qd a 8)=some (.slice d e f)/\cond (b==(e:Int)) (∃ b,w.cell? (qd a 18)=some (.bool b)/\c b w) (c false w)))
theorem od{b1 n1 w K}(h:jw b1 n1 w K):CP 95 #[.pointer (some ⟨b1,0,none⟩),iv n1] w K:=ah (az [(51,[(9,.s .bool)]),(31,[])]) func95 (by kernel_rfl) (by kernel_rfl) h
def jy(a:Nat)(w:World)(K:KP):=∃ b c d,w.drew.cell? (qd a 17)=some (.slice b c d)/\∃ e f g,w.drew.cell? (qd a 17)=some (.slice e f g)/\(aP prog (Instr.makeSlice 54 (iv (c:Int)) (iv (c:Int))) w.drew λ h i=>∃ j k l,h=(.slice j k l)/\i.cell? (qd a 17)=some (.slice e f g)/\(aP prog (Instr.makeSlice 55 (iv (f:Int)) (iv (f:Int))) i λ e g=>∃ h m n,e=(.slice h m n)/\aM g (qd a 15) (.slice j k l) λ e=>aM e (qd a 16) (.slice h m n) λ e=>K (.tuple #[]) e)/\aM i (qd a 15) (.slice j k l) λ e=>aP prog (Instr.makeSlice 55 (iv (f:Int)) (iv (f:Int))) e λ e g=>∃ h i j,e=(.slice h i j)/\aM g (qd a 16) (.slice h i j) λ e=>K (.tuple #[]) e)/\aP prog (Instr.makeSlice 55 (iv (f:Int)) (iv (f:Int))) w.drew λ e f=>∃ g h i,e=(.slice g h i)/\f.cell? (qd a 17)=some (.slice b c d)/\aP prog (Instr.makeSlice 54 (iv (c:Int)) (iv (c:Int))) f λ b c=>∃ d e f,b=(.slice d e f)/\aM c (qd a 15) (.slice d e f) λ b=>aM b (qd a 16) (.slice g h i) λ a=>K (.tuple #[]) a
theorem og{b1 w K}(h:jy b1 w K):CP 119 #[.pointer (some ⟨b1,0,none⟩)] w K:=ah (az []) func119 (by kernel_rfl) (by kernel_rfl) h
def fP(a:Nat)(w:World)(K:KP):=∃ b c d,w.drew.cell? (qd a 8)=some (.slice b c d)/\∃ d e f,w.drew.cell? (qd a 8)=some (.slice d e f)/\aq b λ b=>0<=(IntKind.i64.wrap ((e:Int)-(1:Int)))/\(IntKind.i64.wrap ((e:Int)-(1:Int)))<(c:Int)/\∃ c d f,w.drew.cell? (Addr.add (Addr.add b (((IntKind.i64.wrap ((e:Int)-(1:Int)))).toNat*9)) 7)=some (.slice c d f)/\CC 49 #[.slice c d f] w.drew λ b c=>∃ d e f,b=.returned (.slice d e f)/\∃ b g h,c.cell? (qd a 17)=some (.slice b g h)/\∃ a:Int->qN,(∃ h,a 0 c h)/\∀ c h i,a i c h->∀ j:qv,cond (decide (i<(g:Int))) (∃ j:qW,(∀ k,j k->∀ l:qv,∃ l,l<h/\a (IntKind.i64.wrap (i+1)) k l)/\aq b λ a=>0<=i/\i<(g:Int)/\∃ b,c.cell? (Addr.add a ((i).toNat*1))=some (.bool b)/\cond b (aq d λ a=>0<=i/\i<(e:Int)/\aK (Addr.add a ((i).toNat*6)) 0 z6.vs c λ a=>j a) (j c)) (K (.slice d e f) c)
theorem kF{b1 w K}(h:fP b1 w K):CP 123 #[.pointer (some ⟨b1,0,none⟩)] w K:=ah (az [(58,[(25,.s (.int .i64))]),(467,[])]) func123 (by kernel_rfl) (by kernel_rfl) h
def iB(a:OA)(b c:Nat)(w:World)(K:KP):=aP prog (Instr.makeSlice 50 (iv (b:Int)) (iv (b:Int))) w λ d e=>∃ f g h,d=(.slice f g h)/\aP prog (Builtin.copy_ #[50,50] 3 #[.slice f g h,.slice a b c]) e λ _e1 a=>K (.slice f g h) a
theorem nt{a1 l1 c1 w K}(h:iB a1 l1 c1 w K):CP 128 #[.slice a1 l1 c1] w K:=ah (az []) func128 (by kernel_rfl) (by kernel_rfl) h
def sR  (w:World) (K:KP):=K (.pointer none) w
theorem oc{w K}(h:sR w K):CP 28 #[.pointer none] w K:=ah (az []) func28 (by kernel_rfl) (by kernel_rfl) h
theorem RA:hU prog 70 120 (.agg ({ nm:=[],sup:=0,res:=0,pts:=0,grp:=0 }:Pr).cells.toArray) 5 48:=hU.mk' underlying70 (by kernel_rfl) rfl (by decide)
theorem Rx:hU prog 71 137 (.agg ({ nm:=[],cls:=0,bud:=0,pts:=0 }:Br).cells.toArray) 4 40:=hU.mk' underlying71 (by kernel_rfl) rfl (by decide)
theorem Rz:hU prog 72 153 (.agg (⟨0,0,0⟩:T3).cells.toArray) 3 24:=hU.mk' underlying72 (by kernel_rfl) rfl (by decide)
theorem Rw:hU prog 73 156 (.agg (⟨0,0,0⟩:T3).cells.toArray) 3 24:=hU.mk' underlying73 (by kernel_rfl) rfl (by decide)
theorem Pr.len(p:Pr):p.cells.length=5:=rfl
theorem Br.len(p:Br):p.cells.length=4:=rfl
theorem T3.len(p:T3):p.cells.length=3:=rfl
theorem dx.fl{w:World}{a:OA}{l:List Pr}(h:dx w a l):cW 5 Pr.cells w a l:=λ _ p hp=>let ⟨_,q,hq,hc⟩:=h _ p hp; ⟨q,_,hq,hc,rfl,rfl⟩
theorem kf.fl{w:World}{a:OA}{l:List Br}(h:kf w a l):cW 4 Br.cells w a l:=λ _ p hp=>let ⟨_,q,hq,hc⟩:=h _ p hp; ⟨q,_,hq,hc,rfl,rfl⟩
theorem CR.fl{w:World}{a:OA}{l:List T3}(h:CR w a l):cW 3 T3.cells w a l:=λ _ p hp=>let ⟨q,hq,hc⟩:=h _ p hp; ⟨q,_,hq,hc,rfl,rfl⟩
theorem dx.of{w:World}{a:OA}{l:List Pr}(h:cW 5 Pr.cells w a l)(k:∀ p∈l,p.In):dx w a l:=λ _ p hp=>let ⟨q,hq,hc⟩:=h.at hp; ⟨k p (List.mem_of_getElem? hp),q,hq,hc⟩
theorem kf.of{w:World}{a:OA}{l:List Br}(h:cW 4 Br.cells w a l)(k:∀ p∈l,p.In):kf w a l:=λ _ p hp=>let ⟨q,hq,hc⟩:=h.at hp; ⟨k p (List.mem_of_getElem? hp),q,hq,hc⟩
theorem CR.of{w:World}{a:OA}{l:List T3}(h:cW 3 T3.cells w a l):CR w a l:=λ _ _ hp=>let ⟨q,hq,hc⟩:=h.at hp; ⟨q,hq,hc⟩
theorem dx.in{w:World}{a:OA}{l:List Pr}(h:dx w a l):∀ p∈l,p.In:=λ p hp=>let ⟨i,hi⟩:=List.getElem?_of_mem hp; (h i p hi).1
theorem kf.in{w:World}{a:OA}{l:List Br}(h:kf w a l):∀ p∈l,p.In:=λ p hp=>let ⟨i,hi⟩:=List.getElem?_of_mem hp; (h i p hi).1
theorem AD{w:World}{a:OA}{c:Nat}{l:List Pr}(h:cW 5 Pr.cells w a l)(hl:l.length<=1000) :
  CP 82 #[.slice a l.length c] w (λ r w'=>∃ a' c',r=.slice a' l.length c'/\St w w' (bM 120 5 Pr.cells a' c' l)):=by
 refine lg ?_;unfold gw;exact om (c:=c) (K:=λ r w'=>∃ a' c',r=.slice a' l.length c'/\St w w' (bM 120 5 Pr.cells a' c' l)) RA Pr.len Pr.one (St.start w) h (by omega) (by omega) λ a' c' w' s'=>⟨a',c',rfl,s'.first⟩
theorem AA{w:World}{a:OA}{c:Nat}{l:List Br}(h:cW 4 Br.cells w a l)(hl:l.length<=1000) :
  CP 83 #[.slice a l.length c] w (λ r w'=>∃ a' c',r=.slice a' l.length c'/\St w w' (bM 137 4 Br.cells a' c' l)):=by
 refine mj ?_;unfold gN;exact om (c:=c) (K:=λ r w'=>∃ a' c',r=.slice a' l.length c'/\St w w' (bM 137 4 Br.cells a' c' l)) Rx Br.len Br.one (St.start w) h (by omega) (by omega) λ a' c' w' s'=>⟨a',c',rfl,s'.first⟩
theorem AB{w:World}{a:OA}{c:Nat}{l:List T3}(h:cW 3 T3.cells w a l)(hl:l.length<=1000) :
  CP 84 #[.slice a l.length c] w (λ r w'=>∃ a' c',r=.slice a' l.length c'/\St w w' (bM 153 3 T3.cells a' c' l)):=by
 refine qB ?_;unfold kZ;exact om (c:=c) (K:=λ r w'=>∃ a' c',r=.slice a' l.length c'/\St w w' (bM 153 3 T3.cells a' c' l)) Rz T3.len T3.one (St.start w) h (by omega) (by omega) λ a' c' w' s'=>⟨a',c',rfl,s'.first⟩
theorem Az{w:World}{a:OA}{c:Nat}{l:List T3}(h:cW 3 T3.cells w a l)(hl:l.length<=1000) :
  CP 85 #[.slice a l.length c] w (λ r w'=>∃ a' c',r=.slice a' l.length c'/\St w w' (bM 156 3 T3.cells a' c' l)):=by
 refine nJ ?_;unfold iT;exact om (c:=c) (K:=λ r w'=>∃ a' c',r=.slice a' l.length c'/\St w w' (bM 156 3 T3.cells a' c' l)) Rw T3.len T3.one (St.start w) h (by omega) (by omega) λ a' c' w' s'=>⟨a',c',rfl,s'.first⟩
def Se.er(s:Se):Se:={ s with a1:=none,c1:=0,a2:=none,c2:=0,a3:=none,c3:=0,a4:=none,c4:=0 }
structure Se.Sz (s:Se):Prop where
 ps:s.ps.length<=100
 bd:s.bd.length<=100
 cp:s.cp.length<=100
 sa:s.sa.length<=100
theorem Se.Ok.sz{s:Se}(h:s.Ok):s.Sz:=⟨by have:=h.ps.l2; omega,by have:=h.bd.l2; omega,by have:=h.cp.l1; omega,by have:=h.sa.l1; omega⟩
theorem yg{w:World}{S:Se}(h:S.In w)(hz:S.Sz) :
  CP 48 #[.agg S.arr] w (λ r w'=>∃ S' : Se,S'.er=S.er/\r=.agg S'.arr/\St w w' (held S'.In)):=by
 refine yl ?_;unfold vL;obtain⟨z1,z2,z3,z4⟩:=hz;refine(St.start w).one.ax S.arr λ r1 w1 s1=>s1.ax #[.slice none 0 0,.slice none 0 0,.slice none 0 0,.slice none 0 0] λ r2 w2 s2=>?_;have s3:=s2.quiet (aA.drew w2 []);refine⟨_,_,_,s3.ag 1 rfl 0,_,_,_,s3.ag 1 rfl 1,_,_,_,s3.ag 1 rfl 2,_,_,_,s3.ag 1 rfl 3,aj (AD (h.av s3.av).ps.fl (by omega)) ?_⟩;rintro v w3 ⟨a1,c1,rfl,k1⟩;have s4:St w w3 (Sep [_,_,_,_]):=s3.and k1;refine⟨_,_,_,rfl,s4.ag 2 rfl 3,s4.ag 2 rfl 2,s4.ag 2 rfl 1,aj (AA (h.av s4.av).bd.fl (by omega)) ?_⟩;rintro v w4 ⟨a2,c2,rfl,k2⟩;have s5:St w w4 (Sep [_,_,_,_,_]):=s4.and k2;refine⟨_,_,_,rfl,s5.ag 3 rfl 3,s5.ag 3 rfl 2,aj (AB (h.av s5.av).cp.fl (by omega)) ?_⟩;rintro v w5 ⟨a3,c3,rfl,k3⟩;have s6:St w w5 (Sep [_,_,_,_,_,_]):=s5.and k3;refine⟨_,_,_,rfl,s6.ag 4 rfl 3,aj (Az (h.av s6.av).sa.fl (by omega)) ?_⟩;rintro v w6 ⟨a4,c4,rfl,k4⟩;have s7:St w w6 (Sep [_,_,_,_,_,_,_]):=s6.and k4;let S' : Se:={ S with a1:=a1,c1:=c1,a2:=a2,c2:=c2,a3:=a3,c3:=c3,a4:=a4,c4:=c4 };refine⟨_,_,_,rfl,s7.ay 4 rfl S'.arr.toList rfl (by simp[S',Se.arr,Value.oneCell']) λ w7 s8=>⟨_,_,_,_,_,_,_,_,_,_,_,_,s8.cellsIn 4 rfl,S',rfl,rfl,?_⟩⟩;have q4:=St.mU (s8.out 0 rfl); have q3:=St.mU (s8.out 1 rfl); have q2:=St.mU (s8.out 2 rfl); have q1:=St.mU (s8.out 3 rfl);exact((s8.au [0,1,2,3]).held ((bD T3.len).cons ((bD T3.len).cons ((bD Br.len).cons ((bD Pr.len).cons gR.nil))))).weak (pS λ w' ⟨i4,i3,i2,i1,_⟩=>⟨dx.of i1 h.ps.in,kf.of i2 h.bd.in,CR.of i3,CR.of i4,q1.1,q2.1,q3.1,q4.1⟩)
abbrev bl (b:Bool):List Value:=[.bool b]
theorem iu(b:Bool):(bl b).length=1:=rfl
theorem OZ(b:Bool):∀ v∈bl b,v.oneCell' = true:=by intro v hv; simp at hv; subst hv; rfl
structure Rn where
 p:I6
 ask:List I6
 got:List I6
 bd:List Bool
 xa:Option Addr
 xc:Nat
 ga:Option Addr
 gc:Nat
 ba:Option Addr
 bc:Nat
def Rn.cells(x:Rn):List Value:=x.p.on [.slice x.xa x.ask.length x.xc,.slice x.ga x.got.length x.gc,.slice x.ba x.bd.length x.bc]
theorem Rn.len(x:Rn):x.cells.length=9:=rfl
theorem Rn.one(x:Rn):∀ v∈x.cells,v.oneCell' = true:=by
 intro v hv; simp[Rn.cells,I6.on] at hv; rcases hv with rfl|rfl|rfl|rfl|rfl|rfl|rfl|rfl|rfl<;>rfl
def Rn.er(x:Rn):Rn:={ x with xa:=none,xc:=0,ga:=none,gc:=0,ba:=none,bc:=0 }
def RM:Rn:=⟨z6,[],[],[],none,0,none,0,none,0⟩
structure Rn.In (x:Rn) (w:World):Prop where
 ask:cW 6 I6.vs w x.xa x.ask
 got:cW 6 I6.vs w x.ga x.got
 bd:cW 1 bl w x.ba x.bd
theorem Rn.In.av{x:Rn}{w w' : World}(h:x.In w)(hc:aA w w' []):x.In w':=⟨h.ask.av hc,h.got.av hc,h.bd.av hc⟩
structure Rn.Sz (n:Nat) (x:Rn):Prop where
 ask:x.ask.length=n
 got:x.got.length=n
 bd:x.bd.length=n
theorem FP:hU prog 55 4 (.bool false) 1 1:=hU.mk' underlying55 (by kernel_rfl) rfl (by decide)
theorem Qn:hU prog 50 57 (.agg RM.cells.toArray) 9 120:=hU.mk' underlying50 (by kernel_rfl) rfl (by decide)
abbrev IE (a:OA) (c:Nat) (l:List Bool):aD:=bM 4 1 bl a c l
abbrev EJ (a:OA) (c:Nat) (l:List Rn):aD:=bM 57 9 Rn.cells a c l
theorem kK{w:World}{a:OA}{c:Nat}{l:List I6}(h:cW 6 I6.vs w a l)(hl:l.length<=1000) :
  CP 49 #[.slice a l.length c] w (λ r w'=>∃ g,r=.slice (some ⟨g,0,none⟩) l.length l.length/\St w w' (A9 (some ⟨g,0,none⟩) l.length l)):=by
 refine lT ?_;unfold gJ;exact uJ (c:=c) (x0:=z6) (K:=λ r w'=>∃ g,r=.slice (some ⟨g,0,none⟩) l.length l.length/\St w w' (A9 (some ⟨g,0,none⟩) l.length l)) NB cG I6.one rfl (St.start w) h (by omega) (by omega) λ g w' s'=>⟨g,rfl,s'.first⟩
theorem uK{w:World}{a:OA}{c:Nat}{l:List Bool}(h:cW 1 bl w a l)(hl:l.length<=1000) :
  CP 50 #[.slice a l.length c] w (λ r w'=>∃ g,r=.slice (some ⟨g,0,none⟩) l.length l.length/\St w w' (IE (some ⟨g,0,none⟩) l.length l)):=by
 refine oh ?_;unfold jA;exact uJ (c:=c) (x0:=false) (K:=λ r w'=>∃ g,r=.slice (some ⟨g,0,none⟩) l.length l.length/\St w w' (IE (some ⟨g,0,none⟩) l.length l)) FP iu OZ rfl (St.start w) h (by omega) (by omega) λ g w' s'=>⟨g,rfl,s'.first⟩
theorem HM{w:World}{a:OA}{c:Nat}{l:List Rn}(h:cW 9 Rn.cells w a l)(hl:l.length<=1000) :
  CP 128 #[.slice a l.length c] w (λ r w'=>∃ g,r=.slice (some ⟨g,0,none⟩) l.length l.length/\St w w' (EJ (some ⟨g,0,none⟩) l.length l)):=by
 refine nt ?_;unfold iB;exact uJ (c:=c) (x0:=RM) (K:=λ r w'=>∃ g,r=.slice (some ⟨g,0,none⟩) l.length l.length/\St w w' (EJ (some ⟨g,0,none⟩) l.length l)) Qn Rn.len Rn.one rfl (St.start w) h (by omega) (by omega) λ g w' s'=>⟨g,rfl,s'.first⟩
theorem Iw{w:World}{x:Rn}{n:Nat}(h:x.In w)(hz:x.Sz n)(hn:n<=1000) :
  CP 42 #[.agg x.cells.toArray] w (λ r w'=>∃ x' : Rn,x'.er=x.er/\r=.agg x'.cells.toArray/\St w w' (held x'.In)):=by
 refine nr ?_;unfold iA;have z1:=hz.ask; have z2:=hz.got; have z3:=hz.bd;refine(St.start w).one.ax x.cells.toArray λ r1 w1 s1=>s1.ax RM.cells.toArray λ r2 w2 s2=>?_;have s3:=s2.quiet (aA.drew w2 []);refine⟨_,_,_,s3.ag 1 rfl 6,_,_,_,s3.ag 1 rfl 7,_,_,_,s3.ag 1 rfl 8,aj (kK (h.av s3.av).ask (by omega)) ?_⟩;rintro v w3 ⟨a1,rfl,k1⟩;have s4:St w w3 (Sep [_,_,_,_]):=s3.and k1;refine⟨_,_,_,rfl,s4.ag 2 rfl 8,s4.ag 2 rfl 7,aj (kK (h.av s4.av).got (by omega)) ?_⟩;rintro v w4 ⟨a2,rfl,k2⟩;have s5:St w w4 (Sep [_,_,_,_,_]):=s4.and k2;refine⟨_,_,_,rfl,s5.ag 3 rfl 8,aj (uK (h.av s5.av).bd (by omega)) ?_⟩;rintro v w5 ⟨a3,rfl,k3⟩;have s6:St w w5 (Sep [_,_,_,_,_,_]):=s5.and k3;let x' : Rn:={ x with xa:=some ⟨a1,0,none⟩,xc:=x.ask.length,ga:=some ⟨a2,0,none⟩,gc:=x.got.length,ba:=some ⟨a3,0,none⟩,bc:=x.bd.length };refine⟨_,_,_,rfl,s6.aJ 4 rfl (j:=6) (show 6<9 by decide) rfl λ w6 s7=>s7.aJ 4 rfl (j:=7) (show 7<9 by decide) rfl λ w7 s8=>s8.aJ 4 rfl (j:=8) (show 8<9 by decide) rfl λ w8 s9=>?_⟩;refine⟨x.p,_,_,_,_,_,_,_,_,_,s9.cellsIn 4 rfl,s9.ay 3 rfl x'.cells rfl x'.one λ w9 s10=>⟨x.p,_,_,_,_,_,_,_,_,_,s10.cellsIn 3 rfl,x',rfl,rfl,?_⟩⟩;exact((s10.au [0,1,2]).held ((bD iu).cons ((bD cG).cons ((bD cG).cons gR.nil)))).weak (pS λ w' ⟨i3,i2,i1,_⟩=>⟨i1,i2,i3⟩)
theorem Mo{l l' : List Rn}{k:Nat}{x x' : Rn}(h:l'.map Rn.er=(l.take k).map Rn.er)(hx:l[k]?=some x)(e:x'.er=x.er):(l'++[x']).map Rn.er=(l.take (k+1)).map Rn.er:=by
 rw[aG hx,List.map_append,List.map_append,h,List.map_singleton,List.map_singleton,e]
abbrev iq (l:List Rn) (w:World):Prop:=∀ x∈l,x.In w
theorem Pc{w:World}{a:OA}{c:Nat}{l:List Rn}{n:Nat}(h:cW 9 Rn.cells w a l)(hi:iq l w)(hz:∀ x∈l,x.Sz n)(hn:n<=1000)(hl:l.length<=1000) :
  CP 41 #[.slice a l.length c,.func (.func 42) #[] #[]] w (λ r w'=>∃ l' a' c',l'.map Rn.er=l.map Rn.er/\r=.slice a' l'.length c'/\St w w' (star (EJ a' c' l') (held (iq l')))):=by
 refine qm ?_;unfold kG;refine⟨λ a2 l2 c2 n1 w1 m=>∃ (k:Nat) (l' : List Rn),n1=k/\k<=l.length/\m=l.length-k/\l2=l'.length/\l'.length=k/\l'.map Rn.er=(l.take k).map Rn.er/\St w w1 (Sep [EJ a2 c2 l',held (iq l'),emp]),⟨l.length,0,[],rfl,by omega,by omega,rfl,rfl,rfl,((St.start w).one.vT (λ _=>by simp[iq])).cv⟩,?_⟩
 rintro w1 m a2 l2 c2 n1 ⟨k,l',rfl,hk,hm,rfl,hlen,he,s1⟩ -
 by_cases hlt:(k:Int)<(l.length:Int)
 ·have hx:l[k]?=some (l[k]'(by omega)):=gE (by omega);generalize l[k]'(by omega)=x at hx;have hm:=List.mem_of_getElem? hx;obtain⟨q,hq,hcl⟩:=(h.av s1.av).at hx;refine cT (dT hlt) (ak hq ⟨by omega,by omega,x.p,_,_,_,_,_,_,_,_,_,hcl,s1.ax RM.cells.toArray λ r1 w2 s2=>s2.ay 0 rfl x.cells rfl x.one λ w3 s3=>⟨x.p,_,_,_,_,_,_,_,_,_,s3.cellsIn 0 rfl,?_⟩⟩);refine bn (by kernel_rfl) (aj (Iw ((hi x hm).av s3.av) (hz x hm) hn) ?_);rintro v w4 ⟨x',ex,rfl,k4⟩;have s4:St w w4 (Sep [held x'.In,_,EJ a2 c2 l',held (iq l'),emp]):=s3.and k4;refine⟨x'.p,_,_,_,_,_,_,_,_,_,rfl,cK Qn Rn.len (x:=x') x'.one (s4.out 2 rfl) (by omega) (by omega) (λ a' c' w' s5=>?_) rfl⟩;refine⟨l.length-(k+1),by omega,k+1,l'++[x'],aB ⟨by omega,by omega⟩,by omega,rfl,rfl,by simp[hlen],Mo he hx ex,?_⟩;have s6:St w w' (Sep [_,_,_,_,_]):=s5;exact(((s6.au [3,1,0,4]).qQ (aZ _) (aZ _) λ w'' h1 h2 y hy=>(List.mem_append.1 hy).elim (h1 y) λ e=>by rw[List.mem_singleton.1 e]; exact h2).au [1,0,2])
 ·obtain rfl:l.length=k:=by omega
  rw[List.take_length] at he;exact cF (dF hlt) ⟨l',_,_,he,rfl,s1.au [0,1] |>.pair⟩
structure Ck where
 s:Se
 o:Po
 cl:List Rn
 p:I6
 ask:List I6
 bd:List Bool
 dp:List Bool
 ov:Bool
 ka:Option Addr
 kc:Nat
 xa:Option Addr
 xc:Nat
 ya:Option Addr
 yc:Nat
 za:Option Addr
 zc:Nat
def Ck.cells(C:Ck):List Value:=(.slice C.s.a1 C.s.ps.length C.s.c1) :: ((.slice C.s.a2 C.s.bd.length C.s.c2) :: ((.slice C.s.a3 C.s.cp.length C.s.c3) :: ((.slice C.s.a4 C.s.sa.length C.s.c4) :: ((iv C.o.step) :: ((iv C.o.pct) :: ((iv C.o.und) :: ((iv C.o.rule) :: ((.slice C.ka C.cl.length C.kc) :: (C.p.on [.slice C.xa C.ask.length C.xc,.slice C.ya C.bd.length C.yc,.slice C.za C.dp.length C.zc,.bool C.ov])))))))))
theorem Ck.one(C:Ck):∀ v∈C.cells,v.oneCell' = true:=by
 intro v hv; simp[Ck.cells,I6.on] at hv;rcases hv with rfl|rfl|rfl|rfl|rfl|rfl|rfl|rfl|rfl|rfl|rfl|rfl|rfl|rfl|rfl|rfl|rfl|rfl|rfl<;>rfl
def Ck.er(C:Ck):Ck:={ C with s:=C.s.er,cl:=C.cl.map Rn.er,ka:=none,kc:=0,xa:=none,xc:=0,ya:=none,yc:=0,za:=none,zc:=0 }
structure OL (S:Se) (cl:List Rn) (w:World):Prop where
 s:S.In w
 cl:iq cl w
abbrev Ck.In (C:Ck):World->Prop:=OL C.s C.cl
theorem OL.av{S:Se}{cl:List Rn}{w w' : World}(h:OL S cl w)(hc:aA w w' []):OL S cl w':=⟨h.s.av hc,λ x hx=>(h.cl x hx).av hc⟩
structure Ck.Rd (b:Nat) (C:Ck) (w:World):Prop where
 me:af w ⟨b,0,none⟩ 0 C.cells
 ask:cW 6 I6.vs w C.xa C.ask
 bd:cW 1 bl w C.ya C.bd
 dp:cW 1 bl w C.za C.dp
 cl:cW 9 Rn.cells w C.ka C.cl
 i:C.In w
theorem Ck.Rd.av{b:Nat}{C:Ck}{w w' : World}(h:C.Rd b w)(hc:aA w w' []):C.Rd b w':=⟨bC hc h.me,h.ask.av hc,h.bd.av hc,h.dp.av hc,h.cl.av hc,h.i.av hc⟩
def dI(b:Nat)(C:Ck):List aD:=[ai b C.cells.toArray 98,A9 C.xa C.xc C.ask,IE C.ya C.yc C.bd,IE C.za C.zc C.dp,EJ C.ka C.kc C.cl,held C.In]
theorem L6{r:Nat}{cs:Array Value}{T:TypeId}:gR (ai r cs T) λ w=>af w ⟨r,0,none⟩ 0 cs.toList:=λ w F h=>by
 have s:St w w (Sep []):=St.start w;obtain⟨h1,rfl⟩:=h;refine aY _ 0 λ j v hj=>?_;rw[p8,Nat.zero_add];simp only[World.cell?,h1];simpa using hj
theorem yj{b:Nat}{C:Ck}:gR (Sep (dI b C)) (C.Rd b) :=
 gR.mono (L6.cons ((bD cG).cons ((bD iu).cons ((bD iu).cons ((bD Rn.len).cons ((aZ _).cons gR.nil)))))) λ _ ⟨h1,h2,h3,h4,h5,h6,_⟩=>⟨h1,h2,h3,h4,h5,h6⟩
structure Ck.Ok (C:Ck):Prop where
 s:C.s.Ok
 o:C.o.ok
 cl:C.cl.length<=30
 cz:∀ x∈C.cl,x.Sz C.s.bd.length
 cp:∀ x∈C.cl,nF x.p=true
 ca:∀ x∈C.cl,∀ u∈x.ask,I6.Le u 4
 cg:∀ x∈C.cl,∀ u∈x.got,I6.Le u 4
 p:nF C.p=true
 ask:C.ask.length=C.s.bd.length
 bd:C.bd.length=C.s.bd.length
 dp:C.dp.length=C.s.bd.length
 asked:∀ u∈C.ask,I6.Le u 4
section
variable {b:Nat} {C:Ck} {w:World}
theorem Ck.Rd.cell(h:C.Rd b w)(j:Nat){v:Value}(e:C.cells[j]?=some v):w.cell? ⟨b,j,none⟩=some v:=by
 have:=aL h.me j v e
 rwa [Nat.zero_add,p8] at this
theorem Ck.Rd.aF(h:C.Rd b w)(j:Nat){vs:List Value}(hv:(C.cells.drop j).take vs.length=vs):af w ⟨b,j,none⟩ 0 vs :=
 aY _ 0 λ k v hk=>by
  have hl:k<vs.length:=(List.getElem?_eq_some_iff.1 hk).1;have ha:(⟨b,j,none⟩:Addr).add (0+k)=⟨b,j+k,none⟩:=by unfold Addr.add; split<;>simp_all
  have h2:((C.cells.drop j).take vs.length)[k]?=vs[k]?:=by rw[hv]
  rw[List.getElem?_take,if_pos hl,List.getElem?_drop,hk] at h2;rw[ha]; exact h.cell _ h2
theorem E7(h:C.Rd b w)(n:Int):CP 71 #[.pointer (some ⟨b,0,none⟩),iv n] w (λ r w'=>r=.bool (decide (0<=n)&&decide (n<(C.dp.length:Int)))/\w' = w):=by
 refine rI ?_;unfold mK
 by_cases g:n>=0
 ·exact cT (dT g) ⟨_,_,_,h.cell 17 rfl,by rw[dT g]; rfl,rfl⟩
 ·exact cF (dF g) ⟨by rw[dF (by omega)]; rfl,rfl⟩
theorem tj(h:C.Rd b w):CP 18 #[.pointer (some ⟨b,0,none⟩)] w (λ r w'=>r=iv C.cl.length/\w' = w):=by
 refine oe ?_;unfold jx;exact⟨_,_,_,h.cell 8 rfl,rfl,rfl⟩
theorem uT(h:C.Rd b w):CP 21 #[.pointer (some ⟨b,0,none⟩)] w (λ r w'=>r=.agg C.p.vs.toArray/\aA w w' []):=by
 refine nk ?_;unfold iy;refine(St.start w).one.ax z6.vs.toArray λ r1 w1 s1=>⟨C.p,(h.av s1.av).aF 9 rfl,s1.ay 0 rfl C.p.vs rfl C.p.one λ w2 s2=>⟨C.p,s2.cellsIn 0 rfl,rfl,s2.av⟩⟩
theorem uU(h:C.Rd b w)(hk:C.Ok):CP 19 #[.pointer (some ⟨b,0,none⟩)] w (λ r w'=>∃ l' a' c',l'.map Rn.er=C.cl.map Rn.er/\r=.slice a' l'.length c'/\St w w' (star (EJ a' c' l') (held (iq l')))):=by
 refine nq ?_;unfold iz;refine⟨_,_,_,h.cell 8 rfl,aj (Pc h.cl h.i.cl hk.cz (by have:=hk.s.bd.l2; omega) (by have:=hk.cl; omega)) ?_⟩;rintro v w1 ⟨l',a',c',e,rfl,s⟩;exact⟨_,_,_,rfl,l',a',c',e,rfl,s⟩
def qL(C:Ck)(n:Nat):List Ch:=C.cl.map λ x=>⟨x.p,x.ask.getD n z6⟩
theorem uI(h:C.Rd b w)(hk:C.Ok){n:Nat}(hn:n<C.s.bd.length):CP 36 #[.pointer (some ⟨b,0,none⟩),iv n] w (λ r w'=>∃ a' c',r=.slice a' (qL C n).length c'/\St w w' (bM 123 12 Ch.cells a' c' (qL C n))):=by
 refine lS ?_;unfold gI;have hd:=hk.dp; have hl:=hk.cl;refine⟨λ b w1=>b=false/\w1=w,?_,aj (E7 h n) ?_⟩
 ·rintro w1 b ⟨rfl,rfl⟩ -;refine cF rfl ⟨_,_,_,h.cell 8 rfl,λ a2 l2 c2 n2 w2 m=>∃ k:Nat,n2=k/\k<=C.cl.length/\m=C.cl.length-k/\l2=((qL C n).take k).length/\St w1 w2 (star (bM 123 12 Ch.cells a2 c2 ((qL C n).take k)) emp),⟨C.cl.length,0,rfl,by omega,by omega,rfl,(St.start w1).cv⟩,?_⟩;rintro w2 m a2 l2 c2 n2 ⟨k,rfl,hk1,hm,rfl,s2⟩ -
  by_cases hlt:(k:Int)<(C.cl.length:Int)
  ·have hx:C.cl[k]?=some (C.cl[k]'(by omega)):=gE (by omega);generalize C.cl[k]'(by omega)=x at hx;have hm:=List.mem_of_getElem? hx;have za:=(hk.cz x hm).ask;obtain⟨q,hq,hcl⟩:=(h.cl.av s2.av).at hx;refine cT (dT hlt) (ak hq ⟨by omega,by omega,x.p,_,_,_,_,_,_,_,_,_,hcl,s2.ax (l:=[_]) RM.cells.toArray λ r1 w3 s3=>s3.ay 0 rfl x.cells rfl x.one λ w4 s4=>?_⟩);have s5:=s4.quiet (aA.drew w4 []);have hu:x.ask[n]?=some (x.ask.getD n z6):=by rw[List.getD_eq_getElem?_getD,gE (by omega)]; rfl
   obtain⟨q2,hq2,hcl2⟩:=((h.i.cl x hm).av s5.av).ask.at hu;refine⟨x.p,s5.aF 0 0 rfl rfl,_,_,_,s5.ag 0 rfl 6,ak hq2 ⟨by omega,by omega,_,hcl2,?_⟩⟩;have hch:(qL C n)[k]?=some ⟨x.p,x.ask.getD n z6⟩:=by simp[qL,hx]
   have hlen:((qL C n).take k).length=k:=by simp[qL]; omega
   refine cK Ry Ch.len (x:=⟨x.p,x.ask.getD n z6⟩) (Ch.one _) (s5.out 1 rfl) (by omega) (by omega) (λ a' c' w5 s6=>?_) rfl;refine⟨C.cl.length-(k+1),by omega,k+1,aB ⟨by omega,by omega⟩,by omega,rfl,?_,?_⟩
   ·rw[aG hch]
   ·rw[aG hch]; exact s6.first.one
  ·obtain rfl:C.cl.length=k:=by omega
   rw[List.take_of_length_le (by simp[qL])] at s2 ⊢;exact cF (dF hlt) ⟨_,_,rfl,s2.first⟩
 ·rintro r w1 ⟨rfl,rfl⟩;exact⟨_,rfl,by simp; omega,rfl⟩
end
