import Derived.Test.YtpihmghnbplohaaGreatDoorQ05
set_option linter.unusedVariables false
set_option maxRecDepth 100000
namespace Go.Proofs.YtpihmghnbplohaaGreatDoor
open Go Go.Vc Tryz
inductive Xv where
 | mk (op:Int) (u:I6) (v:Int) (a:OA) (c:Nat) (args:List Xv)
def Xv.op:Xv->Int|.mk op _ _ _ _ _=>op
def Xv.u:Xv->I6|.mk _ u _ _ _ _=>u
def Xv.v:Xv->Int|.mk _ _ v _ _ _=>v
def Xv.a:Xv->Option Addr|.mk _ _ _ a _ _=>a
def Xv.c:Xv->Nat|.mk _ _ _ _ c _=>c
def Xv.args:Xv->List Xv|.mk _ _ _ _ _ l=>l
def Xv.cells(x:Xv):List Value:=iv x.op :: x.u.on [iv x.v,.slice x.a x.args.length x.c]
theorem Xv.len(x:Xv):x.cells.length=9:=rfl
theorem Xv.one(x:Xv):∀ v∈x.cells,v.oneCell' = true:=by
 intro v hv; simp[Xv.cells,I6.on] at hv; rcases hv with rfl|rfl|rfl|rfl|rfl|rfl|rfl|rfl|rfl<;>rfl
def Xv.er:Xv->Xv
 | .mk op u v _ _ args=>.mk op u v none 0 (args.map Xv.er)
theorem Xv.rY(x:Xv):x.er=.mk x.op x.u x.v none 0 (x.args.map Xv.er):=by cases x; rw[Xv.er]; rfl
inductive Xv.In (w:World):Xv->Prop where
 | mk {x:Xv} (h:dx 9 Xv.cells w x.a x.args) (k:∀ y∈x.args,Xv.In w y):Xv.In w x
theorem Xv.In.fl{w:World}{x:Xv}(h:x.In w):dx 9 Xv.cells w x.a x.args:=by cases h; assumption
theorem Xv.In.sub{w:World}{x:Xv}(h:x.In w):∀ y∈x.args,y.In w:=by cases h; assumption
theorem Xv.In.aC{w w' : World}{x:Xv}(h:x.In w)(hc:aD w w' []):x.In w':=by
 induction h with
 | mk h k ih=>exact .mk (h.aC hc) ih
def fj:Xv:=.mk 0 z6 0 none 0 []
theorem IY:fj.er=fj:=by rw[fj,Xv.er]; rfl
theorem Zy:fZ prog 107 109 (.agg fj.cells.toArray) 9 88:=fZ.mk' underlying107 (by kernel_rfl) rfl (by decide)
abbrev ZU (a:OA) (c:Nat) (l:List Xv):aJ:=cJ 109 9 Xv.cells a c l
abbrev P1 (l:List Xv) (w:World):Prop:=∀ x∈l,x.In w
def iy(g:Sc->Xv×Sc)(σ:Sc):Xv×Sc:=if σ.2≠0 then (fj,σ) else g σ
def iA(g:Sc->Xv×Sc):Nat->List Xv->Sc->List Xv×Sc
 | 0,acc,σ=>(acc,σ)
 | n+1,acc,σ=>if ox [44] σ.1 σ.2 then iA g n (acc++[(iy g (σ.acc [44])).1]) (iy g (σ.acc [44])).2 else (acc,σ)
def cE(t:Tk):Int:=if t.k=1 then Ou t.t else 1
def xZ(σ:Sc):Sc:=if cE (aX σ.1 σ.2)=0 then σ.fail 2 else σ
def M9(ps:List Pr)(g:Sc->Xv×Sc)(op:Int)(a1:Xv)(σ:Sc):Xv×Sc :=
 if op=2\/op=3 then (.mk op z6 0 none 0 (iA g σ.1.length [a1] σ).1,(iA g σ.1.length [a1] σ).2.exp [41])
 else if op=4 then (.mk op (bt ps (σ.exp [44])).1.1 (bt ps (σ.exp [44])).1.2 none 0 [a1],(bt ps (σ.exp [44])).2.exp [41])
 else if op=5 then (.mk op z6 (vI 1000000 (σ.exp [44]).1 (σ.exp [44]).2) none 0 [a1],((σ.exp [44]).rR 1000000).exp [41])
 else (.mk op z6 0 none 0 [a1],σ.exp [41])
def Bi(σ:Sc):Sc:=(xZ σ).next.exp [40]
def ig(ps:List Pr):Nat->Sc->Xv×Sc
 | 0,σ=>(fj,σ)
 | f+1,σ =>
  if cE (aX σ.1 σ.2)=1 then (.mk 1 (bt ps (xZ σ)).1.1 (bt ps (xZ σ)).1.2 none 0 [],(bt ps (xZ σ)).2)
  else M9 ps (ig ps f) (cE (aX σ.1 σ.2)) (iy (ig ps f) (Bi σ)).1 (iy (ig ps f) (Bi σ)).2
theorem vR(m:List UInt8)(σ:Sc):(σ.exp m).1.length<=σ.1.length:=dO _ _ _
theorem GG(ps:List Pr):∀ (f:Nat) (b:I6) (σ:Sc),(uZ ps f b σ).2.1.length<=σ.1.length
 | 0,_,_=>Nat.le_refl _
 | f+1,b,σ=>by
  rw[uZ]
  split
  ·exact Nat.le_trans (GG ps f _ _) (Nat.le_trans (DD _ _ _) (dO _ _ _))
  ·exact Nat.le_refl _
theorem Su(ps:List Pr)(σ:Sc):(kN ps σ).2.1.length<=σ.1.length:=by
 unfold kN
 split
 ·exact Nat.le_refl _
 ·split
  ·exact Nat.le_trans (dO _ _ _) (dO _ _ _)
  ·have h1:(GD ps (σ.exp [123])).2.1.length<=(uZ ps (gT ps z6 (σ.exp [123])).2.1.length (gT ps z6 (σ.exp [123])).1 (gT ps z6 (σ.exp [123])).2).2.1.length:=by
    unfold GD GF
    split
    ·exact dO _ _ _
    ·exact dO _ _ _
   exact Nat.le_trans h1 (Nat.le_trans (GG ps _ _ _) (Nat.le_trans (DD _ _ _) (dO _ _ _)))
theorem VN(σ:Sc):(R7 σ).1.length<=σ.1.length:=by unfold R7; split; exact Nat.le_refl _; split; exact Nat.le_refl _; exact Nat.le_refl _
theorem qV(ps:List Pr)(σ:Sc):(bt ps σ).2.1.length<=σ.1.length :=
 Nat.le_trans (zb _ _ _) (Nat.le_trans (dO _ _ _) (Nat.le_trans (Su _ _) (VN _)))
theorem HF(σ:Sc):(xZ σ).1.length<=σ.1.length:=by unfold xZ; split; exact Nat.le_refl _; exact Nat.le_refl _
theorem HG(σ:Sc):(Bi σ).1.length<=σ.1.length:=Nat.le_trans (dO _ _ _) (Nat.le_trans (yO _ _) (HF σ))
section
variable {g:Sc->Xv×Sc} (hg:∀ σ,(g σ).2.1.length<=σ.1.length)
include hg
theorem yG(σ:Sc):(iy g σ).2.1.length<=σ.1.length:=by unfold iy; split; exact Nat.le_refl _; exact hg _
theorem E3:∀ (n:Nat) (acc:List Xv) (σ:Sc),(iA g n acc σ).2.1.length<=σ.1.length
 | 0,_,_=>Nat.le_refl _
 | n+1,acc,σ=>by
  rw[iA]
  split
  ·exact Nat.le_trans (E3 n _ _) (Nat.le_trans (yG hg _) (dO _ _ _))
  ·exact Nat.le_refl _
theorem UQ(ps:List Pr)(op:Int)(a1:Xv)(σ:Sc):(M9 ps g op a1 σ).2.1.length<=σ.1.length:=by
 unfold M9
 split
 ·exact Nat.le_trans (dO _ _ _) (E3 hg _ _ _)
 ·split
  ·exact Nat.le_trans (dO _ _ _) (Nat.le_trans (qV _ _) (dO _ _ _))
  ·split
   ·exact Nat.le_trans (dO _ _ _) (Nat.le_trans (zb _ _ _) (dO _ _ _))
   ·exact dO _ _ _
end
theorem DG(ps:List Pr):∀ (f:Nat) (σ:Sc),(ig ps f σ).2.1.length<=σ.1.length
 | 0,_=>Nat.le_refl _
 | f+1,σ=>by
  rw[ig]
  split
  ·exact Nat.le_trans (qV _ _) (HF σ)
  ·exact Nat.le_trans (UQ (DG ps f) _ _ _ _) (Nat.le_trans (yG (DG ps f) _) (HG σ))
theorem UU{m:List UInt8}{σ:Sc}(h:(σ.exp m).2=0):σ.2=0:=by
 unfold Sc.exp Nd at h;simp only at h
 split at h
 ·exact h
 ·unfold tJ nY at h
  split at h
  ·assumption
  ·exact h
theorem M6{σ:Sc}(h1:cE (aX σ.1 σ.2)≠1)(h:(Bi σ).2=0):(Bi σ).1.length<σ.1.length:=by
 have h2:(xZ σ).2=0:=UU (σ:=(xZ σ).next) h;have h3:cE (aX σ.1 σ.2)≠0:=λ h0=>by
  unfold xZ at h2;rw[if_pos h0] at h2;unfold Sc.fail nY at h2;simp only at h2
  split at h2
  ·cases h2
  ·rename_i hn; exact hn h2
 have e1:xZ σ=σ:=by rw[xZ,if_neg h3]
 have hk:(aX σ.1 σ.2).k=1:=by
  unfold cE at h1
  split at h1
  ·assumption
  ·exact absurd rfl h1
 rw[e1] at h2;have hlt:(gW σ.1 σ.2).length<σ.1.length:=by
  rw[gW,if_pos h2];rw[aX,if_pos h2] at hk
  cases hl:σ.1 with
  | nil=>rw[hl] at hk; cases hk
  | cons x l=>simp
 rw[Bi,e1];exact Nat.lt_of_le_of_lt (dO _ _ _) hlt
end Go.Proofs.YtpihmghnbplohaaGreatDoor
namespace Go.Vc
open Go
def Kb(es:Array MapEntry)(ks:List Int):Prop:=es.toList.map (·.key)=ks.map iv/\∀ e∈es.toList,e.val=.bool true
def AM(r:Nat)(ks:List Int):aJ:=Tp λ (x:{ p:Array MapEntry×Nat // Kb p.1 ks })=>aV r (.map x.1.1 x.1.2)
theorem pE(k:Int):∀ (es:List MapEntry) (ks:List Int) (i:Nat),es.map (·.key)=ks.map iv->(∀ e∈es,e.val=.bool true) ->
  (k∈ks/\∃ j,Instr.findNow (.int .i64) (iv k) es i=some (some (j,.bool true)))\/(k∉ks/\Instr.findNow (.int .i64) (iv k) es i=some none)
 | [],[],_,_,_=>.inr ⟨by simp,rfl⟩
 | e :: es,x :: ks,i,h,hv=>by
  simp only[List.map_cons,List.cons.injEq] at h;have hs:Instr.sameNow (.int .i64) (iv k) e.key=some (k==x):=by rw[h.1]; simp[Instr.sameNow]
  by_cases hkx:k=x
  ·subst hkx;refine .inl ⟨by simp,i,?_⟩;have:=hv e (by simp);simp[Instr.findNow,hs,this]
  ·have hb:(k==x)=false:=by simpa using hkx
   rcases pE k es ks (i+1) h.2 (λ e he=>hv e (by simp[he])) with⟨h1,j,h2⟩|⟨h1,h2⟩
   ·exact .inl ⟨by simp[h1],j,by simp[Instr.findNow,hs,hb,h2]⟩
   ·exact .inr ⟨by simp[h1,hkx],by simp[Instr.findNow,hs,hb,h2]⟩
 | [],_ :: _,_,h,_=>by simp at h
 | _ :: _,[],_,h,_=>by simp at h
structure Yd (P:Program) (t k e:TypeId) (z:Value):Prop where
 u:P.underlying t=some (.map k e)
 z:(P.info? e).bind (·.zero)=some z
section
variable {P:Program} {t kt et:TypeId} {w0 w:World} {B:aJ} {r:Nat} {ks:List Int}
theorem ny(hk:P.underlying kt=some (.int .i64))(b:Bool)(n:Nat)(k:Int)(w:World):(Instr.checkKey b (n+1) kt (iv k)).run P w=.ok () w:=by
 simp[Instr.checkKey,aG hk]
theorem Ah(hT:Yd P t kt et (.bool false))(hk:P.underlying kt=some (.int .i64))(s:St w0 w (star (AM r ks) B))(k:Int){R:Bool->World->Prop}(h:R (decide (k∈ks)) w) :
  bn P (Instr.lookup t (.map (some r)) (iv k) false) w λ e w'=>∃ b:Bool,e=.bool b/\R b w':=by
 obtain⟨⟨⟨es,cl⟩,h1,h2⟩,s'⟩:=s.ex;have ho:w.heap[r]?=some (.map es cl):=s'.obj;have hz:(zeroValue et).run P w=.ok (.bool false) w:=by
  have:=hT.z
  cases hi:P.info? et with
  | none=>simp[hi] at this
  | some i=>simp[hi] at this; simp[zeroValue,typeInfo,hi,this]
 have hc:=ny (P:=P) hk es.isEmpty 9999 k w;rcases pE k es.toList ks 0 h1 h2 with⟨hm,j,hf⟩|⟨hm,hf⟩
 ·refine⟨.bool true,w,?_,true,rfl,by rwa [decide_eq_true hm] at h⟩;simp[Instr.lookup,aG hT.u,Instr.findKey,aG hk,hf,ho,hc,getObj,Sem.run]
 ·refine⟨.bool false,w,?_,false,rfl,by rwa [decide_eq_false hm] at h⟩;simp[Instr.lookup,aG hT.u,Instr.findKey,aG hk,hf,ho,hc,hz,getObj,Sem.run]
theorem Cu(hT:Yd P t kt et (.bool false))(hk:P.underlying kt=some (.int .i64))(s:St w0 w (star (AM r ks) B))(k:Int)(hn:k∉ks){R:World->Prop}(h:∀ w',aD w w' [r]->St w0 w' (star (AM r (ks++[k])) B)->R w'):bn P (Instr.mapUpdate t (.map (some r)) (iv k) (.bool true)) w λ _ w'=>R w':=by
 obtain⟨⟨⟨es,cl⟩,h1,h2⟩,s'⟩:=s.ex;have ho:w.heap[r]?=some (.map es cl):=s'.obj;have hc:=ny (P:=P) hk false 9999 k w;rcases pE k es.toList ks 0 h1 h2 with⟨hm,_⟩|⟨hm,hf⟩
 ·exact absurd hm hn
 ·have hs:=s'.put (.map (es.push { key:=iv k,val:=.bool true,born:=cl }) (cl+1));have hr:(Instr.mapUpdate t (.map (some r)) (iv k) (.bool true)).run P w=.ok () { w with heap:=w.heap.setIfInBounds r (.map (es.push { key:=iv k,val:=.bool true,born:=cl }) (cl+1)) }:=by
   simp[Instr.mapUpdate,aG hT.u,Instr.findKey,aG hk,hf,ho,hc,setObj,getObj,Sem.run]
  refine⟨_,_,hr,h _ (aD.put w r _ (by simp)) (St.tg (f:=λ (x:{ p:Array MapEntry×Nat // Kb p.1 (ks++[k]) })=>aV r (.map x.1.1 x.1.2)) ⟨(_,_),?_,?_⟩ hs)⟩
  ·simp[h1]
  ·intro e he;have he' : e∈es.toList++[{ key:=iv k,val:=.bool true,born:=cl }]:=by simpa using he
   rcases List.mem_append.1 he' with he|he
   ·exact h2 e he
   ·rw[List.mem_singleton.1 he]
theorem Fe{ty:TypeId}(hT:Yd P t kt et (.bool false))(s:St w0 w (star (AM r ks) B)){R:World->Prop}(h:∀ w',aD w w' [r]->St w0 w' (star (AM r []) B)->R w') :
  bn P (Builtin.clear_ #[t] ty #[.map (some r)]) w λ _ w'=>R w':=by
 obtain⟨⟨⟨es,cl⟩,h1,h2⟩,s'⟩:=s.ex;have ho:w.heap[r]?=some (.map es cl):=s'.obj;have hs:=s'.put (.map #[] cl);have hr:(Builtin.clear_ #[t] ty #[.map (some r)]).run P w=.ok (.tuple #[]) { w with heap:=w.heap.setIfInBounds r (.map #[] cl) }:=by
  simp[Builtin.clear_,aG hT.u,ho,setObj,getObj,Sem.run]
 exact⟨_,_,hr,h _ (aD.put w r _ (by simp)) (St.tg (f:=λ (x:{ p:Array MapEntry×Nat // Kb p.1 [] })=>aV r (.map x.1.1 x.1.2)) ⟨(_,_),by simp,by simp⟩ hs)⟩
theorem wh{t' : TypeId}(s:St w0 w B){R:Option Nat->World->Prop}(h:∀ r w',aD w w' []->St w0 w' (star (aV r (.map #[] 0)) B)->R (some r) w'):bn P (Instr.makeMap t' none) w λ e w'=>∃ m:Option Nat,e=.map m/\R m w':=by
 refine⟨_,_,?_,_,rfl,h _ _ (aD.new w (.map #[] 0) []) (s.newObj (.map #[] 0)).swap⟩;simp[Instr.makeMap,newObj,Sem.run]
theorem St.X5(s:St w0 w (star (aV r (.map #[] 0)) B)):St w0 w (star (AM r []) B) :=
 St.tg (f:=λ (x:{ p:Array MapEntry×Nat // Kb p.1 [] })=>aV r (.map x.1.1 x.1.2)) ⟨(#[],0),by simp,by simp⟩ s
end
end Go.Vc
namespace Go.Vc
structure Lo where
 v:Nat->Int
 f:Nat->Int
 lr:Nat->Nat
 ch:Int
def eU{α:Type}(f:Nat->α)(i:Nat)(x:α):Nat->α:=λ j=>if j=i then x else f j
theorem de{α:Type}(f:Nat->α)(i:Nat)(x:α):eU f i x i=x:=if_pos rfl
theorem fI{α:Type}(f:Nat->α){i j:Nat}(x:α)(h:j≠i):eU f i x j=f j:=if_neg h
theorem D2{α:Type}(f:Nat->α)(n i:Nat)(x:α):((List.range n).map f).set i x=(List.range n).map (eU f i x):=by
 refine List.ext_getElem? λ j=>?_;rw[List.getElem?_set,List.length_map,List.length_range,List.getElem?_map,List.getElem?_map]
 by_cases h:i=j
 ·subst h;rw[if_pos rfl]
  by_cases hl:i<n
  ·rw[if_pos hl,List.getElem?_range hl,Option.map_some,de]
  ·rw[if_neg hl,List.getElem?_eq_none (by simpa using hl),Option.map_none]
 ·rw[if_neg h]
  cases hj:(List.range n)[j]? with
  | none=>rfl
  | some k =>
   have:k=j:=by
    obtain⟨hl,e⟩:=List.getElem?_eq_some_iff.1 hj;simpa using e.symm
   subst this;rw[Option.map_some,Option.map_some,fI _ _ (Ne.symm h)]
def WH:Lo:=⟨λ _=>0,λ _=>-1,λ _=>0,-1⟩
def Ml(g:Nat->Nat->Int)(r a b:Nat)(t:Lo):Lo:=if t.v a+g a b<t.v b then { v:=eU t.v b (t.v a+g a b),f:=eU t.f b a,lr:=eU t.lr b r,ch:=b } else t
def TG(g:Nat->Nat->Int)(r a:Nat):Nat->Lo->Lo
 | 0,t=>t
 | b+1,t=>Ml g r a b (TG g r a b t)
def TF(g:Nat->Nat->Int)(n r:Nat):Nat->Lo->Lo
 | 0,t=>t
 | a+1,t=>TG g r a n (TF g n r a t)
def TI(g:Nat->Nat->Int)(n r:Nat)(s:Lo):Lo:=TF g n r n { s with ch:=-1 }
def Vs(g:Nat->Nat->Int)(n:Nat):Nat->Nat->Lo->Lo
 | 0,_,s=>s
 | k+1,r,s=>if (TI g n (r+1) s).ch<0 then TI g n (r+1) s else Vs g n k (r+1) (TI g n (r+1) s)
def uE(g:Nat->Nat->Int)(n:Nat):Lo:=Vs g n n 0 WH
structure I4 (g:Nat->Nat->Int) (n:Nat) (G T:Int) (r a b:Nat) (s:Lo):Prop where
 lo:∀ x,x<n->-(G*(T+1))<=s.v x/\s.v x<=0
 la:a<n->-(G*T)<=s.v a
 lr:∀ x,x<n->s.lr x<=r
 f:∀ y,y<n->(s.f y=-1/\s.lr y=0)\/∃ p,p<n/\s.f y=(p:Int)/\1<=s.lr y/\s.lr y<=s.lr p+1
 ch:s.ch<0\/∃ c,c<n/\s.ch=(c:Int)/\s.lr c=r
 dn:∀ x,x<n->x<a->s.lr x<r->∀ y,y<n->s.v y<=s.v x+g x y
 nx:∀ x,x<n->a<=x->s.lr x+1<r->∀ y,y<n->s.v y<=s.v x+g x y
 cu:a<n->∀ y,y<b->s.v y<=s.v a+g a y
structure Kx (g:Nat->Nat->Int) (n:Nat) (G T:Int) (r a:Nat) (s:Lo):Prop where
 i:I4 g n G T r a 0 s
 b:∀ x,x<n->-(G*T)<=s.v x
section
variable {g:Nat->Nat->Int} {n:Nat} {G T:Int} {r a b:Nat} {s:Lo}
theorem I4.TQ(h:I4 g n G T r n 0 s)(hb:∀ x,x<n->-(G*T)<=s.v x):I4 g n G T (r+1) 0 0 { s with ch:=-1 } :=
 ⟨h.lo,λ hn=>hb 0 hn,λ x hx=>Nat.le_succ_of_le (h.lr x hx),h.f,.inl (show(-1:Int)<0 by decide),λ x _ hx=>absurd hx (Nat.not_lt_zero x),λ x hx _ hl y hy=>h.dn x hx hx (Nat.lt_of_succ_lt_succ hl) y hy,λ _ y hy=>absurd hy (Nat.not_lt_zero y)⟩
theorem I4.Ml(h:I4 g n G T r a b s)(g0:∀ a,g a a=0)(gb:∀ a b,a<n->b<n->-G<=g a b/\g a b<=G)(hr:1<=r)(ha:a<n)(hb:b<n):I4 g n G T r a (b+1) (Ml g r a b s):=by
 unfold Vc.Ml
 split
 ·rename_i hlt;have hab:a≠b:=λ e=>by subst e; rw[g0 a] at hlt; omega
  have hra:r<=s.lr a+1:=by
   rcases Nat.lt_or_ge (s.lr a+1) r with h1|h1
   ·have:=h.nx a ha (Nat.le_refl a) h1 b hb;omega
   ·exact h1
  have vb:∀ x,eU s.v b (s.v a+g a b) x<=s.v x:=λ x=>by
   by_cases e:x=b
   ·subst e; rw[de]; omega
   ·rw[fI _ _ e]; exact Int.le_refl _
  have va:eU s.v b (s.v a+g a b) a=s.v a:=fI _ _ hab;refine⟨λ x hx=>?_,λ _=>?_,λ x hx=>?_,λ y hy=>?_,.inr ⟨b,hb,rfl,de _ _ _⟩,λ x hx hxa hl y hy=>?_,λ x hx hxa hl y hy=>?_,λ _ y hy=>?_⟩
  ·show -(G*(T+1))<=eU s.v b _ x/\eU s.v b _ x<=0;have h0:=h.lo x hx;have h1:=vb x;refine⟨?_,by omega⟩
   by_cases e:x=b
   ·subst e;rw[de];have h2:=h.la ha;have h3:=(gb a x ha hx).1;rw[Int.mul_add,Int.mul_one];omega
   ·rw[fI _ _ e]; exact h0.1
  ·show -(G*T)<=eU s.v b _ a;rw[va]; exact h.la ha
  ·show eU s.lr b r x<=r
   by_cases e:x=b
   ·subst e; rw[de]; exact Nat.le_refl _
   ·rw[fI _ _ e]; exact h.lr x hx
  ·show(eU s.f b (a:Int) y=-1/\eU s.lr b r y=0)\/∃ p,p<n/\eU s.f b (a:Int) y=(p:Int)/\1<=eU s.lr b r y/\eU s.lr b r y<=eU s.lr b r p+1;have up:∀ p,p<n->s.lr p<=eU s.lr b r p:=λ p hp=>by
    by_cases e:p=b
    ·subst e; rw[de]; exact h.lr p hp
    ·rw[fI _ _ e]; exact Nat.le_refl _
   by_cases e:y=b
   ·subst e;rw[de,de];exact .inr ⟨a,ha,rfl,hr,by have:=up a ha; omega⟩
   ·rw[fI _ _ e,fI _ _ e];rcases h.f y hy with h1|⟨p,hp,h1,h2,h3⟩
    ·exact .inl h1
    ·exact .inr ⟨p,hp,h1,h2,by have:=up p hp; omega⟩
  ·show eU s.v b _ y<=eU s.v b _ x+g x y;have hl:eU s.lr b r x<r:=hl;have e:x≠b:=λ e=>by subst e; rw[de] at hl; omega
   rw[fI _ _ e] at hl;rw[fI (i:=b) (j:=x) _ _ e];have:=h.dn x hx hxa hl y hy;have:=vb y;omega
  ·show eU s.v b _ y<=eU s.v b _ x+g x y;have hl:eU s.lr b r x+1<r:=hl;have e:x≠b:=λ e=>by subst e; rw[de] at hl; omega
   rw[fI _ _ e] at hl;rw[fI (i:=b) (j:=x) _ _ e];have:=h.nx x hx hxa hl y hy;have:=vb y;omega
  ·show eU s.v b _ y<=eU s.v b _ a+g a y;rw[va]
   by_cases e:y=b
   ·subst e; rw[de]; exact Int.le_refl _
   ·have:=h.cu ha y (by omega);have:=vb y;omega
 ·rename_i hlt;exact⟨h.lo,h.la,h.lr,h.f,h.ch,h.dn,h.nx,λ _ y hy=>by
   by_cases e:y=b
   ·subst e; omega
   ·exact h.cu ha y (by omega)⟩
theorem I4.TG(h:I4 g n G T r a 0 s)(g0:∀ a,g a a=0)(gb:∀ a b,a<n->b<n->-G<=g a b/\g a b<=G)(hr:1<=r)(ha:a<n):∀ b,b<=n->I4 g n G T r a b (TG g r a b s)
 | 0,_=>h
 | b+1,hb=>(I4.TG h g0 gb hr ha b (Nat.le_of_succ_le hb)).Ml g0 gb hr ha hb
theorem I4.Xp(h:I4 g n G T r a n s)(hG:0<=G)(ha:a<n):Kx g n G (T+1) r (a+1) s:=by
 have e:G*(T+1+1)=G*(T+1)+G:=by rw[Int.mul_add G (T+1),Int.mul_one]
 refine⟨⟨λ x hx=>?_,λ hx=>(h.lo (a+1) hx).1,h.lr,h.f,h.ch,λ x hx hxa hl y hy=>?_,λ x hx hxa hl y hy=>h.nx x hx (by omega) hl y hy,λ _ y hy=>absurd hy (Nat.not_lt_zero y)⟩,λ x hx=>(h.lo x hx).1⟩
 ·have:=h.lo x hx;rw[e];omega
 ·by_cases e:x=a
  ·subst e; exact h.cu hx y hy
  ·exact h.dn x hx (by omega) hl y hy
theorem Kx.TF(h:Kx g n G T r 0 s)(hG:0<=G)(g0:∀ a,g a a=0)(gb:∀ a b,a<n->b<n->-G<=g a b/\g a b<=G)(hr:1<=r):∀ a,a<=n->Kx g n G (T+(a:Int)) r a (TF g n r a s)
 | 0,_=>by rw[show T+((0:Nat):Int)=T by omega]; exact h
 | a+1,ha=>by
  have ih:=Kx.TF h hG g0 gb hr a (Nat.le_of_succ_le ha);have:=(ih.i.TG g0 gb hr ha n (Nat.le_refl n)).Xp hG ha;rw[show T+((a+1:Nat):Int)=T+(a:Int)+1 by omega];exact this
theorem TE(hG:0<=G):Kx g n G 0 0 n WH:=by
 refine⟨⟨λ x _=>?_,λ h=>absurd h (Nat.lt_irrefl n),λ _ _=>Nat.le_refl 0,λ _ _=>.inl ⟨rfl,rfl⟩,.inl (show(-1:Int)<0 by decide),λ _ _ _ h=>absurd h (Nat.lt_irrefl 0),λ _ _ _ h=>absurd h (Nat.not_lt_zero _),λ h=>absurd h (Nat.lt_irrefl n)⟩,λ x _=>?_⟩
 ·show -(G*(0+1))<=0/\(0:Int)<=0;rw[Int.zero_add,Int.mul_one]; omega
 ·show -(G*0)<=0;rw[Int.mul_zero]; omega
theorem TH(hG:0<=G)(g0:∀ a,g a a=0)(gb:∀ a b,a<n->b<n->-G<=g a b/\g a b<=G):∀ (k r:Nat) (T:Int) (s:Lo),r+k=n->Kx g n G T r n s->∃ r' T',Kx g n G T' r' n (Vs g n k r s)/\(0<=(Vs g n k r s).ch->r' = n)
 | 0,r,T,s,hk,h=>⟨r,T,h,λ _=>hk⟩
 | k+1,r,T,s,hk,h=>by
  have h1:Kx g n G T (r+1) 0 { s with ch:=-1 }:=⟨h.i.TQ h.b,h.b⟩;have h2:Kx g n G (T+(n:Int)) (r+1) n (TI g n (r+1) s):=h1.TF hG g0 gb (by omega) n (Nat.le_refl n);unfold Vs
  split
  ·rename_i hc;exact⟨r+1,_,h2,λ h=>absurd h (by omega)⟩
  ·exact TH hG g0 gb k (r+1) _ _ (by omega) h2
theorem Lc(hG:0<=G)(g0:∀ a,g a a=0)(gb:∀ a b,a<n->b<n->-G<=g a b/\g a b<=G):∃ r T,Kx g n G T r n (uE g n)/\(0<=(uE g n).ch->r=n) :=
 TH hG g0 gb n 0 0 WH (by omega) (TE hG)
end
end Go.Vc
namespace Go.Proofs.YtpihmghnbplohaaGreatDoor
open Go Go.Vc Tryz
structure Mo (w:World) (s:Se):Prop where
 i:s.In w
 o:s.Ok
theorem Mo.aC{w w' : World}{s:Se}(h:Mo w s)(hc:aD w w' []):Mo w' s:=⟨h.i.aC hc,h.o⟩
theorem Mr{w:World}{s:Se}(h:Mo w s){n:Nat}{b:Br}(hb:s.bd[n]?=some b){c:Ch}(hc:c.Ok) :
  CP 145 #[.agg s.arr,iv n,c.v] w (λ r w'=>r=iv (EV b c)/\aD w w' []):=by
 refine mM ?_;unfold iX;have hn:=(List.getElem?_eq_some_iff.1 hb).1;refine(St.start w).one.aB s.arr λ r1 w1 s1=>s1.aB c.cells.toArray λ r2 w2 s2=>⟨_,_,_,_,_,_,_,_,_,_,_,_,s2.cellsIn 1 rfl,aq (NC (s:=s) n) ?_⟩;rintro v w3 ⟨rfl,c3⟩;have s3:=s2.quiet c3;obtain⟨q,hq,hcl⟩:=MG ((h.aC s3.aC).i.bd) hb 2 _ rfl;refine⟨_,rfl,cF (by simp; omega) ⟨_,_,_,s3.ag 1 rfl 1,?_⟩⟩;rw[hq];refine⟨by omega,by omega,_,hcl,λ g w4=>g=decide (b.bud≠0/\b.bud<cost c.p c.want)/\aD w w4 [],?_,?_⟩
 ·rintro w4 g ⟨rfl,c4⟩ -
  by_cases hg:b.bud≠0/\b.bud<cost c.p c.want
  ·exact cT (dT hg) ⟨by rw[EV,if_pos hg],c4⟩
  ·exact cF (dF hg) ⟨by rw[EV,if_neg hg],c4⟩
 ·by_cases h0:b.bud=0
  ·exact cF (by simp[h0]) ⟨by simp[h0],s3.aC⟩
  ·refine cT (by simpa using h0) ⟨_,xT s3 0 rfl,_,cU s3 0 rfl,aq (jI w3 hc.p hc.w) ?_⟩;rintro v w5 ⟨rfl,c5⟩;exact⟨_,rfl,by simp[h0],(s3.quiet c5).aC⟩
def BX(l:List Ch):Bool:=(l.getLast?.map λ c=>decide (c.want=z6)).getD false
theorem Nc{w:World}{a:OA}{c:Nat}{l:List Ch}(h:G7 w a l)(hl:l.length<=1000):CP 184 #[.slice a l.length c] w (λ r w'=>r=.bool (BX l)/\w' = w):=by
 refine sJ ?_;unfold nP
 by_cases h0:l.length=0
 ·have:l=[]:=List.eq_nil_of_length_eq_zero h0;subst this;exact cF rfl ⟨rfl,rfl⟩
 ·have hx:l[l.length-1]?=some (l[l.length-1]'(by omega)):=gE (by omega);have hlast:l.getLast? = some (l[l.length-1]'(by omega)):=by rw[List.getLast?_eq_getElem?,hx]
  generalize l[l.length-1]'(by omega)=x at hx hlast;obtain⟨q,hq,hcl⟩:=h.at hx;rw[hq];have e:IntKind.i64.wrap ((l.length:Int)-1)=((l.length-1:Nat):Int):=by rw[aH ⟨by omega,by omega⟩]; omega
  rw[e];refine cT (dT (by omega)) ⟨by omega,by omega,x.want,?_,?_,rfl⟩
  ·refine bH _ 0 λ j v hj=>?_;have h6:j<6:=(List.getElem?_eq_some_iff.1 hj).1;have:=bf hcl (6+j) v (by
    match j,h6,hj with
    | 0,_,hj|1,_,hj|2,_,hj|3,_,hj|4,_,hj|5,_,hj=>simpa[Ch.cells,I6.on,I6.vs] using hj)
   rw[Nat.zero_add] at this;rw[Addr.add_add,Nat.zero_add,Int.toNat_natCast];exact this
  ·rw[BX,hlast]; simp[I6.beq_eq]
def Mg(s:Se)(n:Int)(a:OA)(c:Nat)(l:List Ch):List Value:=[.slice s.a1 s.ps.length s.c1,.slice s.a2 s.bd.length s.c2,.slice s.a3 s.cp.length s.c3,.slice s.a4 s.sa.length s.c4,iv n,.slice a l.length c]
theorem NG{w0 w:World}{s:Se}{n:Int}{a:OA}{c:Nat}{l:List Ch}{ls:List aJ}{r:Nat}{T:TypeId}(h:St w0 w (Sep ls))(i:Nat)(e:ls[i]?=some (ah r (Mg s n a c l).toArray T)):af w ⟨r,0,none⟩ 0 s.arr.toList :=
 bH _ 0 λ j v hj=>by
  have h6:j<4:=(List.getElem?_eq_some_iff.1 hj).1;rw[aZ,Nat.zero_add,Nat.zero_add,h.ag i e]
  match j,h6,hj with
  | 0,_,hj|1,_,hj|2,_,hj|3,_,hj=>simpa[Mg,Se.arr] using hj
theorem B7{w:World}{s:Se}(h:Mo w s){n:Int}{a:OA}{k:Nat}{l:List Ch}{c:Ch}(hc:c.Ok) :
  CP 226 #[.agg (Mg s n a k l).toArray,c.v] w (λ r w'=>r=iv (Ir s.ps c.want)/\aD w w' []):=by
 refine jC ?_;unfold fM;refine(St.start w).one.aB (Mg s n a k l).toArray λ r1 w1 s1=>s1.aB c.cells.toArray λ r2 w2 s2=>⟨_,_,_,s2.ag 1 rfl 0,_,cU s2 0 rfl,aq (Gp ((h.aC s2.aC).i.ps) h.i.h1 h.o.ps hc.w) ?_⟩;rintro v w3 ⟨rfl,c3⟩;exact⟨_,rfl,rfl,(s2.quiet c3).aC⟩
def Jn(s:Se)(b:Br)(l:List Ch):Int:=l.foldl (λ m c=>if Ir s.ps c.want<m then Ir s.ps c.want else m) b.pts
theorem UM{w:World}{s:Se}(h:Mo w s){n:Nat}{b:Br}(hb:s.bd[n]?=some b){a:OA}{k:Nat}{l:List Ch}(hr:G7 w a l)(hl:l.length<=1000)(ho:∀ c∈l,c.Ok) :
  CP 227 #[.agg s.arr,iv n,.slice a l.length k] w (λ r w'=>r=iv (Jn s b l)/\aD w w' []):=by
 refine lE ?_;unfold iq;have hn:=(List.getElem?_eq_some_iff.1 hb).1;refine(St.start w).one.aB s.arr λ r1 w1 s1=>⟨_,_,_,_,_,_,_,_,_,_,_,_,s1.cellsIn 0 rfl,aq (NC (s:=s) n) ?_⟩;rintro v w2 ⟨rfl,c2⟩;have s2:=(s1.quiet c2).quiet (aD.drew w2 []);obtain⟨q,hq,hcl⟩:=MG ((h.aC s2.aC).i.bd) hb 3 _ rfl;refine⟨_,rfl,cF (by simp; omega) ⟨_,_,_,_,_,_,_,_,_,_,_,_,s2.cellsIn 0 rfl,_,_,_,s2.ag 0 rfl 1,?_⟩⟩;refine ay hq ⟨by omega,by omega,_,hcl,λ m n4 w3 x=>∃ j:Nat,n4=j/\j<=l.length/\x=l.length-j/\m=Jn s b (l.take j)/\St w w3 (Sep [ah r1 s.arr 100,emp]),⟨l.length,0,rfl,by omega,by omega,rfl,s2⟩,?_⟩;rintro w3 x m n4 ⟨j,rfl,hj,hx',rfl,s3⟩ -
 by_cases hlt:(j:Int)<(l.length:Int)
 ·have hx:l[j]?=some (l[j]'(by omega)):=gE (by omega);generalize l[j]'(by omega)=y at hx;obtain⟨q2,rfl,hcl2⟩:=(hr.aC s3.aC).at hx;refine cT (by simpa using hlt) ⟨by omega,by omega,y.p,y.want,hcl2,s3.aB CY.cells.toArray λ r2 w4 s4=>s4.aE 0 rfl y.cells rfl y.one λ w5 s5=>⟨y.p,y.want,s5.cellsIn 0 rfl,?_⟩⟩;have hp:=B7 (n:=(n:Int)) (a:=some q2) (k:=k) (l:=l) (h.aC s5.aC) (ho y (List.mem_of_getElem? hx));refine aq hp ?_;rintro v w6 ⟨rfl,c6⟩;refine⟨_,rfl,l.length-(j+1),by omega,j+1,aH ⟨by omega,by omega⟩,by omega,rfl,?_,(s5.quiet c6).aA [1,2]⟩;rw[aO hx]; unfold Jn; rw[List.foldl_append,List.foldl_cons,List.foldl_nil]
 ·obtain rfl:j=l.length:=by omega
  exact cF (by simp) ⟨by rw[List.take_length],s3.aC⟩
def Fq(s:Se)(b:Br)(l:List Ch)(c:Ch):Bool:=decide (Ir s.ps c.want<=Jn s b l)
theorem JB{w:World}{s:Se}(h:Mo w s){n:Nat}{b:Br}(hb:s.bd[n]?=some b){a:OA}{k:Nat}{l:List Ch}(hr:G7 w a l)(hl:l.length<=1000)(ho:∀ c∈l,c.Ok){c:Ch}(hc:c.Ok) :
  CP 181 #[.agg (Mg s n a k l).toArray,c.v] w (λ r w'=>r=.bool (Fq s b l c)/\aD w w' []):=by
 refine kZ ?_;unfold gQ;refine(St.start w).one.aB (Mg s n a k l).toArray λ r1 w1 s1=>s1.aB c.cells.toArray λ r2 w2 s2=>?_;have s3:=s2.quiet (aD.drew w2 []);refine⟨_,_,_,_,_,_,_,_,_,_,_,_,_,_,_,_,s3.cellsIn 1 rfl,c.p,c.want,s3.cellsIn 0 rfl,_,_,_,_,_,_,_,_,_,_,_,_,NG s3 1 rfl,_,s3.ag 1 rfl 4,_,_,_,s3.ag 1 rfl 5,aq (B7 (n:=n) (a:=a) (k:=k) (l:=l) (h.aC s3.aC) hc) ?_⟩;rintro v w3 ⟨rfl,c3⟩;have s4:=s3.quiet c3;refine⟨_,rfl,s4.ag 1 rfl 5,s4.ag 1 rfl 4,NG s4 1 rfl,aq (UM (h.aC s4.aC) hb (hr.aC s4.aC) hl ho) ?_⟩;rintro v w5 ⟨rfl,c5⟩;exact⟨_,rfl,rfl,(s4.quiet c5).aC⟩
def vM(c:Ch):Bool:=c.p.l.all rR&&c.want.l.all nw
theorem Fb{c:Ch}:vM c=true<->c.Ok:=by
 unfold vM;rw[Bool.and_eq_true];exact⟨λ h=>⟨uN.1 h.1,Mk h.2⟩,λ h=>⟨uN.2 h.p,leq h.w⟩⟩
theorem OT(w:World)(c:Ch):CP 294 #[c.v] w (λ r w'=>r=.bool (vM c)/\aD w w' []):=by
 refine uV ?_;unfold qe;refine(St.start w).one.aB c.cells.toArray λ r1 w1 s1=>⟨c.p,xT s1 0 rfl,λ n w2 m=>∃ k:Nat,n=k/\k<=6/\m=6-k/\(c.p.l.take k).all rR=true/\w2=w1,⟨6,0,rfl,by omega,by omega,rfl,rfl⟩,?_⟩;rintro w2 m n ⟨k,rfl,hk,hm,ha,rfl⟩ -
 by_cases hlt:(k:Int)<6
 ·have hk' : k<6:=by omega
  refine cT (dT hlt) ⟨by omega,by omega,_,c.p.get k hk',λ b w3=>b=(!rR (c.p.at' k))/\w3=w2,?_,?_⟩
  ·rintro w3 b ⟨rfl,rfl⟩ -
   cases hx:rR (c.p.at' k) with
   | true=>exact cF rfl ⟨6-(k+1),by omega,k+1,inc (by decide) hk',by omega,rfl,vH ha (c.p.nu k hk') hx,rfl⟩
   | false=>exact cT rfl ⟨by rw[vM,y8 (c.p.nu k hk') hx]; rfl,s1.aC⟩
  ·by_cases h0:c.p.at' k<0
   ·exact cT (dT h0) ⟨by simp[rR]; omega,rfl⟩
   ·refine cF (dF h0) ⟨?_,rfl⟩;rw[rR,dT (show 0<=c.p.at' k by omega),Bool.true_and]
    by_cases h1:c.p.at' k<=1000000
    ·rw[dT h1,dF (by omega)]; rfl
    ·rw[dF h1,dT (by omega)]; rfl
 ·obtain rfl:k=6:=by omega
  refine cF (by simp) ⟨_,cU s1 0 rfl,aq (dI w2 c.want) ?_⟩;rintro v w4 ⟨rfl,c4⟩;refine⟨_,rfl,?_,(s1.quiet c4).aC⟩;rw[vM,show c.p.l.all rR=true from ha]
  cases c.want.l.all nw<;>rfl
theorem y9{w:World}{a:OA}{k:Nat}{l:List Ch}(hr:G7 w a l)(hl:l.length<=1000) :
  CP 267 #[.slice a l.length k] w (λ r w'=>r=.bool (l.all vM)/\aD w w' []):=by
 refine p7 ?_;unfold kJ;refine⟨λ n w1 m=>∃ j:Nat,n=j/\j<=l.length/\m=l.length-j/\(l.take j).all vM=true/\aD w w1 [],⟨l.length,0,rfl,by omega,by omega,rfl,aD.refl _ _⟩,?_⟩;rintro w1 m n ⟨j,rfl,hj,hm,ha,hc⟩ -
 by_cases hlt:(j:Int)<(l.length:Int)
 ·have hx:l[j]?=some (l[j]'(by omega)):=gE (by omega);generalize l[j]'(by omega)=y at hx;obtain⟨q2,rfl,hcl2⟩:=(hr.aC hc).at hx;refine cT (by simpa using hlt) ⟨by omega,by omega,y.p,y.want,hcl2,(St.start' hc).one.aB CY.cells.toArray λ r2 w4 s4=>s4.aE 0 rfl y.cells rfl y.one λ w5 s5=>⟨y.p,y.want,s5.cellsIn 0 rfl,aq (OT w5 y) ?_⟩⟩;rintro v w6 ⟨rfl,c6⟩;refine⟨_,rfl,?_⟩
  cases hy:vM y with
  | true =>
   refine cF rfl ⟨l.length-(j+1),by omega,j+1,aH ⟨by omega,by omega⟩,by omega,rfl,?_,(s5.quiet c6).aC⟩;rw[aO hx,List.all_append,ha]; simp[hy]
  | false =>
   refine cT rfl ⟨?_,(s5.quiet c6).aC⟩;rw[List.all_eq_false.2 ⟨y,List.mem_of_getElem? hx,by simp[hy]⟩]
 ·obtain rfl:j=l.length:=by omega
  rw[List.take_length] at ha;exact cF (by simp) ⟨by rw[ha],hc⟩
def zS(a b:Ch):Int:=cost a.p b.want-cost a.p a.want
theorem QO{a b:Ch}(ha:a.Ok)(hb:b.Ok) : -24000000<=zS a b/\zS a b<=24000000:=by
 have h1:=mU ha.p hb.w;have h2:=mU ha.p ha.w;unfold zS; omega
theorem U1(w:World){a b:Ch}(ha:a.Ok)(hb:b.Ok):CP 286 #[a.v,b.v] w (λ r w'=>r=iv (zS a b)/\aD w w' []):=by
 refine wB ?_;unfold sx;have h1:=mU ha.p hb.w;have h2:=mU ha.p ha.w;refine(St.start w).one.aB a.cells.toArray λ r1 w1 s1=>s1.aB b.cells.toArray λ r2 w2 s2=>?_;have s3:=s2.quiet (aD.drew w2 []);refine⟨_,xT s3 1 rfl,_,cU s3 0 rfl,_,xT s3 1 rfl,_,cU s3 1 rfl,aq (jI _ ha.p hb.w) ?_⟩;rintro v w3 ⟨rfl,c3⟩;have s4:=s3.quiet c3;refine⟨_,rfl,cU s4 1 rfl,xT s4 1 rfl,aq (jI _ ha.p ha.w) ?_⟩;rintro v w5 ⟨rfl,c5⟩;refine⟨_,rfl,?_,(s4.quiet c5).aC⟩;rw[aH ⟨by omega,by omega⟩]; rfl
abbrev i1 (x:Int):List Value:=[iv x]
theorem cA(x:Int):(i1 x).length=1:=rfl
theorem z7(x:Int):∀ v∈i1 x,v.oneCell' = true:=by intro v hv; simp at hv; subst hv; rfl
theorem SB:fZ prog 319 2 (iv 0) 1 8:=fZ.mk' underlying319 (by kernel_rfl) rfl (by decide)
theorem Wb:fZ prog 65 3 (iv 0) 1 8:=fZ.mk' underlying65 (by kernel_rfl) rfl (by decide)
theorem Xl:Yd prog 419 3 4 (.bool false):=⟨underlying419,by kernel_rfl⟩
theorem fu{w:World}{a:OA}{l:List Int}(h:dx 1 i1 w a l){i:Nat}{x:Int}(hi:l[i]?=some x):∃ q,a=some q/\w.cell? (Addr.add q (i*1))=some (iv x):=by
 obtain⟨q,hq,hc⟩:=h.at hi;have:=bf hc 0 _ rfl;rw[Nat.zero_add,Addr.add_add,Nat.add_zero] at this;exact⟨q,hq,this⟩
def eD(f:Nat->Int)(n:Nat):List Int:=(List.range n).map f
theorem fm(f:Nat->Int)(n:Nat):(eD f n).length=n:=by simp[eD]
theorem Fo(f:Nat->Int){n i:Nat}(h:i<n):(eD f n)[i]?=some (f i):=by simp[eD,h]
theorem wj:∀ (n:Nat) (l:List Nat),l.Nodup->(∀ x∈l,x<n)->l.length<=n
 | 0,[],_,_=>Nat.le_refl _
 | 0,x :: _,_,h=>absurd (h x (by simp)) (by omega)
 | n+1,l,hd,h=>by
  by_cases hm:n∈l
  ·have h1:=wj n (l.erase n) (hd.erase n) λ x hx=>by
    have h2:=(hd.mem_erase_iff).1 hx;have:=h x h2.2;omega
   rw[List.length_erase_of_mem hm] at h1;omega
  ·have h1:=wj n l hd λ x hx=>by
    have:=h x hx;have:x≠n:=λ e=>hm (e▸hx);omega
   omega
theorem uG{l:List Int}{n:Nat}(hd:l.Nodup)(h:∀ x∈l,0<=x/\x<n):l.length<=n:=by
 have h2:(l.map Int.toNat).Nodup:=by
  rw[List.nodup_iff_pairwise_ne] at *;rw[List.pairwise_map];exact hd.imp_of_mem λ {a b} ha hb hne e=>hne (by have:=h a ha; have:=h b hb; omega)
 have h3:∀ x∈l.map Int.toNat,x<n:=λ x hx=>by
  obtain⟨y,hy,rfl⟩:=List.mem_map.1 hx;have:=h y hy;omega
 have:=wj n _ h2 h3;simpa using this
theorem Qt{w:World}{n:Nat}(hn:n<=1000){a:OA}{c:Nat}{st:Lo}(hr:dx 1 i1 w a (eD st.f n)){G T:Int}{g:Nat->Nat->Int}(hs:I4 g n G T n n 0 st){ch:Nat}(hc:ch<n)(hl:st.lr ch=n) :
  CP 295 #[.slice a n c,iv ch] w (λ r w'=>(∃ q l c,r=.slice (some q) l c)/\aD w w' []):=by
 refine uU ?_;unfold p8;have link:∀ {w' : World} {x:Nat},aD w w' []->x<n->∃ q,a=some q/\w'.cell? (Addr.add q (x*1))=some (iv (st.f x)):=λ hc hx=>fu (hr.aC hc) (Fo _ hx);refine wh (St.start w) λ m w1 c1 s1=>?_;have s1:=St.X5 s1;refine⟨λ x w2 k=>∃ (ks:List Int) (y:Nat),x=y/\y<n/\ks.Nodup/\(∀ z∈ks,0<=z/\z<n)/\k+ks.length=n+1/\n<=st.lr y+ks.length/\(∀ z:Nat,(z:Int)∈ks->st.f z=y\/st.f z∈ks)/\St w w2 (star (AM m ks) emp),⟨n+1,[],ch,rfl,hc,List.nodup_nil,by simp,by simp,by rw[hl]; simp,by simp,s1⟩,?_⟩
 rintro w2 k x ⟨ks,y,rfl,hy,hd,hb,hk,hlr,hcl,s2⟩ -;refine Ah Xl underlying3 s2 (y:Int) ?_
 by_cases hm:(y:Int)∈ks
 ·refine cF (by rw[dT hm]; rfl) (Fe Xl s2 λ w5 c5 s5=>?_);have cl2:∀ z:Nat,(z:Int)∈ks->st.f z∈ks:=λ z hz=>(hcl z hz).elim (λ e=>by rw[e]; exact hm) id;refine⟨λ x a2 l2 c2 w6 k=>∃ (ms:List Int) (y:Nat),x=y/\(y:Int)∈ks/\ms.Nodup/\(∀ z∈ms,z∈ks)/\k+ms.length=n+1/\l2=ms.length/\St w w6 (Sep [AM m ms,cJ 3 1 i1 a2 c2 ms,emp]),⟨n+1,[],y,rfl,hm,List.nodup_nil,by simp,by simp,rfl,(s5.dW (e:=3) (sz:=1) (f:=i1)).CD.yZ⟩,?_⟩
  rintro w6 k2 x a2 l2 c2 ⟨ms,z,rfl,hz,hd2,hb2,hk2,rfl,s6⟩ -;refine Ah Xl underlying3 s6 (z:Int) ?_;have hms:ms.length<=n:=uG hd2 λ v hv=>hb v (hb2 v hv)
  by_cases hm2:(z:Int)∈ms
  ·refine cF (by rw[dT hm2]; rfl) ?_;refine dV Wb cA (x:=0) rfl s6 (n:=ms.length) (by omega) (by omega) λ gg w11 c11 s11=>?_;refine⟨λ x w12 k=>∃ (j:Nat) (out:List Int),x=j/\j<=ms.length/\k=ms.length-j/\out.length=ms.length/\St w w12 (star (cJ 3 1 i1 (some ⟨gg,0,none⟩) ms.length out) (Sep [AM m ms,cJ 3 1 i1 a2 c2 ms,emp])),⟨ms.length,0,_,rfl,by omega,by omega,by simp,s11⟩,?_⟩
   rintro w12 k3 x ⟨j,out,rfl,hj,hk3,ho,s12⟩ -
   by_cases hlt:(j:Int)<(ms.length:Int)
   ·have hx:ms[j]?=some (ms[j]'(by omega)):=gE (by omega);generalize ms[j]'(by omega)=v at hx;have s13:St w w12 (Sep [cJ 3 1 i1 (some ⟨gg,0,none⟩) ms.length out,AM m ms,cJ 3 1 i1 a2 c2 ms,emp]):=s12;obtain⟨q,hq,hcq⟩:=fu (St.rd cA (s13.out 2 rfl)) hx;have e1:IntKind.i64.wrap ((IntKind.i64.wrap ((ms.length:Int)-1))-(j:Int))=((ms.length-1-j:Nat):Int):=by
     rw[aH (n:=(ms.length:Int)-1) ⟨by omega,by omega⟩,aH ⟨by omega,by omega⟩]; omega
    rw[e1];refine cT (dT hlt) (ay hq ⟨by omega,by omega,v,hcq,by omega,by omega,?_⟩);rw[Int.toNat_natCast];exact St.jY (v:=iv) rfl s12 (i:=ms.length-1-j) (by omega) λ w13 s14=>⟨ms.length-(j+1),by omega,j+1,_,aH ⟨by omega,by omega⟩,by omega,rfl,by simpa using ho,s14⟩
   ·exact cF (dF hlt) ⟨⟨_,_,_,rfl⟩,s12.aC⟩
  ·have hks:ks.length<=n:=uG hd hb;have hd3:(ms++[(z:Int)]).Nodup:=List.nodup_append.2 ⟨hd2,by simp,λ a ha b hb e=>by simp at hb; subst hb; subst e; exact hm2 ha⟩;have hms2:(ms++[(z:Int)]).length<=n:=uG hd3 λ v hv=>by
    rcases List.mem_append.1 hv with h|h
    ·exact hb v (hb2 v h)
    ·simp at h; subst h; exact hb _ hz
   simp only[List.length_append,List.length_singleton] at hms2;refine cT (by rw[dF hm2]; rfl) (Cu Xl underlying3 s6 (z:Int) hm2 λ w8 c8 s8=>?_);have s8' : St w w8 (star (cJ 3 1 i1 a2 c2 ms) (star (AM m (ms++[(z:Int)])) (Sep [emp]))):=s8.CD;refine cW (x:=(z:Int)) Wb cA (z7 _) s8' (by omega) (by omega) (λ a' c' w10 s10=>?_) rfl;have zr:=hb _ hz;obtain⟨q,hq,hcq⟩:=link s10.aC (show z<n by omega);have hfz:=cl2 z hz;have hfr:=hb _ hfz;refine ay hq ⟨by omega,by omega,_,hcq,k2-1,?_,ms++[(z:Int)],(st.f z).toNat,by omega,by rw[Int.toNat_of_nonneg hfr.1]; exact hfz,hd3,?_,?_,rfl,s10.CD⟩
   ·omega
   ·intro v hv;rcases List.mem_append.1 hv with h|h
    ·exact hb2 v h
    ·simp at h; subst h; exact hz
   ·simp only[List.length_append,List.length_singleton]; omega
 ·have hd3:(ks++[(y:Int)]).Nodup:=List.nodup_append.2 ⟨hd,by simp,λ a ha b hb e=>by simp at hb; subst hb; subst e; exact hm ha⟩;have hb3:∀ z∈ks++[(y:Int)],0<=z/\z<n:=λ z hz=>by
   rcases List.mem_append.1 hz with h|h
   ·exact hb z h
   ·simp at h; subst h; omega
  have hms2:=uG hd3 hb3;simp only[List.length_append,List.length_singleton] at hms2;refine cT (by rw[dF hm]; rfl) (Cu Xl underlying3 s2 (y:Int) hm λ w4 c4 s4=>?_);obtain⟨q,hq,hcq⟩:=link s4.aC hy;rcases hs.f y hy with⟨_,h0⟩|⟨p,hp,hfp,h1,h2⟩
  ·omega
  ·refine ay hq ⟨by omega,by omega,_,hcq,k-1,by omega,ks++[(y:Int)],p,hfp,hp,hd3,hb3,?_,?_,?_,s4⟩
   ·simp only[List.length_append,List.length_singleton]; omega
   ·simp only[List.length_append,List.length_singleton]; omega
   ·intro z hz;rcases List.mem_append.1 hz with h|h
    ·rcases hcl z h with e|e
     ·exact .inr (by rw[e]; simp)
     ·exact .inr (List.mem_append_left _ e)
    ·simp at h;have h:z=y:=by omega
     subst h; exact .inl hfp
def gF(l:List Ch)(a b:Nat):Int:=zS (l.getD a CY) (l.getD b CY)
theorem QN(l:List Ch)(a:Nat):gF l a a=0:=by unfold gF zS; omega
theorem W8{l:List Ch}(h:∀ c∈l,c.Ok)(a b:Nat)(ha:a<l.length)(hb:b<l.length) : -24000000<=gF l a b/\gF l a b<=24000000:=by
 have e:∀ i,i<l.length->(l.getD i CY).Ok:=λ i hi=>by
  rw[List.getD_eq_getElem?_getD,gE hi];exact h _ (List.getElem_mem hi)
 exact QO (e a ha) (e b hb)
def lq(l:List Ch):Lo:=uE (gF l) l.length
theorem Ld{w:World}{a:OA}{c:Nat}{l:List Ch}(hr:G7 w a l)(hl:l.length<=100)(ho:∀ c∈l,c.Ok) :
  CP 268 #[.slice a l.length c] w (λ r w' =>
   ((lq l).ch<0/\(∃ g c,r=.tuple #[.slice (some ⟨g,0,none⟩) l.length c,.slice none 0 0]/\St w w' (star (cJ 2 1 i1 (some ⟨g,0,none⟩) c (eD (lq l).v l.length)) emp)))\/(0<=(lq l).ch/\(∃ q m c,r=.tuple #[.slice none 0 0,.slice (some q) m c])/\aD w w' [])):=by
 refine rL ?_;unfold mw;generalize hn:l.length=n at *;have hG:(0:Int)<=24000000:=by omega
 have g0:=QN l;have gb:∀ a b,a<n->b<n->-24000000<=gF l a b/\gF l a b<=24000000:=λ a b ha hb=>W8 ho a b (by omega) (by omega);refine dV SB cA (x:=0) rfl (St.start w) (n:=n) (by omega) (by omega) λ gv w1 c1 s1=>?_;refine dV Wb cA (x:=0) rfl s1 (n:=n) (by omega) (by omega) λ gf w2 c2 s2=>?_;let L:Nat->(Nat->Int)->(Nat->Int)->List aJ:=λ _ v f=>[cJ 3 1 i1 (some ⟨gf,0,none⟩) n (eD f n),cJ 2 1 i1 (some ⟨gv,0,none⟩) n (eD v n)];have z1:List.replicate n (0:Int)=eD (λ _=>0) n:=by unfold eD; rw[List.map_const']; simp
 have z2:eD (λ i=>if i<0 then (-1:Int) else 0) n=eD (λ _=>0) n:=by simp
 rw[z1] at s1 s2;refine⟨λ x w3 k=>∃ (j:Nat),x=j/\j<=n/\k=n-j/\St w w3 (Sep (L 0 (λ _=>0) λ i=>if i<j then -1 else 0)),⟨n,0,rfl,by omega,by omega,by
  show St w w2 (Sep [cJ 3 1 i1 (some ⟨gf,0,none⟩) n (eD (λ i=>if i<0 then (-1:Int) else 0) n),_]);rw[z2]; exact s2⟩,?_⟩
 rintro w3 k x ⟨j,rfl,hj,hk,s3⟩ -
 by_cases hlt:(j:Int)<((eD (λ _=>(0:Int)) n).length:Int)
 ·have hjn:j<n:=by rw[fm] at hlt; omega
  refine cT (dT (by rw[fm] at hlt; exact hlt)) (ay rfl ⟨by omega,by omega,?_⟩);rw[Int.toNat_natCast];refine St.jY (v:=iv) (x:=-1) rfl (s3.out 0 rfl) (i:=j) (by rw[fm]; exact hjn) λ w4 s4=>⟨n-(j+1),by omega,j+1,aH ⟨by omega,by omega⟩,by omega,rfl,?_⟩;have e:(eD (λ i=>if i<j then (-1:Int) else 0) n).set j (-1)=eD (λ i=>if i<j+1 then -1 else 0) n:=by
   unfold eD;rw[D2]
   congr 1
   funext i
   by_cases h:i=j
   ·subst h; simp[de]
   ·rw[fI _ _ h]
    by_cases h2:i<j
    ·rw[if_pos h2,if_pos (by omega)]
    ·rw[if_neg h2,if_neg (by omega)]
  rw[e] at s4;exact s4.back (l:=L 0 (λ _=>0) λ i=>if i<j then -1 else 0) (i:=0) (by simp[L])
 rw[fm] at hlt;obtain rfl:n=j:=by omega
 have e1:eD (λ i=>if i<n then (-1:Int) else 0) n=eD (λ _=>-1) n:=by
  unfold eD;refine List.map_congr_left λ i hi=>?_;rw[if_pos (List.mem_range.1 hi)]
 have s3' : St w w3 (Sep (L 0 WH.v WH.f)):=by
  show St w w3 (Sep [cJ 3 1 i1 (some ⟨gf,0,none⟩) n (eD (λ _=>-1) n),_]);rw[<- e1]; exact s3
 refine cF (dF hlt) ⟨λ x w5=>x=(lq l).ch/\St w w5 (Sep (L 0 (lq l).v (lq l).f)),?_,?_⟩
 ·rintro w5 x ⟨rfl,s5⟩ -
  by_cases hc:(lq l).ch<0
  ·refine cT (dT hc) (.inl ⟨hc,gv,n,rfl,?_⟩);have:=(s5.aA [1]).xx;exact((s5.aA [1,2]).pair)
  ·refine cF (dF hc) ?_;obtain⟨r',T',hS,hrn⟩:=Lc (g:=gF l) (n:=n) hG g0 gb;have hch:0<=(lq l).ch:=by omega
   have hst:uE (gF l) n=lq l:=by unfold lq; rw[hn]
   rw[hst] at hS hrn;have hrn':=hrn hch;subst hrn';rcases hS.i.ch with h1|⟨cc,hcc,h1,h2⟩
   ·omega
   ·rw[h1];have rd5:=St.rd cA (s5.out 0 rfl);refine aq (Qt (by omega) rd5 hS.i hcc h2) ?_;rintro v w6 ⟨⟨q,m,cap,rfl⟩,c6⟩;exact⟨_,_,_,rfl,.inr ⟨by omega,⟨q,m,cap,rfl⟩,s5.aC.trans c6 (by simp)⟩⟩
 refine⟨λ ch x w7 k=>∃ (r:Nat) (T:Int) (s:Lo),x=r/\r<=n/\k=n-r/\ch=s.ch/\T=(r:Int)*n/\Vs (gF l) n (n-r) r s=lq l/\Kx (gF l) n 24000000 T r n s/\St w w7 (Sep (L 0 s.v s.f)),⟨n,0,0,WH,rfl,by omega,by omega,rfl,by simp,by unfold lq uE; rw[hn]; rfl,TE hG,s3'⟩,?_⟩
 rintro w7 k7 ch x ⟨r,T,s,rfl,hr7,hk7,rfl,hT,hfin,hS,s7⟩ -
 by_cases hlt:(r:Int)<(n:Int)
 ·have hrn:r<n:=by omega
  have hnr:n-r=(n-(r+1))+1:=by omega
  have hT2:T<=10000/\0<=T:=by
   have h1:(r:Int)*n<=100*n:=Int.mul_le_mul_of_nonneg_right (by omega) (by omega);have h2:(0:Int)<=(r:Int)*n:=Int.mul_nonneg (by omega) (by omega);omega
  have hS1:Kx (gF l) n 24000000 T (r+1) 0 { s with ch:=-1 }:=⟨hS.i.TQ hS.b,hS.b⟩;refine cT (dT hlt) ⟨λ ch x w8 k=>∃ (a:Nat) (t:Lo),x=a/\a<=n/\k=n-a/\ch=t.ch/\t=TF (gF l) n (r+1) a { s with ch:=-1 }/\St w w8 (Sep (L 0 t.v t.f)),⟨n,0,_,rfl,by omega,by omega,rfl,rfl,s7⟩,?_⟩;rintro w8 k8 ch x ⟨aa,t,rfl,ha8,hk8,rfl,ht,s8⟩ -;have hSa:=hS1.TF hG g0 gb (by omega) aa ha8;rw[<- ht] at hSa
  by_cases hlt8:(aa:Int)<(n:Int)
  ·have han:aa<n:=by omega
   refine cT (dT hlt8) ⟨λ ch x w9 k=>∃ (b:Nat) (t' : Lo),x=b/\b<=n/\k=n-b/\ch=t'.ch/\t' = TG (gF l) (r+1) aa b t/\St w w9 (Sep (L 0 t'.v t'.f)),⟨n,0,t,rfl,by omega,by omega,rfl,rfl,s8⟩,?_⟩;rintro w9 k9 ch x ⟨bb,t',rfl,hb9,hk9,rfl,ht',s9⟩ -;have hIb:=hSa.i.TG g0 gb (by omega) han bb hb9;rw[<- ht'] at hIb
   by_cases hlt9:(bb:Int)<(n:Int)
   ·have hbn:bb<n:=by omega
    have xa:l[aa]?=some (l.getD aa CY):=by rw[List.getD_eq_getElem?_getD,gE (by omega)]; rfl
    have xb:l[bb]?=some (l.getD bb CY):=by rw[List.getD_eq_getElem?_getD,gE (by omega)]; rfl
    have s10:St w w9.drew (Sep (L 0 t'.v t'.f)):=s9.quiet (aD.drew w9 []);obtain⟨qa,hqa,hca⟩:=(hr.aC s10.aC).at xa;obtain⟨qb,hqb,hcb⟩:=(hr.aC s10.aC).at xb;have val:∀ {w' : World} {i:Nat},i<n->St w w' (Sep (L 0 t'.v t'.f))->w'.cell? (Addr.add ⟨gv,0,none⟩ (((i:Nat):Int).toNat*1))=some (iv (t'.v i)):=λ hi s=>by
     obtain⟨q,hq,hc⟩:=fu (St.rd cA (s.out 1 rfl)) (Fo t'.v hi)
     cases hq; exact hc
    refine cT (dT hlt9) ⟨λ ch w10=>ch=(Ml (gF l) (r+1) aa bb t').ch/\St w w10 (Sep (L 0 (Ml (gF l) (r+1) aa bb t').v (Ml (gF l) (r+1) aa bb t').f)),?_,?_⟩
    ·rintro w10 ch ⟨rfl,s11⟩ -;refine⟨n-(bb+1),by omega,bb+1,_,aH ⟨by omega,by omega⟩,by omega,rfl,rfl,?_,s11⟩;rw[ht']; rfl
    ·refine ay rfl ⟨by omega,by omega,_,val han s10,ay hqa ⟨by omega,by omega,(l.getD aa CY).p,(l.getD aa CY).want,hca,ay hqb ⟨by omega,by omega,(l.getD bb CY).p,(l.getD bb CY).want,hcb,aq (U1 _ (ho _ (List.mem_of_getElem? xa)) (ho _ (List.mem_of_getElem? xb))) ?_⟩⟩⟩;rintro v w11 ⟨rfl,c11⟩;have s11:=s10.quiet c11;have ba:=hIb.lo aa han;have hla:=hIb.la han;have hg1:=gb aa bb han hbn;have hTa:(aa:Int)<=100:=by omega
     have ew:IntKind.i64.wrap (t'.v aa+zS (l.getD aa CY) (l.getD bb CY))=t'.v aa+gF l aa bb:=aH ⟨by show _<=t'.v aa+gF l aa bb; omega,by show t'.v aa+gF l aa bb<=_; omega⟩;refine⟨_,rfl,val han s11,ay rfl ⟨by omega,by omega,_,val hbn s11,?_⟩⟩;rw[ew]
     by_cases hrl:t'.v aa+gF l aa bb<t'.v bb
     ·have er:Ml (gF l) (r+1) aa bb t' = { v:=eU t'.v bb (t'.v aa+gF l aa bb),f:=eU t'.f bb aa,lr:=eU t'.lr bb (r+1),ch:=bb }:=by unfold Ml; rw[if_pos hrl]
      rw[er];refine cT (dT hrl) (ay rfl ⟨by omega,by omega,?_⟩);rw[Int.toNat_natCast];refine St.jY (v:=iv) (x:=t'.v aa+gF l aa bb) rfl (s11.out 1 rfl) (i:=bb) (by rw[fm]; exact hbn) λ w12 s12=>?_;have e2:(eD t'.v n).set bb (t'.v aa+gF l aa bb)=eD (eU t'.v bb (t'.v aa+gF l aa bb)) n:=D2 _ _ _ _;rw[e2] at s12;have s13:St w w12 (Sep [cJ 3 1 i1 (some ⟨gf,0,none⟩) n (eD t'.f n),cJ 2 1 i1 (some ⟨gv,0,none⟩) n (eD (eU t'.v bb (t'.v aa+gF l aa bb)) n)]):=s12.back (l:=L 0 t'.v t'.f) (i:=1) (by simp[L]);refine ay rfl ⟨by omega,by omega,?_⟩;refine St.jY (v:=iv) (x:=(aa:Int)) rfl (s13.out 0 rfl) (i:=bb) (by rw[fm]; exact hbn) λ w14 s14=>⟨rfl,?_⟩;have e3:(eD t'.f n).set bb (aa:Int)=eD (eU t'.f bb aa) n:=D2 _ _ _ _;rw[e3] at s14;exact s14.back (l:=[cJ 3 1 i1 (some ⟨gf,0,none⟩) n (eD t'.f n),cJ 2 1 i1 (some ⟨gv,0,none⟩) n (eD (eU t'.v bb (t'.v aa+gF l aa bb)) n)]) (i:=0) (by simp)
     ·have er:Ml (gF l) (r+1) aa bb t' = t':=by unfold Ml; rw[if_neg hrl]
      rw[er];exact cF (dF hrl) ⟨rfl,s11⟩
   ·obtain rfl:n=bb:=by omega
    refine cF (dF hlt9) ⟨n-(aa+1),by omega,aa+1,_,aH ⟨by omega,by omega⟩,by omega,rfl,rfl,?_,s9⟩;rw[ht',ht]; rfl
  ·obtain rfl:n=aa:=by omega
   have eR:t=TI (gF l) n (r+1) s:=ht;have hfin2:(if (TI (gF l) n (r+1) s).ch<0 then TI (gF l) n (r+1) s else Vs (gF l) n (n-(r+1)) (r+1) (TI (gF l) n (r+1) s))=lq l:=by
    rw[<- hfin,hnr]; rfl
   rw[<- eR] at hfin2;refine cF (dF hlt8) ?_
   by_cases hc:t.ch<0
   ·rw[if_pos hc] at hfin2;refine cT (dT hc) ?_;rw[<- hfin2];exact⟨rfl,s8⟩
   ·rw[if_neg hc] at hfin2;refine cF (dF hc) ⟨n-(r+1),by omega,r+1,T+n,t,aH ⟨by omega,by omega⟩,by omega,rfl,rfl,?_,hfin2,hSa,s8⟩;rw[hT,Int.natCast_add,Int.add_mul]; omega
 ·obtain rfl:n=r:=by omega
  rw[Nat.sub_self] at hfin;have hfin:s=lq l:=hfin;subst hfin;exact cF (dF hlt) ⟨rfl,s7⟩
def pe(l:List Ch):Bool:=l.all vM&&decide ((lq l).ch<0)
theorem EX{l:List Ch}:l.all vM=true<->∀ c∈l,c.Ok:=by simp[List.all_eq_true,Fb]
theorem LQ{w:World}{a:OA}{c:Nat}{l:List Ch}(hr:G7 w a l)(hl:l.length<=100) :
  CP 228 #[.slice a l.length c] w (λ r w'=>(∃ a1 l1 c1 a2 l2 c2,r=.tuple #[.agg #[.slice a1 l1 c1,.slice a2 l2 c2],.bool (pe l)])/\aD w w' []):=by
 refine uT ?_;unfold p6;refine(St.start w).one.aB _ λ r1 w1 s1=>aq (y9 (hr.aC s1.aC) (by omega)) ?_;rintro v w2 ⟨rfl,c2⟩;have s2:=s1.quiet c2;refine⟨_,rfl,?_⟩
 cases ha:l.all vM with
 | false =>
  refine cT rfl (s2.aE 0 rfl [.slice none 0 0,.slice none 0 0] rfl (by simp[Value.oneCell']) λ w3 s3=>⟨_,_,_,_,_,_,s3.cellsIn 0 rfl,?_⟩);exact⟨⟨_,_,_,_,_,_,by rw[pe,ha]; rfl⟩,s3.aC⟩
 | true =>
  have ho:=EX.1 ha;refine cF rfl (aq (Ld (hr.aC s2.aC) hl ho) ?_);rintro v w4 (⟨hc,g,cc,rfl,s4⟩|⟨hc,⟨q,m,cc,rfl⟩,c4⟩)
  ·have hcons:pe l=true:=by rw[pe,ha,dT hc]; rfl
   let L:List Int->List aJ:=λ out=>[cJ 2 1 i1 (some ⟨g,0,none⟩) cc out,ah r1 #[.slice none 0 0,.slice none 0 0] 351,emp];have s5:St w w4 (Sep (L (eD (lq l).v l.length))):=(s2.and s4.first);have val:∀ {w' : World} {out:List Int} {i:Nat},out.length=l.length->i<l.length->St w w' (Sep (L out))->w'.cell? (Addr.add ⟨g,0,none⟩ (((i:Nat):Int).toNat*1))=some (iv (out.getD i 0)):=λ {w' out i} ho hi s=>by
    obtain⟨q,hq,hc⟩:=fu (St.rd cA s) (i:=i) (x:=out.getD i 0) (by rw[List.getD_eq_getElem?_getD,gE (by omega)]; rfl)
    cases hq; exact hc
   refine⟨_,_,_,_,_,_,rfl,cF rfl ⟨λ _ n w6 m=>∃ j:Nat,n=j/\j<=l.length/\m=l.length-j/\St w w6 (Sep (L (eD (lq l).v l.length))),⟨l.length,0,rfl,by omega,by omega,s5⟩,?_⟩⟩;rintro w6 m n n2 ⟨j,rfl,hj,hm,s6⟩ -
   by_cases hlt:(j:Int)<(l.length:Int)
   ·have hx:l[j]?=some (l[j]'(by omega)):=gE (by omega);generalize l[j]'(by omega)=y at hx;obtain⟨q2,hq,hcl2⟩:=(hr.aC s6.aC).at hx;refine cT (dT hlt) (ay hq ⟨by omega,by omega,y.p,y.want,hcl2,s6.aB CY.cells.toArray λ r2 w7 s7=>s7.aE 0 rfl y.cells rfl y.one λ w8 s8=>?_⟩);have s9:=s8.quiet (aD.drew w8 []);have oy:=ho _ (List.mem_of_getElem? hx);have s10:St w w8.drew (Sep (L (eD (lq l).v l.length))):=s9.aA [1,2,3];have hjl:j<l.length:=by omega
    refine⟨_,xT s9 0 rfl,_,cU s9 0 rfl,ay rfl ⟨by omega,by omega,_,val (fm _ _) hjl s10,aq (jI _ oy.p oy.w) ?_⟩⟩;rintro v w11 ⟨rfl,c11⟩;have s11:=s10.quiet c11;exact⟨_,rfl,val (fm _ _) hjl s11,l.length-(j+1),by omega,j+1,aH ⟨by omega,by omega⟩,by omega,rfl,s11⟩
   ·refine cF (dF hlt) ⟨λ _ n w6 m=>∃ j:Nat,n=j/\j<=l.length/\m=l.length-j/\St w w6 (Sep (L (eD (lq l).v l.length))),⟨l.length,0,rfl,by omega,by omega,s6⟩,?_⟩;clear s6 hlt hj hm;rintro w10 m3 n5 n6 ⟨j,rfl,hj,hm,s6⟩ -
    by_cases hlt:(j:Int)<(l.length:Int)
    ·have hx:l[j]?=some (l[j]'(by omega)):=gE (by omega);generalize l[j]'(by omega)=y at hx;have hjl:j<l.length:=by omega
     obtain⟨q2,hq,hcl2⟩:=(hr.aC s6.aC).at hx;refine cT (dT hlt) ⟨λ _ w11=>St w w11 (Sep (L (eD (lq l).v l.length))),λ w11 n7 s11 _=>⟨l.length-(j+1),by omega,j+1,aH ⟨by omega,by omega⟩,by omega,rfl,s11⟩,?_⟩;refine ay hq ⟨by omega,by omega,y.p,y.want,hcl2,s6.aB CY.cells.toArray λ r2 w7 s7=>s7.aE 0 rfl y.cells rfl y.one λ w8 s8=>⟨_,cU s8 0 rfl,?_⟩⟩;have s10:St w w8 (Sep (L (eD (lq l).v l.length))):=s8.aA [1,2,3];exact cB (ay rfl ⟨by omega,by omega,_,val (fm _ _) hjl s10,s10⟩) s10
    ·refine cF (dF hlt) ⟨λ n w6 m=>∃ (j:Nat) (out:List Int),n=j/\j<=l.length/\m=l.length-j/\out.length=l.length/\St w w6 (Sep (L out)),⟨l.length,0,_,rfl,by omega,by omega,fm _ _,s6⟩,?_⟩;clear s6 hlt hj hm;rintro w14 m5 n9 ⟨j,out,rfl,hj,hm,hou,s6⟩ -
     by_cases hlt:(j:Int)<(l.length:Int)
     ·have hjl:j<l.length:=by omega
      refine cT (dT hlt) (ay rfl ⟨by omega,by omega,_,val hou hjl s6,ay rfl ⟨by omega,by omega,?_⟩⟩);rw[Int.toNat_natCast];exact St.jY (v:=iv) rfl s6 (i:=j) (by omega) λ w15 s15=>⟨l.length-(j+1),by omega,j+1,_,aH ⟨by omega,by omega⟩,by omega,rfl,by simpa using hou,s15⟩
     ·refine cF (dF hlt) ((s6.aA [1,2]).aE 0 rfl [.slice none 0 0,.slice (some ⟨g,0,none⟩) l.length cc] rfl (by simp[Value.oneCell']) λ w3 s3=>⟨_,_,_,_,_,_,s3.cellsIn 0 rfl,⟨none,0,0,_,_,_,by rw[hcons]⟩,s3.aC⟩)
  ·have s4:=s2.quiet c4;refine⟨_,_,_,_,_,_,rfl,cT rfl (s4.aE 0 rfl [.slice (some q) m cc,.slice none 0 0] rfl (by simp[Value.oneCell']) λ w3 s3=>⟨_,_,_,_,_,_,s3.cellsIn 0 rfl,⟨some q,m,cc,none,0,0,by rw[pe,ha,dF (by omega)]; rfl⟩,s3.aC⟩)⟩
theorem XO:fZ prog 239 235 CY.v 12 96:=fZ.mk' underlying239 (by kernel_rfl) rfl (by decide)
theorem B5{w:World}{s:Se}{n:Int}{a:OA}{k:Nat}{l:List Ch}(hr:G7 w a l)(hk:l.length<=k)(hl:l.length+1<=100)(c:Ch) :
  CP 182 #[.agg (Mg s n a k l).toArray,c.v] w (λ r w'=>r=.bool (pe (l++[c]))/\aD w w' []):=by
 refine jA ?_;unfold fK;refine(St.start w).one.aB (Mg s n a k l).toArray λ r1 w1 s1=>s1.aB c.cells.toArray λ r2 w2 s2=>⟨λ b w3=>b=pe (l++[c])/\aD w w3 [],?_,?_⟩
 ·rintro w3 b ⟨rfl,hc⟩;exact λ _=>⟨rfl,hc⟩
 have s3:=s2.quiet (aD.drew w2 []);have app:∀ {w' : World} {r:Nat} {B:List aJ} {R:Option Addr->Nat->Nat->World->Prop},St w w' (Sep (ah r c.cells.toArray 235 :: B))->(∀ a' c' w2,St w w2 (star (cJ 235 12 Ch.cells a' c' (l++[c])) (Sep (ah r c.cells.toArray 235 :: B)))->R a' (l++[c]).length c' w2) ->
   bn prog (Builtin.append_ #[239,239] 239 #[.slice (if (((l.length:Nat):Int)).toNat=0 then a else Option.map (λ x=>Addr.add x (0*12)) a) ((((l.length:Nat):Int)).toNat-0) ((((l.length:Nat):Int)).toNat-0),.slice (some ⟨r,0,none⟩) 1 1]) w' λ e w2=>∃ a l c,e=.slice a l c/\R a l c w2:=by
  intro w' r B R sB hR;rw[Int.toNat_natCast,WY,Nat.sub_zero];refine KH XO Ch.len c.one sB (hr.aC sB.aC) (λ j u hj=>?_) (by omega) (by omega) hR;rw[sB.ag 0 rfl]; simpa using hj
 have fin:∀ {w' : World} {B:List aJ} {a' : OA} {c' : Nat},St w w' (star (cJ 235 12 Ch.cells a' c' (l++[c])) (Sep B)) ->
   CC 228 #[.slice a' (l++[c]).length c'] w' (xK λ r w2=>(∃ a1 l1 c1 a2 l2 c2,r=.tuple #[.agg #[.slice a1 l1 c1,.slice a2 l2 c2],.bool (pe (l++[c]))])/\aD w' w2 []):=λ s=>LQ (St.rd Ch.len s) (by simpa using hl)
 let Wn:Array Value:=#[.slice none 0 0,.slice none 0 0];refine⟨_,_,_,s3.ag 1 rfl 5,_,_,_,s3.ag 1 rfl 5,_,_,_,s3.ag 1 rfl 5,by omega,by omega,by omega,by omega,c.p,c.want,s3.cellsIn 0 rfl,?_,?_⟩
 ·refine s3.aB c.cells.toArray λ r3 w4 s4=>⟨s4.ag 2 rfl 5,s4.ag 2 rfl 5,s4.ag 2 rfl 5,app s4 λ a' c' w5 s5=>⟨aq (fin s5) ?_,?_⟩,?_⟩
  ·rintro v w6 ⟨⟨a1,l1,c1,a2,l2,c2,rfl⟩,c6⟩;exact⟨_,_,_,_,_,_,_,rfl,(St.start' (s5.aC.trans c6 (by simp))).one.aB Wn λ r4 w7 s7=>s7.aE 0 rfl [.slice a1 l1 c1,.slice a2 l2 c2] rfl (by simp[Value.oneCell']) λ w8 s8=>⟨rfl,s8.aC⟩⟩
  ·refine s5.first.one.aB Wn λ r5 w9 s9=>aq (fin (s9.aA [1,0])) ?_;rintro v w6 ⟨⟨a1,l1,c1,a2,l2,c2,rfl⟩,c6⟩;exact⟨_,_,_,_,_,_,_,rfl,(s9.quiet c6).aE 0 rfl [.slice a1 l1 c1,.slice a2 l2 c2] rfl (by simp[Value.oneCell']) λ w8 s8=>⟨rfl,s8.aC⟩⟩
  ·refine s4.aB Wn λ r6 w12 s12=>⟨s12.ag 3 rfl 5,s12.ag 3 rfl 5,s12.ag 3 rfl 5,app (s12.aA [1,0]) λ a' c' w13 s13=>aq (fin s13) ?_⟩;rintro v w6 ⟨⟨a1,l1,c1,a2,l2,c2,rfl⟩,c6⟩;exact⟨_,_,_,_,_,_,_,rfl,(s13.quiet c6).second.aE 1 rfl [.slice a1 l1 c1,.slice a2 l2 c2] rfl (by simp[Value.oneCell']) λ w8 s8=>⟨rfl,s8.aC⟩⟩
 ·refine s3.aB Wn λ r7 w16 s16=>⟨s16.cellsIn 1 rfl,s16.ag 2 rfl 5,s16.ag 2 rfl 5,s16.ag 2 rfl 5,s16.aB c.cells.toArray λ r8 w17 s17=>⟨s17.ag 3 rfl 5,s17.ag 3 rfl 5,s17.ag 3 rfl 5,app s17 λ a' c' w18 s18=>aq (fin s18) ?_⟩⟩;rintro v w6 ⟨⟨a1,l1,c1,a2,l2,c2,rfl⟩,c6⟩;exact⟨_,_,_,_,_,_,_,rfl,(s18.quiet c6).second.aE 1 rfl [.slice a1 l1 c1,.slice a2 l2 c2] rfl (by simp[Value.oneCell']) λ w8 s8=>⟨rfl,s8.aC⟩⟩
theorem K5{w:World}{s:Se}(h:Mo w s){n:Nat}{b:Br}(hb:s.bd[n]?=some b){a:OA}{k:Nat}{l:List Ch}(hr:G7 w a l)(hk:l.length<=k)(hl:l.length+1<=100)(ho:∀ c∈l,c.Ok){c:Ch}(hc:c.Ok) :
  CP 183 #[.agg (Mg s n a k l).toArray,c.v] w (λ r w'=>r=.bool (Fq s b l c||pe (l++[c]))/\aD w w' []):=by
 refine jB ?_;unfold fL;refine(St.start w).one.aB (Mg s n a k l).toArray λ r1 w1 s1=>s1.aB c.cells.toArray λ r2 w2 s2=>?_;refine⟨_,_,_,_,_,_,_,_,_,_,_,_,_,_,_,_,s2.cellsIn 1 rfl,c.p,c.want,s2.cellsIn 0 rfl,aq (JB (h.aC s2.aC) hb (hr.aC s2.aC) (by omega) ho hc) ?_⟩;rintro v w3 ⟨rfl,c3⟩;have s3:=s2.quiet c3;refine⟨_,rfl,?_⟩
 cases hf:Fq s b l c with
 | true=>exact cT rfl ⟨rfl,s3.aC⟩
 | false =>
  refine cF rfl ⟨_,_,_,_,_,_,_,_,_,_,_,_,_,_,_,_,s3.cellsIn 1 rfl,c.p,c.want,s3.cellsIn 0 rfl,aq (B5 (hr.aC s3.aC) hk hl c) ?_⟩;rintro v w4 ⟨rfl,c4⟩;exact⟨_,rfl,rfl,(s3.quiet c4).aC⟩
def J6(rule:Int)(s:Se)(b:Br)(l:List Ch)(c:Ch):Bool:=if rule=1 then Fq s b l c else if rule=2 then pe (l++[c]) else Fq s b l c||pe (l++[c])
def Hl(rule:Int)(s:Se)(b:Br)(l:List Ch)(c:Ch):Int :=
 if 1<=rule/\rule<=3 then (if (if BX l then decide (c.want=z6) else J6 rule s b l c) then 0 else 15) else 4
theorem Mp{w:World}{s:Se}(h:Mo w s){n:Nat}{b:Br}(hb:s.bd[n]?=some b){a:OA}{k:Nat}{l:List Ch}(hr:G7 w a l)(hk:l.length<=k)(hl:l.length+1<=100)(ho:∀ c∈l,c.Ok){c:Ch}(hc:c.Ok)(rule:Int) :
  CP 146 #[.agg s.arr,iv rule,iv n,.slice a l.length k,c.v] w (λ r w'=>r=iv (Hl rule s b l c)/\aD w w' []):=by
 refine sH ?_;unfold nO;refine(St.start w).one.aB s.arr λ r1 w1 s1=>s1.aB c.cells.toArray λ r2 w2 s2=>⟨_,_,_,_,_,_,_,_,_,_,_,_,s2.cellsIn 1 rfl,s2.aB #[.slice none 0 0,.slice none 0 0,.slice none 0 0,.slice none 0 0,iv 0,.slice none 0 0] λ r3 w3 s3=>s3.aE 0 rfl (Mg s n a k l) rfl (by simp[Mg,Value.oneCell']) λ w4 s4=>?_⟩;have hn:n<s.bd.length:=(List.getElem?_eq_some_iff.1 hb).1;let Acc (x:Bool) (v:Value):Prop:=∀ (w' : World) (R:Ending->World->Prop),aD w w' []->(∀ w'',aD w' w'' []->R (.returned (.bool x)) w'')->eu prog v #[c.v] w' R;refine⟨_,_,_,_,_,_,_,_,_,_,_,_,_,_,_,_,s4.cellsIn 0 rfl,λ v w5=>(1<=rule/\rule<=3)/\Acc (J6 rule s b l c) v/\St w w5 (Sep [ah r2 c.cells.toArray 235,ah r1 s.arr 100,emp]),?_,?_⟩
 ·rintro w5 v ⟨hru,hv,s5⟩ -;refine⟨_,_,_,_,_,_,_,_,_,_,_,_,s5.cellsIn 1 rfl,aq (NC (n:Int)) ?_⟩;rintro r w6 ⟨rfl,c6⟩;have s6:=s5.quiet c6;refine⟨_,rfl,cF (by simp; omega) ⟨_,cU s6 0 rfl,aq (dI w6 c.want) ?_⟩⟩;rintro r w7 ⟨rfl,c7⟩;have s7:=s6.quiet c7;have h0:c.want.l.all nw=true:=by
   have:=Fb.2 hc;rw[vM,Bool.and_eq_true] at this; exact this.2
  rw[h0];refine⟨_,rfl,cF rfl ⟨λ v w8=>Acc (if BX l then decide (c.want=z6) else J6 rule s b l c) v/\St w w8 (Sep [ah r2 c.cells.toArray 235,ah r1 s.arr 100,emp]),?_,aq (Nc (hr.aC s7.aC) (by omega)) ?_⟩⟩
  ·rintro w8 v2 ⟨hv2,s8⟩ -;refine⟨_,_,s8.cellsIn 0 rfl,hv2 _ _ s8.aC λ w9 c9=>⟨_,rfl,?_⟩⟩
   cases hx:(if BX l then decide (c.want=z6) else J6 rule s b l c) with
   | false=>exact cT rfl ⟨by rw[Hl,if_pos hru,hx]; rfl,(s8.quiet c9).aC⟩
   | true=>exact cF rfl ⟨by rw[Hl,if_pos hru,hx]; rfl,(s8.quiet c9).aC⟩
  ·rintro r w8 ⟨rfl,rfl⟩;refine⟨_,rfl,?_⟩
   cases he:BX l with
   | false=>exact cF rfl ⟨hv,s7⟩
   | true =>
    refine cT rfl ⟨?_,s7⟩;intro w' R _ k;refine bO (by kernel_rfl) (aq (K:=λ r w''=>r=.bool (decide (c.want=z6))/\aD w' w'' []) (oV ?_) ?_)
    ·unfold kn;exact(St.start w').one.aB c.cells.toArray λ r2 w2 s2=>⟨_,cU s2 0 rfl,by rw[I6.beq_eq],s2.aC⟩
    ·rintro r w'' ⟨rfl,hc⟩; exact k w'' hc
 ·have s5:St w w4 (Sep [ah r2 c.cells.toArray 235,ah r1 s.arr 100,emp]):=s4.aA [1,2,3]
  by_cases h1:rule=1
  ·subst h1;refine cT rfl ⟨⟨by omega,by omega⟩,?_,s5⟩;intro w' R hw' k;refine bO (by kernel_rfl) (aq (JB (h.aC hw') hb (hr.aC hw') (by omega) ho hc) ?_);rintro r w'' ⟨rfl,hc⟩; exact k w'' hc
  refine cF (by simpa using h1) ?_
  by_cases h2:rule=2
  ·subst h2;refine cT rfl ⟨_,_,_,_,_,_,_,_,_,_,_,_,_,_,_,_,s4.cellsIn 0 rfl,⟨by omega,by omega⟩,?_,s5⟩;intro w' R hw' k;refine bO (by kernel_rfl) (aq (B5 (hr.aC hw') hk hl c) ?_);rintro r w'' ⟨rfl,hc⟩; exact k w'' hc
  refine cF (by simpa using h2) ?_
  by_cases h3:rule=3
  ·subst h3;refine cT rfl ⟨_,_,_,_,_,_,_,_,_,_,_,_,_,_,_,_,s4.cellsIn 0 rfl,⟨by omega,by omega⟩,?_,s5⟩;intro w' R hw' k;refine bO (by kernel_rfl) (aq (K5 (h.aC hw') hb (hr.aC hw') hk hl ho hc) ?_);rintro r w'' ⟨rfl,hc⟩; exact k w'' hc
  exact cF (by simpa using h3) ⟨by rw[Hl,if_neg (by omega)],s5.aC⟩
def iY(a:Nat)(b:Int)(w:World)(K:KP):=∃ c:Bool->qW,(∀ d e,c e d->∀ f:qv,cond e (K qn d) (∃ e f g,d.cell? (qd a 8)=some (.slice e f g)/\∃ g:OA->Nat->Nat->Int->qN,(∃ h,g none 0 0 0 d h)/\∀ d h i j k l,g i j k l d h->∀ m:qv,cond (decide (l<(f:Int))) (av e λ e=>0<=l/\l<(f:Int)/\∃ f:I6,∃ m n o p q r s t u,af d (Addr.add e ((l).toNat*9)) 0 (f.on [.slice m n o,.slice p q r,.slice s t u])/\au d (.cells #[qz,qz,qz,qz,qz,qz,qn,qn,qn] 157) λ e v=>aU (qd e 0) 0 (f.on [.slice m n o,.slice p q r,.slice s t u]) v λ f=>∃ m:I6,af f.drew (qd e 0) 0 m.vs/\∃ n o p,f.drew.cell? (qd e 6)=some (.slice n o p)/\av n λ e=>0<=b/\b<(o:Int)/\∃ n:I6,af f.drew (Addr.add e ((b).toNat*6)) 0 n.vs/\au f.drew (.cells (m.on (n.vs):List Value).toArray 235) λ e f=>bn prog (Builtin.append_ #[239,239] 239 #[.slice i j k,.slice (some (qd e 0)) 1 1]) f λ e f=>∃ m n o,e=(.slice m n o)/\∃ e,e<h/\g m n o (IntKind.i64.wrap (l+1)) f e) (K (.slice i j k) d)))/\CC 143 #[qp a,iv b] w λ a b=>∃ d,a=.returned (.bool d)/\c (!d) b
theorem mQ{b1 n1 w K}(h:iY b1 n1 w K):CP 147 #[.pointer (some ⟨b1,0,none⟩),iv n1] w K:=an (aF [(6,[(15,.s .bool)]),(122,[(5,.s .slice),(21,.s (.int .i64))])]) func147 (by kernel_rfl) (by kernel_rfl) h
def lK(a:Nat)(w:World)(K:KP):=∃ b c d e f g h i j k l m n o p q r s t,∃ u:I6,∃ v x y z A B C D E F,af w (qd a 0) 0 (.slice b c d :: .slice e f g :: .slice h i j :: .slice k l m :: iv n :: iv o :: iv p :: iv q :: .slice r s t :: u.on [.slice v x y,.slice z A B,.slice C D E,.bool F])/\au w (.cells #[qn,qn,qn,qn,qz,qz,qz,qz,qn,qz,qz,qz,qz,qz,qz,qn,qn,qn,.bool false] 179) λ G H=>aU (qd G 0) 0 (.slice b c d :: .slice e f g :: .slice h i j :: .slice k l m :: iv n :: iv o :: iv p :: iv q :: .slice r s t :: u.on [.slice v x y,.slice z A B,.slice C D E,.bool F]) H λ b=>∃ c d e f g h i j k l m n,af b (qd a 0) 0 [.slice c d e,.slice f g h,.slice i j k,.slice l m n]/\CC 87 #[.agg #[.slice c d e,.slice f g h,.slice i j k,.slice l m n]] b λ b c=>∃ d e f g h i j k l m n o,b=.returned (.agg #[.slice d e f,.slice g h i,.slice j k l,.slice m n o])/\CC 73 #[qp a] c λ b c=>∃ p q r,b=.returned (.slice p q r)/\aU (qd G 0) 0 [.slice d e f,.slice g h i,.slice j k l,.slice m n o] c λ b=>aS b (qd G 8) (.slice p q r) λ b=>∃ c d e,b.drew.cell? (qd a 15)=some (.slice c d e)/\∃ f g h,b.drew.cell? (qd a 16)=some (.slice f g h)/\∃ i j k,b.drew.cell? (qd a 17)=some (.slice i j k)/\CC 88 #[.slice c d e] b.drew λ b c=>∃ d e l,b=.returned (.slice d e l)/\c.cell? (qd a 17)=some (.slice i j k)/\c.cell? (qd a 16)=some (.slice f g h)/\CC 89 #[.slice f g h] c λ b c=>∃ f g h,b=.returned (.slice f g h)/\c.cell? (qd a 17)=some (.slice i j k)/\CC 89 #[.slice i j k] c λ a b=>∃ c i j,a=.returned (.slice c i j)/\aS b (qd G 15) (.slice d e l) λ a=>aS a (qd G 16) (.slice f g h) λ a=>aS a (qd G 17) (.slice c i j) λ a=>K (qp G) a
theorem rA{b1 w K}(h:lK b1 w K):CP 52 #[.pointer (some ⟨b1,0,none⟩)] w K:=an (aF []) func52 (by kernel_rfl) (by kernel_rfl) h
def jF(a:Nat)(w:World)(K:KP):=∃ b c d,w.cell? (qd a 8)=some (.slice b c d)/\CC 114 #[.slice b c d,.func (.func 115) #[] #[]] w λ a b=>∃ c d e,a=.returned (.slice c d e)/\K (.slice c d e) b
theorem oB{b1 w K}(h:jF b1 w K):CP 73 #[.pointer (some ⟨b1,0,none⟩)] w K:=an (aF []) func73 (by kernel_rfl) (by kernel_rfl) h
def nU(a:Nat)(b:Int)(w:World)(K:KP):=cond (decide (b>=0)) (∃ c d e,w.cell? (qd a 17)=some (.slice c d e)/\K (.bool (decide (b<(d:Int)))) w) (K (.bool false) w)
theorem sU{b1 n1 w K}(h:nU b1 n1 w K):CP 143 #[.pointer (some ⟨b1,0,none⟩),iv n1] w K:=an (aF []) func143 (by kernel_rfl) (by kernel_rfl) h
def wV(a:OA)(b c:Nat)(d:OA)(e f:Nat)(g:OA)(h i:Nat)(j:OA)(k l:Nat)(w:World)(K:KP):=au w (.cells #[.slice a b c,.slice d e f,.slice g h i,.slice j k l] 100) λ a b=>au b (.cells #[qn,qn,qn,qn] 100) λ b c=>∃ d e f,c.drew.cell? (qd a 0)=some (.slice d e f)/\∃ g h i,c.drew.cell? (qd a 1)=some (.slice g h i)/\∃ j k l,c.drew.cell? (qd a 2)=some (.slice j k l)/\∃ m n o,c.drew.cell? (qd a 3)=some (.slice m n o)/\CC 80 #[.slice d e f] c.drew λ c d=>∃ e f p,c=.returned (.slice e f p)/\d.cell? (qd a 3)=some (.slice m n o)/\d.cell? (qd a 2)=some (.slice j k l)/\d.cell? (qd a 1)=some (.slice g h i)/\CC 81 #[.slice g h i] d λ c d=>∃ g h i,c=.returned (.slice g h i)/\d.cell? (qd a 3)=some (.slice m n o)/\d.cell? (qd a 2)=some (.slice j k l)/\CC 82 #[.slice j k l] d λ c d=>∃ j k l,c=.returned (.slice j k l)/\d.cell? (qd a 3)=some (.slice m n o)/\CC 83 #[.slice m n o] d λ a c=>∃ d m n,a=.returned (.slice d m n)/\aU (qd b 0) 0 [.slice e f p,.slice g h i,.slice j k l,.slice d m n] c λ a=>∃ c d e f g h i j k l m n,af a (qd b 0) 0 [.slice c d e,.slice f g h,.slice i j k,.slice l m n]/\K (.agg #[.slice c d e,.slice f g h,.slice i j k,.slice l m n]) a
theorem zC{a1 l1 c1 a2 l2 c2 a3 l3 c3 a4 l4 c4 w K}(h:wV a1 l1 c1 a2 l2 c2 a3 l3 c3 a4 l4 c4 w K):CP 87 #[.agg #[.slice a1 l1 c1,.slice a2 l2 c2,.slice a3 l3 c3,.slice a4 l4 c4]] w K:=an (aF []) func87 (by kernel_rfl) (by kernel_rfl) h
def iZ(a:OA)(b c:Nat)(w:World)(K:KP):=bn prog (Instr.makeSlice 154 (iv (b:Int)) (iv (b:Int))) w λ d e=>∃ f g h,d=(.slice f g h)/\bn prog (Builtin.copy_ #[154,154] 3 #[.slice f g h,.slice a b c]) e λ _e1 a=>K (.slice f g h) a
theorem mR{a1 l1 c1 w K}(h:iZ a1 l1 c1 w K):CP 88 #[.slice a1 l1 c1] w K:=an (aF []) func88 (by kernel_rfl) (by kernel_rfl) h
def kC(a:OA)(b c:Nat)(w:World)(K:KP):=bn prog (Instr.makeSlice 155 (iv (b:Int)) (iv (b:Int))) w λ d e=>∃ f g h,d=(.slice f g h)/\bn prog (Builtin.copy_ #[155,155] 3 #[.slice f g h,.slice a b c]) e λ _e1 a=>K (.slice f g h) a
theorem o8{a1 l1 c1 w K}(h:kC a1 l1 c1 w K):CP 89 #[.slice a1 l1 c1] w K:=an (aF []) func89 (by kernel_rfl) (by kernel_rfl) h
def lP(a:OA)(b c:Nat)(d:Value)(w:World)(K:KP):=∃ c:OA->Nat->Nat->Int->qN,(∃ e,c none 0 0 0 w e)/\∀ f e g h i j,c g h i j f e->∀ k:qv,cond (decide (j<(b:Int))) (av a λ a=>0<=j/\j<(b:Int)/\∃ b:I6,∃ k l m n o p q r s,af f (Addr.add a ((j).toNat*9)) 0 (b.on [.slice k l m,.slice n o p,.slice q r s])/\au f (.cells #[qz,qz,qz,qz,qz,qz,qn,qn,qn] 157) λ a t=>aU (qd a 0) 0 (b.on [.slice k l m,.slice n o p,.slice q r s]) t λ b=>∃ k:I6,∃ l m n o p q r s t,af b (qd a 0) 0 (k.on [.slice l m n,.slice o p q,.slice r s t])/\eu prog d #[.agg (k.on [.slice l m n,.slice o p q,.slice r s t]:List Value).toArray] b λ a b=>∃ d:I6,∃ k l m n o p q r s,a=.returned (.agg (d.on [.slice k l m,.slice n o p,.slice q r s]:List Value).toArray)/\au b (.cells (d.on [.slice k l m,.slice n o p,.slice q r s]:List Value).toArray 157) λ a b=>bn prog (Builtin.append_ #[152,152] 152 #[.slice g h i,.slice (some (qd a 0)) 1 1]) b λ a b=>∃ d k l,a=(.slice d k l)/\∃ a,a<e/\c d k l (IntKind.i64.wrap (j+1)) b a) (K (.slice g h i) f)
theorem rD{a1 l1 c1 v1 w K}(h:lP a1 l1 c1 v1 w K):CP 114 #[.slice a1 l1 c1,v1] w K:=an (aF [(58,[(5,.s .slice),(10,.s (.int .i64))])]) func114 (by kernel_rfl) (by kernel_rfl) h
def jG(a:I6)(b:OA)(c d:Nat)(e:OA)(f g:Nat)(h:OA)(i j:Nat)(w:World)(K:KP):=au w (.cells (a.on [.slice b c d,.slice e f g,.slice h i j]:List Value).toArray 157) λ a b=>au b (.cells #[qz,qz,qz,qz,qz,qz,qn,qn,qn] 157) λ b c=>∃ d e f,c.drew.cell? (qd a 6)=some (.slice d e f)/\∃ g h i,c.drew.cell? (qd a 7)=some (.slice g h i)/\∃ j k l,c.drew.cell? (qd a 8)=some (.slice j k l)/\CC 88 #[.slice d e f] c.drew λ c d=>∃ e f m,c=.returned (.slice e f m)/\d.cell? (qd a 8)=some (.slice j k l)/\d.cell? (qd a 7)=some (.slice g h i)/\CC 88 #[.slice g h i] d λ c d=>∃ g h i,c=.returned (.slice g h i)/\d.cell? (qd a 8)=some (.slice j k l)/\CC 89 #[.slice j k l] d λ c d=>∃ j k l,c=.returned (.slice j k l)/\aS d (qd a 6) (.slice e f m) λ c=>aS c (qd a 7) (.slice g h i) λ c=>aS c (qd a 8) (.slice j k l) λ c=>∃ d:I6,∃ e f g h i j k l m,af c (qd a 0) 0 (d.on [.slice e f g,.slice h i j,.slice k l m])/\aU (qd b 0) 0 (d.on [.slice e f g,.slice h i j,.slice k l m]) c λ a=>∃ c:I6,∃ d e f g h i j k l,af a (qd b 0) 0 (c.on [.slice d e f,.slice g h i,.slice j k l])/\K (.agg (c.on [.slice d e f,.slice g h i,.slice j k l]:List Value).toArray) a
theorem oC{u1 a1 l1 c1 a2 l2 c2 a3 l3 c3 w K}(h:jG u1 a1 l1 c1 a2 l2 c2 a3 l3 c3 w K):CP 115 #[.agg (u1.on [.slice a1 l1 c1,.slice a2 l2 c2,.slice a3 l3 c3]:List Value).toArray] w K:=an (aF []) func115 (by kernel_rfl) (by kernel_rfl) h
def BN(a:OA)(b c:Nat)(d:OA)(e f:Nat)(g:OA)(h i:Nat)(j:OA)(k l:Nat)(m n o p:Int)(w:World)(K:KP):=au w (.cells #[.slice a b c,.slice d e f,.slice g h i,.slice j k l] 100) λ a b=>au b (.cells #[iv m,iv n,iv o,iv p] 23) λ b c=>∃ d e f g h i j k l m n o,af c (qd a 0) 0 [.slice d e f,.slice g h i,.slice j k l,.slice m n o]/\CC 140 #[.agg #[.slice d e f,.slice g h i,.slice j k l,.slice m n o]] c λ c d=>∃ e,c=.returned (iv e)/\cond (e !=0) (K (.tuple #[.pointer none,iv e]) d) (∃ c e f g,af d (qd b 0) 0 [iv c,iv e,iv f,iv g]/\CC 120 #[.agg #[iv c,iv e,iv f,iv g]] d λ c d=>∃ e,c=.returned (iv e)/\cond (e !=0) (K (.tuple #[.pointer none,iv e]) d) (∃ c:OA->qW,(∀ e f,c f e->∀ g:qv,CC 142 #[.pointer f] e λ e g=>e=.returned (.tuple #[])/\K (.tuple #[.pointer f,qz]) g)/\∃ e f g h i j k l m n o p,af d.drew (qd a 0) 0 [.slice e f g,.slice h i j,.slice k l m,.slice n o p]/\∃ q r s t,af d.drew (qd b 0) 0 [iv q,iv r,iv s,iv t]/\∃ u v x,d.drew.cell? (qd a 0)=some (.slice u v x)/\∃ y z A,d.drew.cell? (qd a 1)=some (.slice y z A)/\(CC 87 #[.agg #[.slice e f g,.slice h i j,.slice k l m,.slice n o p]] d.drew λ B C=>∃ D E F G H I J L M N O P,B=.returned (.agg #[.slice D E F,.slice G H I,.slice J L M,.slice N O P])/\C.cell? (qd a 1)=some (.slice y z A)/\C.cell? (qd a 0)=some (.slice u v x)/\af C (qd b 0) 0 [iv q,iv r,iv s,iv t]/\(CC 141 #[.slice u v x] C λ B Q=>∃ R:I6,B=.returned (.agg R.vs.toArray)/\Q.cell? (qd a 1)=some (.slice y z A)/\af Q (qd b 0) 0 [iv q,iv r,iv s,iv t]/\bn prog (Instr.makeSlice 155 (iv (z:Int)) (iv (z:Int))) Q λ y A=>∃ B Q S,y=(.slice B Q S)/\af A (qd b 0) 0 [iv q,iv r,iv s,iv t]/\au A (.cells (.slice D E F :: .slice G H I :: .slice J L M :: .slice N O P :: iv q :: iv r :: iv s :: iv t :: qn :: R.on [qn,qn,.slice B Q S,.bool false]:List Value).toArray 179) λ y A=>c (some (qd y 0)) A)/\bn prog (Instr.makeSlice 155 (iv (z:Int)) (iv (z:Int))) C λ y A=>∃ B C Q,y=(.slice B C Q)/\A.cell? (qd a 0)=some (.slice u v x)/\af A (qd b 0) 0 [iv q,iv r,iv s,iv t]/\CC 141 #[.slice u v x] A λ y A=>∃ R:I6,y=.returned (.agg R.vs.toArray)/\af A (qd b 0) 0 [iv q,iv r,iv s,iv t]/\au A (.cells (.slice D E F :: .slice G H I :: .slice J L M :: .slice N O P :: iv q :: iv r :: iv s :: iv t :: qn :: R.on [qn,qn,.slice B C Q,.bool false]:List Value).toArray 179) λ y A=>c (some (qd y 0)) A)/\bn prog (Instr.makeSlice 155 (iv (z:Int)) (iv (z:Int))) d.drew λ d y=>∃ z A B,d=(.slice z A B)/\y.cell? (qd a 0)=some (.slice u v x)/\af y (qd b 0) 0 [iv q,iv r,iv s,iv t]/\af y (qd a 0) 0 [.slice e f g,.slice h i j,.slice k l m,.slice n o p]/\CC 87 #[.agg #[.slice e f g,.slice h i j,.slice k l m,.slice n o p]] y λ d e=>∃ f g h i j k l m n o p y,d=.returned (.agg #[.slice f g h,.slice i j k,.slice l m n,.slice o p y])/\e.cell? (qd a 0)=some (.slice u v x)/\af e (qd b 0) 0 [iv q,iv r,iv s,iv t]/\CC 141 #[.slice u v x] e λ a d=>∃ e:I6,a=.returned (.agg e.vs.toArray)/\af d (qd b 0) 0 [iv q,iv r,iv s,iv t]/\au d (.cells (.slice f g h :: .slice i j k :: .slice l m n :: .slice o p y :: iv q :: iv r :: iv s :: iv t :: qn :: e.on [qn,qn,.slice z A B,.bool false]:List Value).toArray 179) λ a b=>c (some (qd a 0)) b))
theorem Dr{a1 l1 c1 a2 l2 c2 a3 l3 c3 a4 l4 c4 n1 n2 n3 n4 w K}(h:BN a1 l1 c1 a2 l2 c2 a3 l3 c3 a4 l4 c4 n1 n2 n3 n4 w K):CP 122 #[.agg #[.slice a1 l1 c1,.slice a2 l2 c2,.slice a3 l3 c3,.slice a4 l4 c4],.agg #[iv n1,iv n2,iv n3,iv n4]] w K:=an (aF [(15,[(8,.s .ptr)])]) func122 (by kernel_rfl) (by kernel_rfl) h
def nT(a:Nat)(b:Int)(c:I6)(w:World)(K:KP):=au w (.cells c.vs.toArray 41) λ c d=>∃ e,d.cell? (qd a 18)=some (.bool e)/\cond e (K (iv 10) d) (CC 143 #[qp a,iv b] d λ d e=>∃ f,d=.returned (.bool f)/\cond (!f) (K (iv 6) e) (∃ d f g,e.cell? (qd a 17)=some (.slice d f g)/\av d λ d=>0<=b/\b<(f:Int)/\∃ f,e.cell? (Addr.add d ((b).toNat*1))=some (.bool f)/\cond f (K (iv 10) e) (∃ d:I6,af e.drew (qd a 9) 0 d.vs/\∃ f:I6,af e.drew (qd c 0) 0 f.vs/\au e.drew (.cells #[qz,qz,qz,qz,qz,qz,qz,qz,qz,qz,qz,qz] 235) λ e g=>af g (qd c 0) 0 f.vs/\af g (qd a 9) 0 d.vs/\aU (qd e 0) 0 (d.on (f.vs)) g λ d=>∃ f g h i j k l m n o p q,af d.drew (qd a 0) 0 [.slice f g h,.slice i j k,.slice l m n,.slice o p q]/\∃ r:I6,af d.drew (qd c 0) 0 r.vs/\CC 144 #[.agg #[.slice f g h,.slice i j k,.slice l m n,.slice o p q],iv b,.agg r.vs.toArray] d.drew λ d f=>∃ g,d=.returned (iv g)/\cond (g !=0) (K (iv g) f) (∃ d g h i j k l m n o p q,af f.drew (qd a 0) 0 [.slice d g h,.slice i j k,.slice l m n,.slice o p q]/\∃ r s:I6,af f.drew (qd e 0) 0 (r.on (s.vs))/\CC 145 #[.agg #[.slice d g h,.slice i j k,.slice l m n,.slice o p q],iv b,.agg (r.on (s.vs):List Value).toArray] f.drew λ d f=>∃ g,d=.returned (iv g)/\cond (g !=0) (K (iv g) f) (∃ d g h i j k l m n o p q,af f.drew (qd a 0) 0 [.slice d g h,.slice i j k,.slice l m n,.slice o p q]/\∃ r,f.drew.cell? (qd a 7)=some (iv r)/\∃ s t:I6,af f.drew (qd e 0) 0 (s.on (t.vs))/\CC 147 #[qp a,iv b] f.drew λ f u=>∃ v x y,f=.returned (.slice v x y)/\af u (qd e 0) 0 (s.on (t.vs))/\u.cell? (qd a 7)=some (iv r)/\af u (qd a 0) 0 [.slice d g h,.slice i j k,.slice l m n,.slice o p q]/\CC 146 #[.agg #[.slice d g h,.slice i j k,.slice l m n,.slice o p q],iv r,iv b,.slice v x y,.agg (s.on (t.vs):List Value).toArray] u λ d e=>∃ f,d=.returned (iv f)/\cond (f !=0) (K (iv f) e) (∃ d f g,e.drew.cell? (qd a 15)=some (.slice d f g)/\∃ g h i,e.drew.cell? (qd a 16)=some (.slice g h i)/\∃ a:I6,af e.drew (qd c 0) 0 a.vs/\av d λ c=>0<=b/\b<(f:Int)/\aU (Addr.add c ((b).toNat*6)) 0 a.vs e.drew λ a=>av g λ c=>0<=b/\b<(h:Int)/\aS a (Addr.add c ((b).toNat*1)) (.bool true) λ a=>K qz a))))))
theorem sS{b1 n1 u1 w K}(h:nT b1 n1 u1 w K):CP 123 #[.pointer (some ⟨b1,0,none⟩),iv n1,.agg u1.vs.toArray] w K:=an (aF []) func123 (by kernel_rfl) (by kernel_rfl) h
def kz(a:Nat)(w:World)(K:KP):=∃ b,w.cell? (qd a 18)=some (.bool b)/\cond b (K (.tuple #[.bool false,iv 10]) w) (∃ b c d,w.cell? (qd a 0)=some (.slice b c d)/\CC 148 #[.slice b c d] w λ b c=>∃ d:I6,b=.returned (.agg d.vs.toArray)/\au c (.cells z6.vs.toArray 41) λ b c=>aU (qd b 0) 0 d.vs c λ c=>∃ d e f,c.cell? (qd a 15)=some (.slice d e f)/\CC 88 #[.slice d e f] c λ c d=>∃ e f g,c=.returned (.slice e f g)/\∃ c:OA->Nat->Nat->qW,(∀ h i j k,c i j k h->∀ l:qv,∃ l m n,h.drew.cell? (qd a 8)=some (.slice l m n)/\∃ o:I6,af h.drew (qd a 9) 0 o.vs/\∃ p q r,h.drew.cell? (qd a 15)=some (.slice p q r)/\∃ s t u,h.drew.cell? (qd a 16)=some (.slice s t u)/\au h.drew (.cells (o.on [.slice p q r,.slice i j k,.slice s t u]:List Value).toArray 157) λ h o=>o.cell? (qd a 8)=some (.slice l m n)/\bn prog (Builtin.append_ #[152,152] 152 #[.slice l m n,.slice (some (qd h 0)) 1 1]) o λ h l=>∃ m n o,h=(.slice m n o)/\aS l (qd a 8) (.slice m n o) λ h=>CC 142 #[qp a] h λ h l=>h=.returned (.tuple #[])/\∃ h:I6,af l (qd b 0) 0 h.vs/\CC 151 #[.agg h.vs.toArray,.slice i j k] l λ h i=>∃ j:I6,h=.returned (.agg j.vs.toArray)/\au i (.cells z6.vs.toArray 41) λ h i=>aU (qd h 0) 0 j.vs i λ i=>∃ j:Nat->Int->qW,(∀ k l m,j l m k->∀ n:qv,∃ n:Bool->qW,(∀ o p,n p o->∀ q:qv,cond p (aS o (qd a 18) (.bool true) λ p=>K (.tuple #[.bool true,qz]) p) (∃ p:I6,af o (qd l 0) 0 p.vs/\aU (qd a 9) 0 p.vs o λ l=>K (.tuple #[.bool false,qz]) l))/\∃ l:I6,af k (qd h 0) 0 l.vs/\cond (I6.beq l z6) (n true k) (∃ l o p,k.cell? (qd a 8)=some (.slice l o p)/\cond (decide ((o:Int)>=(30:Int))) (n true k) (n (m !=0) k)))/\∃ k l m n,af i.drew (qd a 4) 0 [iv k,iv l,iv m,iv n]/\∃ o:I6,af i.drew (qd a 9) 0 o.vs/\∃ p:I6,af i.drew (qd h 0) 0 p.vs/\(CC 152 #[.agg #[iv k,iv l,iv m,iv n],.agg o.vs.toArray,.agg p.vs.toArray] i.drew λ q r=>∃ s:I6,∃ t,q=.returned (.tuple #[.agg s.vs.toArray,iv t])/\au r (.cells z6.vs.toArray 103) λ q r=>aU (qd q 0) 0 s.vs r λ r=>j q t r)/\au i.drew (.cells z6.vs.toArray 103) λ i q=>af q (qd h 0) 0 p.vs/\af q (qd a 9) 0 o.vs/\af q (qd a 4) 0 [iv k,iv l,iv m,iv n]/\CC 152 #[.agg #[iv k,iv l,iv m,iv n],.agg o.vs.toArray,.agg p.vs.toArray] q λ h k=>∃ l:I6,∃ m,h=.returned (.tuple #[.agg l.vs.toArray,iv m])/\aU (qd i 0) 0 l.vs k λ h=>j i m h)/\∃ h i j,d.cell? (qd a 8)=some (.slice h i j)/\cond (decide ((i:Int)>(0:Int))) (∃ h,d.drew.cell? (qd a 6)=some (iv h)/\∃ i:I6,af d.drew (qd b 0) 0 i.vs/\∃ j k l,d.drew.cell? (qd a 15)=some (.slice j k l)/\CC 150 #[qp a] d.drew λ m n=>∃ o p q,m=.returned (.slice o p q)/\n.cell? (qd a 15)=some (.slice j k l)/\af n (qd b 0) 0 i.vs/\n.cell? (qd a 6)=some (iv h)/\CC 149 #[iv h,.agg i.vs.toArray,.slice o p q,.slice j k l] n λ a b=>∃ h i j k,a=.returned (.tuple #[.slice h i j,iv k])/\cond (k !=0) (K (.tuple #[.bool false,iv k]) b) (c h i j b)) (c e f g d))
theorem o4{b1 w K}(h:kz b1 w K):CP 124 #[.pointer (some ⟨b1,0,none⟩)] w K:=an (aF [(31,[(5,.s .slice)]),(511,[(9,.s (.blk)),(10,.s (.int .i64))]),(2046,[(111,.s .bool)])]) func124 (by kernel_rfl) (by kernel_rfl) h
def lN(a:Nat)(w:World)(K:KP):=∃ b,w.cell? (qd a 18)=some (.bool b)/\cond b (K (iv 10) w) (CC 142 #[qp a] w λ b c=>b=.returned (.tuple #[])/\aS c (qd a 18) (.bool true) λ a=>K qz a)
theorem rC{b1 w K}(h:lN b1 w K):CP 125 #[.pointer (some ⟨b1,0,none⟩)] w K:=an (aF []) func125 (by kernel_rfl) (by kernel_rfl) h
def lM(a:Nat)(b:Int)(w:World)(K:KP):=∃ c:Bool->qW,(∀ d e,c e d->∀ f:qv,cond e (K (iv 6) d) (∃ e f g,d.cell? (qd a 17)=some (.slice e f g)/\av e λ e=>0<=b/\b<(f:Int)/\∃ f,d.cell? (Addr.add e ((b).toNat*1))=some (.bool f)/\cond f (K (iv 10) d) (∃ e f g,d.drew.cell? (qd a 17)=some (.slice e f g)/\∃ g h i,d.drew.cell? (qd a 15)=some (.slice g h i)/\∃ i j k,d.drew.cell? (qd a 16)=some (.slice i j k)/\av e λ e=>0<=b/\b<(f:Int)/\aS d.drew (Addr.add e ((b).toNat*1)) (.bool true) λ d=>av g λ e=>0<=b/\b<(h:Int)/\aU (Addr.add e ((b).toNat*6)) 0 z6.vs d λ d=>av i λ e=>0<=b/\b<(j:Int)/\aS d (Addr.add e ((b).toNat*1)) (.bool false) λ d=>K qz d)))/\CC 143 #[qp a,iv b] w λ a b=>∃ d,a=.returned (.bool d)/\c (!d) b
theorem rB{b1 n1 w K}(h:lM b1 n1 w K):CP 128 #[.pointer (some ⟨b1,0,none⟩),iv n1] w K:=an (aF [(12,[(5,.s .bool)])]) func128 (by kernel_rfl) (by kernel_rfl) h
def kA(a:Nat)(b:Int)(w:World)(K:KP):=∃ c:Bool->qW,(∀ d e,c e d->∀ f:qv,cond e (K (iv 4) d) (CC 142 #[qp a] d λ d e=>d=.returned (.tuple #[])/\∃ d:qW,(∀ f,d f->∀ g:qv,aS f (qd a 18) (.bool false) λ f=>K qz f)/\∃ f g h,e.cell? (qd a 8)=some (.slice f g h)/\cond (decide (b<(g:Int))) (∃ f g h,e.cell? (qd a 8)=some (.slice f g h)/\av f λ f=>0<=b/\b<(g:Int)/\∃ g:I6,af e (Addr.add f ((b).toNat*9)) 0 g.vs/\aU (qd a 9) 0 g.vs e λ f=>∃ g h i,f.cell? (qd a 8)=some (.slice g h i)/\0<=b/\b<=(i:Int)/\CC 156 #[.slice (if i=0 then g else Option.map (λ x=>Addr.add x (0*9)) g) ((b).toNat-0) (i-0)] f λ f g=>∃ h i j,f=.returned (.slice h i j)/\aS g (qd a 8) (.slice h i j) λ f=>d f) (d e)))/\cond (decide (b<0)) (c true w) (∃ d e f,w.cell? (qd a 8)=some (.slice d e f)/\cond (decide (b>(e:Int))) (c true w) (∃ d e f,w.cell? (qd a 8)=some (.slice d e f)/\cond (b==(e:Int)) (∃ b,w.cell? (qd a 18)=some (.bool b)/\c b w) (c false w)))
theorem o6{b1 n1 w K}(h:kA b1 n1 w K):CP 129 #[.pointer (some ⟨b1,0,none⟩),iv n1] w K:=an (aF [(51,[(9,.s .bool)]),(31,[])]) func129 (by kernel_rfl) (by kernel_rfl) h
def kB(a:Nat)(w:World)(K:KP):=∃ b c d,w.drew.cell? (qd a 17)=some (.slice b c d)/\∃ e f g,w.drew.cell? (qd a 17)=some (.slice e f g)/\(bn prog (Instr.makeSlice 154 (iv (c:Int)) (iv (c:Int))) w.drew λ h i=>∃ j k l,h=(.slice j k l)/\i.cell? (qd a 17)=some (.slice e f g)/\(bn prog (Instr.makeSlice 155 (iv (f:Int)) (iv (f:Int))) i λ e g=>∃ h m n,e=(.slice h m n)/\aS g (qd a 15) (.slice j k l) λ e=>aS e (qd a 16) (.slice h m n) λ e=>K (.tuple #[]) e)/\aS i (qd a 15) (.slice j k l) λ e=>bn prog (Instr.makeSlice 155 (iv (f:Int)) (iv (f:Int))) e λ e g=>∃ h i j,e=(.slice h i j)/\aS g (qd a 16) (.slice h i j) λ e=>K (.tuple #[]) e)/\bn prog (Instr.makeSlice 155 (iv (f:Int)) (iv (f:Int))) w.drew λ e f=>∃ g h i,e=(.slice g h i)/\f.cell? (qd a 17)=some (.slice b c d)/\bn prog (Instr.makeSlice 154 (iv (c:Int)) (iv (c:Int))) f λ b c=>∃ d e f,b=(.slice d e f)/\aS c (qd a 15) (.slice d e f) λ b=>aS b (qd a 16) (.slice g h i) λ a=>K (.tuple #[]) a
theorem o7{b1 w K}(h:kB b1 w K):CP 142 #[.pointer (some ⟨b1,0,none⟩)] w K:=an (aF []) func142 (by kernel_rfl) (by kernel_rfl) h
def iB(a:Nat)(w:World)(K:KP):=∃ b c d,w.drew.cell? (qd a 8)=some (.slice b c d)/\∃ d e f,w.drew.cell? (qd a 8)=some (.slice d e f)/\av b λ b=>0<=(IntKind.i64.wrap ((e:Int)-(1:Int)))/\(IntKind.i64.wrap ((e:Int)-(1:Int)))<(c:Int)/\∃ c d f,w.drew.cell? (Addr.add (Addr.add b (((IntKind.i64.wrap ((e:Int)-(1:Int)))).toNat*9)) 7)=some (.slice c d f)/\CC 88 #[.slice c d f] w.drew λ b c=>∃ d e f,b=.returned (.slice d e f)/\∃ b g h,c.cell? (qd a 17)=some (.slice b g h)/\∃ a:Int->qN,(∃ h,a 0 c h)/\∀ c h i,a i c h->∀ j:qv,cond (decide (i<(g:Int))) (∃ j:qW,(∀ k,j k->∀ l:qv,∃ l,l<h/\a (IntKind.i64.wrap (i+1)) k l)/\av b λ a=>0<=i/\i<(g:Int)/\∃ b,c.cell? (Addr.add a ((i).toNat*1))=some (.bool b)/\cond b (av d λ a=>0<=i/\i<(e:Int)/\aU (Addr.add a ((i).toNat*6)) 0 z6.vs c λ a=>j a) (j c)) (K (.slice d e f) c)
theorem lO{b1 w K}(h:iB b1 w K):CP 150 #[.pointer (some ⟨b1,0,none⟩)] w K:=an (aF [(58,[(25,.s (.int .i64))]),(467,[])]) func150 (by kernel_rfl) (by kernel_rfl) h
def jH(a:OA)(b c:Nat)(w:World)(K:KP):=bn prog (Instr.makeSlice 152 (iv (b:Int)) (iv (b:Int))) w λ d e=>∃ f g h,d=(.slice f g h)/\bn prog (Builtin.copy_ #[152,152] 3 #[.slice f g h,.slice a b c]) e λ _e1 a=>K (.slice f g h) a
theorem oD{a1 l1 c1 w K}(h:jH a1 l1 c1 w K):CP 156 #[.slice a1 l1 c1] w K:=an (aF []) func156 (by kernel_rfl) (by kernel_rfl) h
def uc  (w:World) (K:KP):=K (.pointer none) w
theorem o5{w K}(h:uc w K):CP 52 #[.pointer none] w K:=an (aF []) func52 (by kernel_rfl) (by kernel_rfl) h
theorem XQ:fZ prog 95 170 (.agg ({ nm:=[],sup:=0,res:=0,pts:=0,grp:=0 }:Pr).cells.toArray) 5 48:=fZ.mk' underlying95 (by kernel_rfl) rfl (by decide)
theorem XN:fZ prog 96 159 (.agg ({ nm:=[],cls:=0,bud:=0,pts:=0 }:Br).cells.toArray) 4 40:=fZ.mk' underlying96 (by kernel_rfl) rfl (by decide)
theorem XP:fZ prog 97 174 (.agg (⟨0,0,0⟩:T3).cells.toArray) 3 24:=fZ.mk' underlying97 (by kernel_rfl) rfl (by decide)
theorem XM:fZ prog 98 177 (.agg (⟨0,0,0⟩:T3).cells.toArray) 3 24:=fZ.mk' underlying98 (by kernel_rfl) rfl (by decide)
theorem Pr.len(p:Pr):p.cells.length=5:=rfl
theorem Br.len(p:Br):p.cells.length=4:=rfl
theorem T3.len(p:T3):p.cells.length=3:=rfl
theorem fy.fl{w:World}{a:OA}{l:List Pr}(h:fy w a l):dx 5 Pr.cells w a l:=λ _ p hp=>let ⟨_,q,hq,hc⟩:=h _ p hp; ⟨q,_,hq,hc,rfl,rfl⟩
theorem lD.fl{w:World}{a:OA}{l:List Br}(h:lD w a l):dx 4 Br.cells w a l:=λ _ p hp=>let ⟨_,q,hq,hc⟩:=h _ p hp; ⟨q,_,hq,hc,rfl,rfl⟩
theorem ES.fl{w:World}{a:OA}{l:List T3}(h:ES w a l):dx 3 T3.cells w a l:=λ _ p hp=>let ⟨q,hq,hc⟩:=h _ p hp; ⟨q,_,hq,hc,rfl,rfl⟩
theorem fy.of{w:World}{a:OA}{l:List Pr}(h:dx 5 Pr.cells w a l)(k:∀ p∈l,p.In):fy w a l:=λ _ p hp=>let ⟨q,hq,hc⟩:=h.at hp; ⟨k p (List.mem_of_getElem? hp),q,hq,hc⟩
theorem lD.of{w:World}{a:OA}{l:List Br}(h:dx 4 Br.cells w a l)(k:∀ p∈l,p.In):lD w a l:=λ _ p hp=>let ⟨q,hq,hc⟩:=h.at hp; ⟨k p (List.mem_of_getElem? hp),q,hq,hc⟩
theorem ES.of{w:World}{a:OA}{l:List T3}(h:dx 3 T3.cells w a l):ES w a l:=λ _ _ hp=>let ⟨q,hq,hc⟩:=h.at hp; ⟨q,hq,hc⟩
theorem fy.in{w:World}{a:OA}{l:List Pr}(h:fy w a l):∀ p∈l,p.In:=λ p hp=>let ⟨i,hi⟩:=List.getElem?_of_mem hp; (h i p hi).1
theorem lD.in{w:World}{a:OA}{l:List Br}(h:lD w a l):∀ p∈l,p.In:=λ p hp=>let ⟨i,hi⟩:=List.getElem?_of_mem hp; (h i p hi).1
theorem BR{w:World}{a:OA}{c:Nat}{l:List Pr}(h:dx 5 Pr.cells w a l)(hl:l.length<=1000) :
  CP 80 #[.slice a l.length c] w (λ r w'=>∃ a' c',r=.slice a' l.length c'/\St w w' (cJ 170 5 Pr.cells a' c' l)):=by
 refine mC ?_;unfold iP;exact o9 (c:=c) (K:=λ r w'=>∃ a' c',r=.slice a' l.length c'/\St w w' (cJ 170 5 Pr.cells a' c' l)) XQ Pr.len Pr.one (St.start w) h (by omega) (by omega) λ a' c' w' s'=>⟨a',c',rfl,s'.first⟩
theorem BP{w:World}{a:OA}{c:Nat}{l:List Br}(h:dx 4 Br.cells w a l)(hl:l.length<=1000) :
  CP 81 #[.slice a l.length c] w (λ r w'=>∃ a' c',r=.slice a' l.length c'/\St w w' (cJ 159 4 Br.cells a' c' l)):=by
 refine nD ?_;unfold jf;exact o9 (c:=c) (K:=λ r w'=>∃ a' c',r=.slice a' l.length c'/\St w w' (cJ 159 4 Br.cells a' c' l)) XN Br.len Br.one (St.start w) h (by omega) (by omega) λ a' c' w' s'=>⟨a',c',rfl,s'.first⟩
theorem BQ{w:World}{a:OA}{c:Nat}{l:List T3}(h:dx 3 T3.cells w a l)(hl:l.length<=1000) :
  CP 82 #[.slice a l.length c] w (λ r w'=>∃ a' c',r=.slice a' l.length c'/\St w w' (cJ 174 3 T3.cells a' c' l)):=by
 refine rM ?_;unfold mB;exact o9 (c:=c) (K:=λ r w'=>∃ a' c',r=.slice a' l.length c'/\St w w' (cJ 174 3 T3.cells a' c' l)) XP T3.len T3.one (St.start w) h (by omega) (by omega) λ a' c' w' s'=>⟨a',c',rfl,s'.first⟩
theorem BO{w:World}{a:OA}{c:Nat}{l:List T3}(h:dx 3 T3.cells w a l)(hl:l.length<=1000) :
  CP 83 #[.slice a l.length c] w (λ r w'=>∃ a' c',r=.slice a' l.length c'/\St w w' (cJ 177 3 T3.cells a' c' l)):=by
 refine oO ?_;unfold jX;exact o9 (c:=c) (K:=λ r w'=>∃ a' c',r=.slice a' l.length c'/\St w w' (cJ 177 3 T3.cells a' c' l)) XM T3.len T3.one (St.start w) h (by omega) (by omega) λ a' c' w' s'=>⟨a',c',rfl,s'.first⟩
def Se.er(s:Se):Se:={ s with a1:=none,c1:=0,a2:=none,c2:=0,a3:=none,c3:=0,a4:=none,c4:=0 }
structure Se.Sz (s:Se):Prop where
 ps:s.ps.length<=100
 bd:s.bd.length<=100
 cp:s.cp.length<=100
 sa:s.sa.length<=100
theorem Se.Ok.sz{s:Se}(h:s.Ok):s.Sz:=⟨by have:=h.ps.l2; omega,by have:=h.bd.l2; omega,by have:=h.cp.l1; omega,by have:=h.sa.l1; omega⟩
theorem zy{w:World}{S:Se}(h:S.In w)(hz:S.Sz) :
  CP 87 #[.agg S.arr] w (λ r w'=>∃ S' : Se,S'.er=S.er/\r=.agg S'.arr/\St w w' (held S'.In)):=by
 refine zC ?_;unfold wV;obtain⟨z1,z2,z3,z4⟩:=hz;refine(St.start w).one.aB S.arr λ r1 w1 s1=>s1.aB #[.slice none 0 0,.slice none 0 0,.slice none 0 0,.slice none 0 0] λ r2 w2 s2=>?_;have s3:=s2.quiet (aD.drew w2 []);refine⟨_,_,_,s3.ag 1 rfl 0,_,_,_,s3.ag 1 rfl 1,_,_,_,s3.ag 1 rfl 2,_,_,_,s3.ag 1 rfl 3,aq (BR (h.aC s3.aC).ps.fl (by omega)) ?_⟩;rintro v w3 ⟨a1,c1,rfl,k1⟩;have s4:St w w3 (Sep [_,_,_,_]):=s3.and k1;refine⟨_,_,_,rfl,s4.ag 2 rfl 3,s4.ag 2 rfl 2,s4.ag 2 rfl 1,aq (BP (h.aC s4.aC).bd.fl (by omega)) ?_⟩;rintro v w4 ⟨a2,c2,rfl,k2⟩;have s5:St w w4 (Sep [_,_,_,_,_]):=s4.and k2;refine⟨_,_,_,rfl,s5.ag 3 rfl 3,s5.ag 3 rfl 2,aq (BQ (h.aC s5.aC).cp.fl (by omega)) ?_⟩;rintro v w5 ⟨a3,c3,rfl,k3⟩;have s6:St w w5 (Sep [_,_,_,_,_,_]):=s5.and k3;refine⟨_,_,_,rfl,s6.ag 4 rfl 3,aq (BO (h.aC s6.aC).sa.fl (by omega)) ?_⟩;rintro v w6 ⟨a4,c4,rfl,k4⟩;have s7:St w w6 (Sep [_,_,_,_,_,_,_]):=s6.and k4;let S' : Se:={ S with a1:=a1,c1:=c1,a2:=a2,c2:=c2,a3:=a3,c3:=c3,a4:=a4,c4:=c4 };refine⟨_,_,_,rfl,s7.aE 4 rfl S'.arr.toList rfl (by simp[S',Se.arr,Value.oneCell']) λ w7 s8=>⟨_,_,_,_,_,_,_,_,_,_,_,_,s8.cellsIn 4 rfl,S',rfl,rfl,?_⟩⟩;have q4:=St.qg (s8.out 0 rfl); have q3:=St.qg (s8.out 1 rfl); have q2:=St.qg (s8.out 2 rfl); have q1:=St.qg (s8.out 3 rfl);exact((s8.aA [0,1,2,3]).held ((bz T3.len).cons ((bz T3.len).cons ((bz Br.len).cons ((bz Pr.len).cons jk.nil))))).weak (lX λ w' ⟨i4,i3,i2,i1,_⟩=>⟨fy.of i1 h.ps.in,lD.of i2 h.bd.in,ES.of i3,ES.of i4,q1.1,q2.1,q3.1,q4.1⟩)
abbrev bl (b:Bool):List Value:=[.bool b]
theorem jE(b:Bool):(bl b).length=1:=rfl
theorem Uu(b:Bool):∀ v∈bl b,v.oneCell' = true:=by intro v hv; simp at hv; subst hv; rfl
structure Rn where
 p:I6
 ask:List I6
 got:List I6
 bd:List Bool
 xa:Option Addr
 xc:Nat
 ga:Option Addr
 gc:Nat
 ba:Option Addr
 bc:Nat
def Rn.cells(x:Rn):List Value:=x.p.on [.slice x.xa x.ask.length x.xc,.slice x.ga x.got.length x.gc,.slice x.ba x.bd.length x.bc]
theorem Rn.len(x:Rn):x.cells.length=9:=rfl
theorem Rn.one(x:Rn):∀ v∈x.cells,v.oneCell' = true:=by
 intro v hv; simp[Rn.cells,I6.on] at hv; rcases hv with rfl|rfl|rfl|rfl|rfl|rfl|rfl|rfl|rfl<;>rfl
def Rn.er(x:Rn):Rn:={ x with xa:=none,xc:=0,ga:=none,gc:=0,ba:=none,bc:=0 }
def WB:Rn:=⟨z6,[],[],[],none,0,none,0,none,0⟩
structure Rn.In (x:Rn) (w:World):Prop where
 ask:dx 6 I6.vs w x.xa x.ask
 got:dx 6 I6.vs w x.ga x.got
 bd:dx 1 bl w x.ba x.bd
theorem Rn.In.aC{x:Rn}{w w' : World}(h:x.In w)(hc:aD w w' []):x.In w':=⟨h.ask.aC hc,h.got.aC hc,h.bd.aC hc⟩
structure Rn.Sz (n:Nat) (x:Rn):Prop where
 ask:x.ask.length=n
 got:x.got.length=n
 bd:x.bd.length=n
theorem IF:fZ prog 155 4 (.bool false) 1 1:=fZ.mk' underlying155 (by kernel_rfl) rfl (by decide)
theorem Wd:fZ prog 152 157 (.agg WB.cells.toArray) 9 120:=fZ.mk' underlying152 (by kernel_rfl) rfl (by decide)
abbrev LS (a:OA) (c:Nat) (l:List Bool):aJ:=cJ 4 1 bl a c l
abbrev LR (a:OA) (c:Nat) (l:List Rn):aJ:=cJ 157 9 Rn.cells a c l
theorem lT{w:World}{a:OA}{c:Nat}{l:List I6}(h:dx 6 I6.vs w a l)(hl:l.length<=1000) :
  CP 88 #[.slice a l.length c] w (λ r w'=>∃ g,r=.slice (some ⟨g,0,none⟩) l.length l.length/\St w w' (CE (some ⟨g,0,none⟩) l.length l)):=by
 refine mR ?_;unfold iZ;exact vO (c:=c) (x0:=z6) (K:=λ r w'=>∃ g,r=.slice (some ⟨g,0,none⟩) l.length l.length/\St w w' (CE (some ⟨g,0,none⟩) l.length l)) SC dh I6.one rfl (St.start w) h (by omega) (by omega) λ g w' s'=>⟨g,rfl,s'.first⟩
theorem vP{w:World}{a:OA}{c:Nat}{l:List Bool}(h:dx 1 bl w a l)(hl:l.length<=1000) :
  CP 89 #[.slice a l.length c] w (λ r w'=>∃ g,r=.slice (some ⟨g,0,none⟩) l.length l.length/\St w w' (LS (some ⟨g,0,none⟩) l.length l)):=by
 refine o8 ?_;unfold kC;exact vO (c:=c) (x0:=false) (K:=λ r w'=>∃ g,r=.slice (some ⟨g,0,none⟩) l.length l.length/\St w w' (LS (some ⟨g,0,none⟩) l.length l)) IF jE Uu rfl (St.start w) h (by omega) (by omega) λ g w' s'=>⟨g,rfl,s'.first⟩
theorem KQ{w:World}{a:OA}{c:Nat}{l:List Rn}(h:dx 9 Rn.cells w a l)(hl:l.length<=1000) :
  CP 156 #[.slice a l.length c] w (λ r w'=>∃ g,r=.slice (some ⟨g,0,none⟩) l.length l.length/\St w w' (LR (some ⟨g,0,none⟩) l.length l)):=by
 refine oD ?_;unfold jH;exact vO (c:=c) (x0:=WB) (K:=λ r w'=>∃ g,r=.slice (some ⟨g,0,none⟩) l.length l.length/\St w w' (LR (some ⟨g,0,none⟩) l.length l)) Wd Rn.len Rn.one rfl (St.start w) h (by omega) (by omega) λ g w' s'=>⟨g,rfl,s'.first⟩
theorem LF{w:World}{x:Rn}{n:Nat}(h:x.In w)(hz:x.Sz n)(hn:n<=1000) :
  CP 115 #[.agg x.cells.toArray] w (λ r w'=>∃ x' : Rn,x'.er=x.er/\r=.agg x'.cells.toArray/\St w w' (held x'.In)):=by
 refine oC ?_;unfold jG;have z1:=hz.ask; have z2:=hz.got; have z3:=hz.bd;refine(St.start w).one.aB x.cells.toArray λ r1 w1 s1=>s1.aB WB.cells.toArray λ r2 w2 s2=>?_;have s3:=s2.quiet (aD.drew w2 []);refine⟨_,_,_,s3.ag 1 rfl 6,_,_,_,s3.ag 1 rfl 7,_,_,_,s3.ag 1 rfl 8,aq (lT (h.aC s3.aC).ask (by omega)) ?_⟩;rintro v w3 ⟨a1,rfl,k1⟩;have s4:St w w3 (Sep [_,_,_,_]):=s3.and k1;refine⟨_,_,_,rfl,s4.ag 2 rfl 8,s4.ag 2 rfl 7,aq (lT (h.aC s4.aC).got (by omega)) ?_⟩;rintro v w4 ⟨a2,rfl,k2⟩;have s5:St w w4 (Sep [_,_,_,_,_]):=s4.and k2;refine⟨_,_,_,rfl,s5.ag 3 rfl 8,aq (vP (h.aC s5.aC).bd (by omega)) ?_⟩;rintro v w5 ⟨a3,rfl,k3⟩;have s6:St w w5 (Sep [_,_,_,_,_,_]):=s5.and k3;let x' : Rn:={ x with xa:=some ⟨a1,0,none⟩,xc:=x.ask.length,ga:=some ⟨a2,0,none⟩,gc:=x.got.length,ba:=some ⟨a3,0,none⟩,bc:=x.bd.length };refine⟨_,_,_,rfl,s6.aM 4 rfl (j:=6) (show 6<9 by decide) rfl λ w6 s7=>s7.aM 4 rfl (j:=7) (show 7<9 by decide) rfl λ w7 s8=>s8.aM 4 rfl (j:=8) (show 8<9 by decide) rfl λ w8 s9=>?_⟩;refine⟨x.p,_,_,_,_,_,_,_,_,_,s9.cellsIn 4 rfl,s9.aE 3 rfl x'.cells rfl x'.one λ w9 s10=>⟨x.p,_,_,_,_,_,_,_,_,_,s10.cellsIn 3 rfl,x',rfl,rfl,?_⟩⟩;exact((s10.aA [0,1,2]).held ((bz jE).cons ((bz dh).cons ((bz dh).cons jk.nil)))).weak (lX λ w' ⟨i3,i2,i1,_⟩=>⟨i1,i2,i3⟩)
theorem QE{l l' : List Rn}{k:Nat}{x x' : Rn}(h:l'.map Rn.er=(l.take k).map Rn.er)(hx:l[k]?=some x)(e:x'.er=x.er):(l'++[x']).map Rn.er=(l.take (k+1)).map Rn.er:=by
 rw[aO hx,List.map_append,List.map_append,h,List.map_singleton,List.map_singleton,e]
abbrev nQ (l:List Rn) (w:World):Prop:=∀ x∈l,x.In w
theorem UH{w:World}{a:OA}{c:Nat}{l:List Rn}{n:Nat}(h:dx 9 Rn.cells w a l)(hi:nQ l w)(hz:∀ x∈l,x.Sz n)(hn:n<=1000)(hl:l.length<=1000) :
  CP 114 #[.slice a l.length c,.func (.func 115) #[] #[]] w (λ r w'=>∃ l' a' c',l'.map Rn.er=l.map Rn.er/\r=.slice a' l'.length c'/\St w w' (star (LR a' c' l') (held (nQ l')))):=by
 refine rD ?_;unfold lP;refine⟨λ a2 l2 c2 n1 w1 m=>∃ (k:Nat) (l' : List Rn),n1=k/\k<=l.length/\m=l.length-k/\l2=l'.length/\l'.length=k/\l'.map Rn.er=(l.take k).map Rn.er/\St w w1 (Sep [LR a2 c2 l',held (nQ l'),emp]),⟨l.length,0,[],rfl,by omega,by omega,rfl,rfl,rfl,((St.start w).one.sg (λ _=>by simp[nQ])).dW⟩,?_⟩
 rintro w1 m a2 l2 c2 n1 ⟨k,l',rfl,hk,hm,rfl,hlen,he,s1⟩ -
 by_cases hlt:(k:Int)<(l.length:Int)
 ·have hx:l[k]?=some (l[k]'(by omega)):=gE (by omega);generalize l[k]'(by omega)=x at hx;have hm:=List.mem_of_getElem? hx;obtain⟨q,hq,hcl⟩:=(h.aC s1.aC).at hx;refine cT (dT hlt) (ay hq ⟨by omega,by omega,x.p,_,_,_,_,_,_,_,_,_,hcl,s1.aB WB.cells.toArray λ r1 w2 s2=>s2.aE 0 rfl x.cells rfl x.one λ w3 s3=>⟨x.p,_,_,_,_,_,_,_,_,_,s3.cellsIn 0 rfl,?_⟩⟩);refine bO (by kernel_rfl) (aq (LF ((hi x hm).aC s3.aC) (hz x hm) hn) ?_);rintro v w4 ⟨x',ex,rfl,k4⟩;have s4:St w w4 (Sep [held x'.In,_,LR a2 c2 l',held (nQ l'),emp]):=s3.and k4;refine⟨x'.p,_,_,_,_,_,_,_,_,_,rfl,cW Wd Rn.len (x:=x') x'.one (s4.out 2 rfl) (by omega) (by omega) (λ a' c' w' s5=>?_) rfl⟩;refine⟨l.length-(k+1),by omega,k+1,l'++[x'],aH ⟨by omega,by omega⟩,by omega,rfl,rfl,by simp[hlen],QE he hx ex,?_⟩;have s6:St w w' (Sep [_,_,_,_,_]):=s5;exact(((s6.aA [3,1,0,4]).pK (bu _) (bu _) λ w'' h1 h2 y hy=>(List.mem_append.1 hy).elim (h1 y) λ e=>by rw[List.mem_singleton.1 e]; exact h2).aA [1,0,2])
 ·obtain rfl:l.length=k:=by omega
  rw[List.take_length] at he;exact cF (dF hlt) ⟨l',_,_,he,rfl,s1.aA [0,1] |>.pair⟩
structure Ck where
 s:Se
 o:Po
 cl:List Rn
 p:I6
 ask:List I6
 bd:List Bool
 dp:List Bool
 ov:Bool
 ka:Option Addr
 kc:Nat
 xa:Option Addr
 xc:Nat
 ya:Option Addr
 yc:Nat
 za:Option Addr
 zc:Nat
def Ck.cells(C:Ck):List Value:=(.slice C.s.a1 C.s.ps.length C.s.c1) :: ((.slice C.s.a2 C.s.bd.length C.s.c2) :: ((.slice C.s.a3 C.s.cp.length C.s.c3) :: ((.slice C.s.a4 C.s.sa.length C.s.c4) :: ((iv C.o.step) :: ((iv C.o.pct) :: ((iv C.o.und) :: ((iv C.o.rule) :: ((.slice C.ka C.cl.length C.kc) :: (C.p.on [.slice C.xa C.ask.length C.xc,.slice C.ya C.bd.length C.yc,.slice C.za C.dp.length C.zc,.bool C.ov])))))))))
theorem Ck.one(C:Ck):∀ v∈C.cells,v.oneCell' = true:=by
 intro v hv; simp[Ck.cells,I6.on] at hv;rcases hv with rfl|rfl|rfl|rfl|rfl|rfl|rfl|rfl|rfl|rfl|rfl|rfl|rfl|rfl|rfl|rfl|rfl|rfl|rfl<;>rfl
def Ck.er(C:Ck):Ck:={ C with s:=C.s.er,cl:=C.cl.map Rn.er,ka:=none,kc:=0,xa:=none,xc:=0,ya:=none,yc:=0,za:=none,zc:=0 }
structure Ui (S:Se) (cl:List Rn) (w:World):Prop where
 s:S.In w
 cl:nQ cl w
abbrev Ck.In (C:Ck):World->Prop:=Ui C.s C.cl
theorem Ui.aC{S:Se}{cl:List Rn}{w w' : World}(h:Ui S cl w)(hc:aD w w' []):Ui S cl w':=⟨h.s.aC hc,λ x hx=>(h.cl x hx).aC hc⟩
structure Ck.Rd (b:Nat) (C:Ck) (w:World):Prop where
 me:af w ⟨b,0,none⟩ 0 C.cells
 ask:dx 6 I6.vs w C.xa C.ask
 bd:dx 1 bl w C.ya C.bd
 dp:dx 1 bl w C.za C.dp
 cl:dx 9 Rn.cells w C.ka C.cl
 i:C.In w
theorem Ck.Rd.aC{b:Nat}{C:Ck}{w w' : World}(h:C.Rd b w)(hc:aD w w' []):C.Rd b w':=⟨bP hc h.me,h.ask.aC hc,h.bd.aC hc,h.dp.aC hc,h.cl.aC hc,h.i.aC hc⟩
def fO(b:Nat)(C:Ck):List aJ:=[ah b C.cells.toArray 179,CE C.xa C.xc C.ask,LS C.ya C.yc C.bd,LS C.za C.zc C.dp,LR C.ka C.kc C.cl,held C.In]
theorem Qd{r:Nat}{cs:Array Value}{T:TypeId}:jk (ah r cs T) λ w=>af w ⟨r,0,none⟩ 0 cs.toList:=λ w F h=>by
 have s:St w w (Sep []):=St.start w;obtain⟨h1,rfl⟩:=h;refine bH _ 0 λ j v hj=>?_;rw[gY,Nat.zero_add];simp only[World.cell?,h1];simpa using hj
theorem zB{b:Nat}{C:Ck}:jk (Sep (fO b C)) (C.Rd b) :=
 jk.mono (Qd.cons ((bz dh).cons ((bz jE).cons ((bz jE).cons ((bz Rn.len).cons ((bu _).cons jk.nil)))))) λ _ ⟨h1,h2,h3,h4,h5,h6,_⟩=>⟨h1,h2,h3,h4,h5,h6⟩
structure Ck.Ok (C:Ck):Prop where
 s:C.s.Ok
 o:C.o.ok
 cl:C.cl.length<=30
 cz:∀ x∈C.cl,x.Sz C.s.bd.length
 cp:∀ x∈C.cl,oM x.p=true
 ca:∀ x∈C.cl,∀ u∈x.ask,I6.Le u 4
 cg:∀ x∈C.cl,∀ u∈x.got,I6.Le u 4
 p:oM C.p=true
 ask:C.ask.length=C.s.bd.length
 bd:C.bd.length=C.s.bd.length
 dp:C.dp.length=C.s.bd.length
 asked:∀ u∈C.ask,I6.Le u 4
section
variable {b:Nat} {C:Ck} {w:World}
theorem Ck.Rd.cell(h:C.Rd b w)(j:Nat){v:Value}(e:C.cells[j]?=some v):w.cell? ⟨b,j,none⟩=some v:=by
 have:=bf h.me j v e
 rwa [Nat.zero_add,gY] at this
theorem Ck.Rd.aQ(h:C.Rd b w)(j:Nat){vs:List Value}(hv:(C.cells.drop j).take vs.length=vs):af w ⟨b,j,none⟩ 0 vs :=
 bH _ 0 λ k v hk=>by
  have hl:k<vs.length:=(List.getElem?_eq_some_iff.1 hk).1;have ha:(⟨b,j,none⟩:Addr).add (0+k)=⟨b,j+k,none⟩:=by unfold Addr.add; split<;>simp_all
  have h2:((C.cells.drop j).take vs.length)[k]?=vs[k]?:=by rw[hv]
  rw[List.getElem?_take,if_pos hl,List.getElem?_drop,hk] at h2;rw[ha]; exact h.cell _ h2
theorem HS(h:C.Rd b w)(n:Int):CP 143 #[.pointer (some ⟨b,0,none⟩),iv n] w (λ r w'=>r=.bool (decide (0<=n)&&decide (n<(C.dp.length:Int)))/\w' = w):=by
 refine sU ?_;unfold nU
 by_cases g:n>=0
 ·exact cT (dT g) ⟨_,_,_,h.cell 17 rfl,by rw[dT g]; rfl,rfl⟩
 ·exact cF (dF g) ⟨by rw[dF (by omega)]; rfl,rfl⟩
theorem B9(h:C.Rd b w)(hk:C.Ok):CP 73 #[.pointer (some ⟨b,0,none⟩)] w (λ r w'=>∃ l' a' c',l'.map Rn.er=C.cl.map Rn.er/\r=.slice a' l'.length c'/\St w w' (star (LR a' c' l') (held (nQ l')))):=by
 refine oB ?_;unfold jF;refine⟨_,_,_,h.cell 8 rfl,aq (UH h.cl h.i.cl hk.cz (by have:=hk.s.bd.l2; omega) (by have:=hk.cl; omega)) ?_⟩;rintro v w1 ⟨l',a',c',e,rfl,s⟩;exact⟨_,_,_,rfl,l',a',c',e,rfl,s⟩
def Bg(C:Ck)(n:Nat):List Ch:=C.cl.map λ x=>⟨x.p,x.ask.getD n z6⟩
theorem BM(h:C.Rd b w)(hk:C.Ok){n:Nat}(hn:n<C.s.bd.length):CP 147 #[.pointer (some ⟨b,0,none⟩),iv n] w (λ r w'=>∃ a' c',r=.slice a' (Bg C n).length c'/\St w w' (cJ 235 12 Ch.cells a' c' (Bg C n))):=by
 refine mQ ?_;unfold iY;have hd:=hk.dp; have hl:=hk.cl;refine⟨λ b w1=>b=false/\w1=w,?_,aq (HS h n) ?_⟩
 ·rintro w1 b ⟨rfl,rfl⟩ -;refine cF rfl ⟨_,_,_,h.cell 8 rfl,λ a2 l2 c2 n2 w2 m=>∃ k:Nat,n2=k/\k<=C.cl.length/\m=C.cl.length-k/\l2=((Bg C n).take k).length/\St w1 w2 (star (cJ 235 12 Ch.cells a2 c2 ((Bg C n).take k)) emp),⟨C.cl.length,0,rfl,by omega,by omega,rfl,(St.start w1).dW⟩,?_⟩;rintro w2 m a2 l2 c2 n2 ⟨k,rfl,hk1,hm,rfl,s2⟩ -
  by_cases hlt:(k:Int)<(C.cl.length:Int)
  ·have hx:C.cl[k]?=some (C.cl[k]'(by omega)):=gE (by omega);generalize C.cl[k]'(by omega)=x at hx;have hm:=List.mem_of_getElem? hx;have za:=(hk.cz x hm).ask;obtain⟨q,hq,hcl⟩:=(h.cl.aC s2.aC).at hx;refine cT (dT hlt) (ay hq ⟨by omega,by omega,x.p,_,_,_,_,_,_,_,_,_,hcl,s2.aB (l:=[_]) WB.cells.toArray λ r1 w3 s3=>s3.aE 0 rfl x.cells rfl x.one λ w4 s4=>?_⟩);have s5:=s4.quiet (aD.drew w4 []);have hu:x.ask[n]?=some (x.ask.getD n z6):=by rw[List.getD_eq_getElem?_getD,gE (by omega)]; rfl
   obtain⟨q2,hq2,hcl2⟩:=((h.i.cl x hm).aC s5.aC).ask.at hu;refine⟨x.p,s5.aQ 0 0 rfl rfl,_,_,_,s5.ag 0 rfl 6,ay hq2 ⟨by omega,by omega,_,hcl2,?_⟩⟩;have hch:(Bg C n)[k]?=some ⟨x.p,x.ask.getD n z6⟩:=by simp[Bg,hx]
   have hlen:((Bg C n).take k).length=k:=by simp[Bg]; omega
   refine cW XO Ch.len (x:=⟨x.p,x.ask.getD n z6⟩) (Ch.one _) (s5.out 1 rfl) (by omega) (by omega) (λ a' c' w5 s6=>?_) rfl;refine⟨C.cl.length-(k+1),by omega,k+1,aH ⟨by omega,by omega⟩,by omega,rfl,?_,?_⟩
   ·rw[aO hch]
   ·rw[aO hch]; exact s6.first.one
  ·obtain rfl:C.cl.length=k:=by omega
   rw[List.take_of_length_le (by simp[Bg])] at s2 ⊢;exact cF (dF hlt) ⟨_,_,rfl,s2.first⟩
 ·rintro r w1 ⟨rfl,rfl⟩;exact⟨_,rfl,by simp; omega,rfl⟩
end
section
variable {b:Nat} {C:Ck} {w:World}
theorem Hy(h:C.Rd b w)(hk:C.Ok):CP 52 #[.pointer (some ⟨b,0,none⟩)] w (λ r w'=>∃ g C',C'.er=C.er/\r=.pointer (some ⟨g,0,none⟩)/\St w w' (Sep (fO g C'))):=by
 refine rA ?_;unfold lK;have z:=hk.s.bd.l2; have z1:=hk.ask; have z2:=hk.bd; have z3:=hk.dp;refine⟨_,_,_,_,_,_,_,_,_,_,_,_,_,_,_,_,_,_,_,C.p,_,_,_,_,_,_,_,_,_,_,h.me,(St.start w).one.aB ⟨[.slice none 0 0,.slice none 0 0,.slice none 0 0,.slice none 0 0,iv 0,iv 0,iv 0,iv 0,.slice none 0 0,iv 0,iv 0,iv 0,iv 0,iv 0,iv 0,.slice none 0 0,.slice none 0 0,.slice none 0 0,.bool false]⟩ λ r1 w1 s1=>s1.aE 0 rfl C.cells rfl C.one λ w2 s2=>?_⟩;refine⟨_,_,_,_,_,_,_,_,_,_,_,_,(h.aC s2.aC).aQ 0 rfl,aq (zy (h.aC s2.aC).i.s hk.s.sz) ?_⟩;rintro v w3 ⟨S',eS,rfl,k3⟩;have s3:St w w3 (Sep [_,_,_]):=s2.and k3;refine⟨_,_,_,_,_,_,_,_,_,_,_,_,rfl,aq (B9 (h.aC s3.aC) hk) ?_⟩;rintro v w4 ⟨l',a4,c4,e4,rfl,k4⟩;have s4:St w w4 (Sep [_,_,_,_,_]):=(s3.and k4).assoc;refine⟨_,_,_,rfl,s4.qj 3 0 rfl ({ C with s:=S' }:Ck).cells.toArray (show 4<=19 by decide) (by simp[Value.oneCell']) rfl λ w5 s5=>s5.aM 3 rfl (j:=8) (show 8<19 by decide) rfl λ w6 s6=>?_⟩;have s7:=s6.quiet (aD.drew w6 []);have h7:=h.aC s7.aC;refine⟨_,_,_,h7.cell 15 rfl,_,_,_,h7.cell 16 rfl,_,_,_,h7.cell 17 rfl,aq (lT h7.ask (by omega)) ?_⟩;rintro v w8 ⟨g1,rfl,k8⟩;have s8:St w w8 (Sep [_,_,_,_,_,_]):=s7.and k8;have h8:=h.aC s8.aC;refine⟨_,_,_,rfl,h8.cell 17 rfl,h8.cell 16 rfl,aq (vP h8.bd (by omega)) ?_⟩;rintro v w9 ⟨g2,rfl,k9⟩;have s9:St w w9 (Sep [_,_,_,_,_,_,_]):=s8.and k9;have h9:=h.aC s9.aC;refine⟨_,_,_,rfl,h9.cell 17 rfl,aq (vP h9.dp (by omega)) ?_⟩;rintro v w10 ⟨g3,rfl,k10⟩;have s10:St w w10 (Sep [_,_,_,_,_,_,_,_]):=s9.and k10;refine⟨_,_,_,rfl,s10.aM 6 rfl (j:=15) (show 15<19 by decide) rfl λ w11 s11=>s11.aM 6 rfl (j:=16) (show 16<19 by decide) rfl λ w12 s12=>s12.aM 6 rfl (j:=17) (show 17<19 by decide) rfl λ w13 s13=>?_⟩;let C' : Ck:={ C with s:=S',cl:=l',ka:=a4,kc:=c4,xa:=some ⟨g1,0,none⟩,xc:=C.ask.length,ya:=some ⟨g2,0,none⟩,yc:=C.bd.length,za:=some ⟨g3,0,none⟩,zc:=C.dp.length };refine⟨r1,C',?_,rfl,?_⟩
 ·simp only[Ck.er,C',eS,e4]
 ·have s14:St w w13 (Sep [LS (some ⟨g3,0,none⟩) C.dp.length C.dp,LS (some ⟨g2,0,none⟩) C.bd.length C.bd,CE (some ⟨g1,0,none⟩) C.ask.length C.ask,LR a4 c4 l',held (nQ l'),held S'.In,ah r1 C'.cells.toArray 179,emp]):=s13;exact((s14.aA [5,4,6,2,1,0,3]).pK (bu _) (bu _) λ _ h1 h2=>(⟨h1,h2⟩:C'.In _)).aA [1,2,3,4,5,0]
end
