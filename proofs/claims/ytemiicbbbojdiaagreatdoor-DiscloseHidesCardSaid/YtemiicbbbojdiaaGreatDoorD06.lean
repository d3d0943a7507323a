import Derived.Test.YtemiicbbbojdiaaGreatDoorD05
set_option linter.unusedVariables false
set_option maxRecDepth 100000
namespace Go.Proofs.YtemiicbbbojdiaaGreatDoor
open Go Go.Vc _root_.Go.Proofs.Tryz
inductive Xv where
 | mk (op:Int) (u:I6) (v:Int) (a:OA) (c:Nat) (args:List Xv)
def Xv.op:Xv->Int|.mk op _ _ _ _ _=>op
def Xv.u:Xv->I6|.mk _ u _ _ _ _=>u
def Xv.v:Xv->Int|.mk _ _ v _ _ _=>v
def Xv.a:Xv->Option Addr|.mk _ _ _ a _ _=>a
def Xv.c:Xv->Nat|.mk _ _ _ _ c _=>c
def Xv.args:Xv->List Xv|.mk _ _ _ _ _ l=>l
def Xv.cells(x:Xv):List Value:=iv x.op :: x.u.on [iv x.v,.slice x.a x.args.length x.c]
theorem Xv.len(x:Xv):x.cells.length=9:=rfl
theorem Xv.one(x:Xv):∀ v∈x.cells,v.oneCell' = true:=by
 intro v hv; simp[Xv.cells,I6.on] at hv; rcases hv with rfl|rfl|rfl|rfl|rfl|rfl|rfl|rfl|rfl<;>rfl
def Xv.er:Xv->Xv
 | .mk op u v _ _ args=>.mk op u v none 0 (args.map Xv.er)
theorem Xv.sY(x:Xv):x.er=.mk x.op x.u x.v none 0 (x.args.map Xv.er):=by cases x; rw[Xv.er]; rfl
inductive Xv.In (w:World):Xv->Prop where
 | mk {x:Xv} (h:bG 9 Xv.cells w x.a x.args) (k:∀ y∈x.args,Xv.In w y):Xv.In w x
theorem Xv.In.fl{w:World}{x:Xv}(h:x.In w):bG 9 Xv.cells w x.a x.args:=by cases h; assumption
theorem Xv.In.sub{w:World}{x:Xv}(h:x.In w):∀ y∈x.args,y.In w:=by cases h; assumption
theorem Xv.In.aA{w w' : World}{x:Xv}(h:x.In w)(hc:Chg w w' []):x.In w':=by
 induction h with
 | mk h k ih=>exact .mk (h.aA hc) ih
def eH:Xv:=.mk 0 z6 0 none 0 []
theorem IU:eH.er=eH:=by rw[eH,Xv.er]; rfl
theorem Ya:iz prog 79 81 (.agg eH.cells.toArray) 9 88:=iz.mk' underlying79 (by kernel_rfl) rfl (by decide)
abbrev Yo (a:OA) (c:Nat) (l:List Xv):aG:=cH 81 9 Xv.cells a c l
abbrev Pc (l:List Xv) (w:World):Prop:=∀ x∈l,x.In w
def iC(g:Sc->Xv×Sc)(σ:Sc):Xv×Sc:=if σ.2≠0 then (eH,σ) else g σ
def iD(g:Sc->Xv×Sc):Nat->List Xv->Sc->List Xv×Sc
 | 0,acc,σ=>(acc,σ)
 | n+1,acc,σ=>if oO [44] σ.1 σ.2 then iD g n (acc++[(iC g (σ.acc [44])).1]) (iC g (σ.acc [44])).2 else (acc,σ)
def cr(t:Tk):Int:=if t.k=1 then NO t.t else 1
def yW(σ:Sc):Sc:=if cr (aS σ.1 σ.2)=0 then σ.fail 2 else σ
def ME(ps:List Pr)(g:Sc->Xv×Sc)(op:Int)(a1:Xv)(σ:Sc):Xv×Sc :=
 if op=2\/op=3 then (.mk op z6 0 none 0 (iD g σ.1.length [a1] σ).1,(iD g σ.1.length [a1] σ).2.exp [41])
 else if op=4 then (.mk op (bf ps (σ.exp [44])).1.1 (bf ps (σ.exp [44])).1.2 none 0 [a1],(bf ps (σ.exp [44])).2.exp [41])
 else if op=5 then (.mk op z6 (wE 1000000 (σ.exp [44]).1 (σ.exp [44]).2) none 0 [a1],((σ.exp [44]).sO 1000000).exp [41])
 else (.mk op z6 0 none 0 [a1],σ.exp [41])
def BR(σ:Sc):Sc:=(yW σ).next.exp [40]
def iq(ps:List Pr):Nat->Sc->Xv×Sc
 | 0,σ=>(eH,σ)
 | f+1,σ =>
  if cr (aS σ.1 σ.2)=1 then (.mk 1 (bf ps (yW σ)).1.1 (bf ps (yW σ)).1.2 none 0 [],(bf ps (yW σ)).2)
  else ME ps (iq ps f) (cr (aS σ.1 σ.2)) (iC (iq ps f) (BR σ)).1 (iC (iq ps f) (BR σ)).2
theorem wR(m:List UInt8)(σ:Sc):(σ.exp m).1.length<=σ.1.length:=dz _ _ _
theorem GP(ps:List Pr):∀ (f:Nat) (b:I6) (σ:Sc),(vS ps f b σ).2.1.length<=σ.1.length
 | 0,_,_=>Nat.le_refl _
 | f+1,b,σ=>by
  rw[vS]
  split
  ·exact Nat.le_trans (GP ps f _ _) (Nat.le_trans (DR _ _ _) (dz _ _ _))
  ·exact Nat.le_refl _
theorem RC(ps:List Pr)(σ:Sc):(lA ps σ).2.1.length<=σ.1.length:=by
 unfold lA
 split
 ·exact Nat.le_refl _
 ·split
  ·exact Nat.le_trans (dz _ _ _) (dz _ _ _)
  ·have h1:(GM ps (σ.exp [123])).2.1.length<=(vS ps (gQ ps z6 (σ.exp [123])).2.1.length (gQ ps z6 (σ.exp [123])).1 (gQ ps z6 (σ.exp [123])).2).2.1.length:=by
    unfold GM GN
    split
    ·exact dz _ _ _
    ·exact dz _ _ _
   exact Nat.le_trans h1 (Nat.le_trans (GP ps _ _ _) (Nat.le_trans (DR _ _ _) (dz _ _ _)))
theorem UQ(σ:Sc):(Rh σ).1.length<=σ.1.length:=by unfold Rh; split; exact Nat.le_refl _; split; exact Nat.le_refl _; exact Nat.le_refl _
theorem rJ(ps:List Pr)(σ:Sc):(bf ps σ).2.1.length<=σ.1.length :=
 Nat.le_trans (z7 _ _ _) (Nat.le_trans (dz _ _ _) (Nat.le_trans (RC _ _) (UQ _)))
theorem HD(σ:Sc):(yW σ).1.length<=σ.1.length:=by unfold yW; split; exact Nat.le_refl _; exact Nat.le_refl _
theorem HE(σ:Sc):(BR σ).1.length<=σ.1.length:=Nat.le_trans (dz _ _ _) (Nat.le_trans (zL _ _) (HD σ))
section
variable {g:Sc->Xv×Sc} (hg:∀ σ,(g σ).2.1.length<=σ.1.length)
include hg
theorem zA(σ:Sc):(iC g σ).2.1.length<=σ.1.length:=by unfold iC; split; exact Nat.le_refl _; exact hg _
theorem Ff:∀ (n:Nat) (acc:List Xv) (σ:Sc),(iD g n acc σ).2.1.length<=σ.1.length
 | 0,_,_=>Nat.le_refl _
 | n+1,acc,σ=>by
  rw[iD]
  split
  ·exact Nat.le_trans (Ff n _ _) (Nat.le_trans (zA hg _) (dz _ _ _))
  ·exact Nat.le_refl _
theorem TY(ps:List Pr)(op:Int)(a1:Xv)(σ:Sc):(ME ps g op a1 σ).2.1.length<=σ.1.length:=by
 unfold ME
 split
 ·exact Nat.le_trans (dz _ _ _) (Ff hg _ _ _)
 ·split
  ·exact Nat.le_trans (dz _ _ _) (Nat.le_trans (rJ _ _) (dz _ _ _))
  ·split
   ·exact Nat.le_trans (dz _ _ _) (Nat.le_trans (z7 _ _ _) (dz _ _ _))
   ·exact dz _ _ _
end
theorem DU(ps:List Pr):∀ (f:Nat) (σ:Sc),(iq ps f σ).2.1.length<=σ.1.length
 | 0,_=>Nat.le_refl _
 | f+1,σ=>by
  rw[iq]
  split
  ·exact Nat.le_trans (rJ _ _) (HD σ)
  ·exact Nat.le_trans (TY (DU ps f) _ _ _ _) (Nat.le_trans (zA (DU ps f) _) (HE σ))
theorem T6{m:List UInt8}{σ:Sc}(h:(σ.exp m).2=0):σ.2=0:=by
 unfold Sc.exp MH at h;simp only at h
 split at h
 ·exact h
 ·unfold uo oB at h
  split at h
  ·assumption
  ·exact h
theorem MB{σ:Sc}(h1:cr (aS σ.1 σ.2)≠1)(h:(BR σ).2=0):(BR σ).1.length<σ.1.length:=by
 have h2:(yW σ).2=0:=T6 (σ:=(yW σ).next) h;have h3:cr (aS σ.1 σ.2)≠0:=λ h0=>by
  unfold yW at h2;rw[if_pos h0] at h2;unfold Sc.fail oB at h2;simp only at h2
  split at h2
  ·cases h2
  ·rename_i hn; exact hn h2
 have e1:yW σ=σ:=by rw[yW,if_neg h3]
 have hk:(aS σ.1 σ.2).k=1:=by
  unfold cr at h1
  split at h1
  ·assumption
  ·exact absurd rfl h1
 rw[e1] at h2;have hlt:(gT σ.1 σ.2).length<σ.1.length:=by
  rw[gT,if_pos h2];rw[aS,if_pos h2] at hk
  cases hl:σ.1 with
  | nil=>rw[hl] at hk; cases hk
  | cons x l=>simp
 rw[BR,e1];exact Nat.lt_of_le_of_lt (dz _ _ _) hlt
end Go.Proofs.YtemiicbbbojdiaaGreatDoor
namespace Go.Vc
open Go
def J6(es:Array MapEntry)(ks:List Int):Prop:=es.toList.map (·.key)=ks.map iv/\∀ e∈es.toList,e.val=.bool true
def Bw(r:Nat)(ks:List Int):aG:=TV λ (x:{ p:Array MapEntry×Nat // J6 p.1 ks })=>bI r (.map x.1.1 x.1.2)
theorem p6(k:Int):∀ (es:List MapEntry) (ks:List Int) (i:Nat),es.map (·.key)=ks.map iv->(∀ e∈es,e.val=.bool true) ->
  (k∈ks/\∃ j,Instr.findNow (.int .i64) (iv k) es i=some (some (j,.bool true)))\/(k∉ks/\Instr.findNow (.int .i64) (iv k) es i=some none)
 | [],[],_,_,_=>.inr ⟨by simp,rfl⟩
 | e :: es,x :: ks,i,h,hv=>by
  simp only[List.map_cons,List.cons.injEq] at h;have hs:Instr.sameNow (.int .i64) (iv k) e.key=some (k==x):=by rw[h.1]; simp[Instr.sameNow]
  by_cases hkx:k=x
  ·subst hkx;refine .inl ⟨by simp,i,?_⟩;have:=hv e (by simp);simp[Instr.findNow,hs,this]
  ·have hb:(k==x)=false:=by simpa using hkx
   rcases p6 k es ks (i+1) h.2 (λ e he=>hv e (by simp[he])) with⟨h1,j,h2⟩|⟨h1,h2⟩
   ·exact .inl ⟨by simp[h1],j,by simp[Instr.findNow,hs,hb,h2]⟩
   ·exact .inr ⟨by simp[h1,hkx],by simp[Instr.findNow,hs,hb,h2]⟩
 | [],_ :: _,_,h,_=>by simp at h
 | _ :: _,[],_,h,_=>by simp at h
structure WU (P:Program) (t k e:TypeId) (z:Value):Prop where
 u:P.underlying t=some (.map k e)
 z:(P.info? e).bind (·.zero)=some z
section
variable {P:Program} {t kt et:TypeId} {w0 w:World} {B:aG} {r:Nat} {ks:List Int}
theorem nO(hk:P.underlying kt=some (.int .i64))(b:Bool)(n:Nat)(k:Int)(w:World):(Instr.checkKey b (n+1) kt (iv k)).run P w=.ok () w:=by
 simp[Instr.checkKey,aD hk]
theorem A3(hT:WU P t kt et (.bool false))(hk:P.underlying kt=some (.int .i64))(s:St w0 w (star (Bw r ks) B))(k:Int){R:Bool->World->Prop}(h:R (decide (k∈ks)) w) :
  bp P (Instr.lookup t (.map (some r)) (iv k) false) w λ e w'=>∃ b:Bool,e=.bool b/\R b w':=by
 obtain⟨⟨⟨es,cl⟩,h1,h2⟩,s'⟩:=s.ex;have ho:w.heap[r]?=some (.map es cl):=s'.obj;have hz:(zeroValue et).run P w=.ok (.bool false) w:=by
  have:=hT.z
  cases hi:P.info? et with
  | none=>simp[hi] at this
  | some i=>simp[hi] at this; simp[zeroValue,typeInfo,hi,this]
 have hc:=nO (P:=P) hk es.isEmpty 9999 k w;rcases p6 k es.toList ks 0 h1 h2 with⟨hm,j,hf⟩|⟨hm,hf⟩
 ·refine⟨.bool true,w,?_,true,rfl,by rwa [decide_eq_true hm] at h⟩;simp[Instr.lookup,aD hT.u,Instr.findKey,aD hk,hf,ho,hc,getObj,Sem.run]
 ·refine⟨.bool false,w,?_,false,rfl,by rwa [decide_eq_false hm] at h⟩;simp[Instr.lookup,aD hT.u,Instr.findKey,aD hk,hf,ho,hc,hz,getObj,Sem.run]
theorem CY(hT:WU P t kt et (.bool false))(hk:P.underlying kt=some (.int .i64))(s:St w0 w (star (Bw r ks) B))(k:Int)(hn:k∉ks){R:World->Prop}(h:∀ w',Chg w w' [r]->St w0 w' (star (Bw r (ks++[k])) B)->R w'):bp P (Instr.mapUpdate t (.map (some r)) (iv k) (.bool true)) w λ _ w'=>R w':=by
 obtain⟨⟨⟨es,cl⟩,h1,h2⟩,s'⟩:=s.ex;have ho:w.heap[r]?=some (.map es cl):=s'.obj;have hc:=nO (P:=P) hk false 9999 k w;rcases p6 k es.toList ks 0 h1 h2 with⟨hm,_⟩|⟨hm,hf⟩
 ·exact absurd hm hn
 ·have hs:=s'.put (.map (es.push { key:=iv k,val:=.bool true,born:=cl }) (cl+1));have hr:(Instr.mapUpdate t (.map (some r)) (iv k) (.bool true)).run P w=.ok () { w with heap:=w.heap.setIfInBounds r (.map (es.push { key:=iv k,val:=.bool true,born:=cl }) (cl+1)) }:=by
   simp[Instr.mapUpdate,aD hT.u,Instr.findKey,aD hk,hf,ho,hc,setObj,getObj,Sem.run]
  refine⟨_,_,hr,h _ (Chg.put w r _ (by simp)) (St.y7 (f:=λ (x:{ p:Array MapEntry×Nat // J6 p.1 (ks++[k]) })=>bI r (.map x.1.1 x.1.2)) ⟨(_,_),?_,?_⟩ hs)⟩
  ·simp[h1]
  ·intro e he;have he' : e∈es.toList++[{ key:=iv k,val:=.bool true,born:=cl }]:=by simpa using he
   rcases List.mem_append.1 he' with he|he
   ·exact h2 e he
   ·rw[List.mem_singleton.1 he]
theorem Fv{ty:TypeId}(hT:WU P t kt et (.bool false))(s:St w0 w (star (Bw r ks) B)){R:World->Prop}(h:∀ w',Chg w w' [r]->St w0 w' (star (Bw r []) B)->R w') :
  bp P (Builtin.clear_ #[t] ty #[.map (some r)]) w λ _ w'=>R w':=by
 obtain⟨⟨⟨es,cl⟩,h1,h2⟩,s'⟩:=s.ex;have ho:w.heap[r]?=some (.map es cl):=s'.obj;have hs:=s'.put (.map #[] cl);have hr:(Builtin.clear_ #[t] ty #[.map (some r)]).run P w=.ok (.tuple #[]) { w with heap:=w.heap.setIfInBounds r (.map #[] cl) }:=by
  simp[Builtin.clear_,aD hT.u,ho,setObj,getObj,Sem.run]
 exact⟨_,_,hr,h _ (Chg.put w r _ (by simp)) (St.y7 (f:=λ (x:{ p:Array MapEntry×Nat // J6 p.1 [] })=>bI r (.map x.1.1 x.1.2)) ⟨(_,_),by simp,by simp⟩ hs)⟩
theorem xj{t' : TypeId}(s:St w0 w B){R:Option Nat->World->Prop}(h:∀ r w',Chg w w' []->St w0 w' (star (bI r (.map #[] 0)) B)->R (some r) w'):bp P (Instr.makeMap t' none) w λ e w'=>∃ m:Option Nat,e=.map m/\R m w':=by
 refine⟨_,_,?_,_,rfl,h _ _ (Chg.new w (.map #[] 0) []) (s.newObj (.map #[] 0)).swap⟩;simp[Instr.makeMap,newObj,Sem.run]
theorem St.WM(s:St w0 w (star (bI r (.map #[] 0)) B)):St w0 w (star (Bw r []) B) :=
 St.y7 (f:=λ (x:{ p:Array MapEntry×Nat // J6 p.1 [] })=>bI r (.map x.1.1 x.1.2)) ⟨(#[],0),by simp,by simp⟩ s
end
end Go.Vc
namespace Go.Vc
structure Lo where
 v:Nat->Int
 f:Nat->Int
 lr:Nat->Nat
 ch:Int
def dW{α:Type}(f:Nat->α)(i:Nat)(x:α):Nat->α:=λ j=>if j=i then x else f j
theorem dx{α:Type}(f:Nat->α)(i:Nat)(x:α):dW f i x i=x:=if_pos rfl
theorem ie{α:Type}(f:Nat->α){i j:Nat}(x:α)(h:j≠i):dW f i x j=f j:=if_neg h
theorem Ec{α:Type}(f:Nat->α)(n i:Nat)(x:α):((List.range n).map f).set i x=(List.range n).map (dW f i x):=by
 refine List.ext_getElem? λ j=>?_;rw[List.getElem?_set,List.length_map,List.length_range,List.getElem?_map,List.getElem?_map]
 by_cases h:i=j
 ·subst h;rw[if_pos rfl]
  by_cases hl:i<n
  ·rw[if_pos hl,List.getElem?_range hl,Option.map_some,dx]
  ·rw[if_neg hl,List.getElem?_eq_none (by simpa using hl),Option.map_none]
 ·rw[if_neg h]
  cases hj:(List.range n)[j]? with
  | none=>rfl
  | some k =>
   have:k=j:=by
    obtain⟨hl,e⟩:=List.getElem?_eq_some_iff.1 hj;simpa using e.symm
   subst this;rw[Option.map_some,Option.map_some,ie _ _ (Ne.symm h)]
def VA:Lo:=⟨λ _=>0,λ _=>-1,λ _=>0,-1⟩
def L0(g:Nat->Nat->Int)(r a b:Nat)(t:Lo):Lo:=if t.v a+g a b<t.v b then { v:=dW t.v b (t.v a+g a b),f:=dW t.f b a,lr:=dW t.lr b r,ch:=b } else t
def SG(g:Nat->Nat->Int)(r a:Nat):Nat->Lo->Lo
 | 0,t=>t
 | b+1,t=>L0 g r a b (SG g r a b t)
def SF(g:Nat->Nat->Int)(n r:Nat):Nat->Lo->Lo
 | 0,t=>t
 | a+1,t=>SG g r a n (SF g n r a t)
def SI(g:Nat->Nat->Int)(n r:Nat)(s:Lo):Lo:=SF g n r n { s with ch:=-1 }
def Uw(g:Nat->Nat->Int)(n:Nat):Nat->Nat->Lo->Lo
 | 0,_,s=>s
 | k+1,r,s=>if (SI g n (r+1) s).ch<0 then SI g n (r+1) s else Uw g n k (r+1) (SI g n (r+1) s)
def vo(g:Nat->Nat->Int)(n:Nat):Lo:=Uw g n n 0 VA
structure I0 (g:Nat->Nat->Int) (n:Nat) (G T:Int) (r a b:Nat) (s:Lo):Prop where
 lo:∀ x,x<n->-(G*(T+1))<=s.v x/\s.v x<=0
 la:a<n->-(G*T)<=s.v a
 lr:∀ x,x<n->s.lr x<=r
 f:∀ y,y<n->(s.f y=-1/\s.lr y=0)\/∃ p,p<n/\s.f y=(p:Int)/\1<=s.lr y/\s.lr y<=s.lr p+1
 ch:s.ch<0\/∃ c,c<n/\s.ch=(c:Int)/\s.lr c=r
 dn:∀ x,x<n->x<a->s.lr x<r->∀ y,y<n->s.v y<=s.v x+g x y
 nx:∀ x,x<n->a<=x->s.lr x+1<r->∀ y,y<n->s.v y<=s.v x+g x y
 cu:a<n->∀ y,y<b->s.v y<=s.v a+g a y
structure Kp (g:Nat->Nat->Int) (n:Nat) (G T:Int) (r a:Nat) (s:Lo):Prop where
 i:I0 g n G T r a 0 s
 b:∀ x,x<n->-(G*T)<=s.v x
section
variable {g:Nat->Nat->Int} {n:Nat} {G T:Int} {r a b:Nat} {s:Lo}
theorem I0.SP(h:I0 g n G T r n 0 s)(hb:∀ x,x<n->-(G*T)<=s.v x):I0 g n G T (r+1) 0 0 { s with ch:=-1 } :=
 ⟨h.lo,λ hn=>hb 0 hn,λ x hx=>Nat.le_succ_of_le (h.lr x hx),h.f,.inl (show(-1:Int)<0 by decide),λ x _ hx=>absurd hx (Nat.not_lt_zero x),λ x hx _ hl y hy=>h.dn x hx hx (Nat.lt_of_succ_lt_succ hl) y hy,λ _ y hy=>absurd hy (Nat.not_lt_zero y)⟩
theorem I0.L0(h:I0 g n G T r a b s)(g0:∀ a,g a a=0)(gb:∀ a b,a<n->b<n->-G<=g a b/\g a b<=G)(hr:1<=r)(ha:a<n)(hb:b<n):I0 g n G T r a (b+1) (L0 g r a b s):=by
 unfold Vc.L0
 split
 ·rename_i hlt;have hab:a≠b:=λ e=>by subst e; rw[g0 a] at hlt; omega
  have hra:r<=s.lr a+1:=by
   rcases Nat.lt_or_ge (s.lr a+1) r with h1|h1
   ·have:=h.nx a ha (Nat.le_refl a) h1 b hb;omega
   ·exact h1
  have vb:∀ x,dW s.v b (s.v a+g a b) x<=s.v x:=λ x=>by
   by_cases e:x=b
   ·subst e; rw[dx]; omega
   ·rw[ie _ _ e]; exact Int.le_refl _
  have va:dW s.v b (s.v a+g a b) a=s.v a:=ie _ _ hab;refine⟨λ x hx=>?_,λ _=>?_,λ x hx=>?_,λ y hy=>?_,.inr ⟨b,hb,rfl,dx _ _ _⟩,λ x hx hxa hl y hy=>?_,λ x hx hxa hl y hy=>?_,λ _ y hy=>?_⟩
  ·show -(G*(T+1))<=dW s.v b _ x/\dW s.v b _ x<=0;have h0:=h.lo x hx;have h1:=vb x;refine⟨?_,by omega⟩
   by_cases e:x=b
   ·subst e;rw[dx];have h2:=h.la ha;have h3:=(gb a x ha hx).1;rw[Int.mul_add,Int.mul_one];omega
   ·rw[ie _ _ e]; exact h0.1
  ·show -(G*T)<=dW s.v b _ a;rw[va]; exact h.la ha
  ·show dW s.lr b r x<=r
   by_cases e:x=b
   ·subst e; rw[dx]; exact Nat.le_refl _
   ·rw[ie _ _ e]; exact h.lr x hx
  ·show(dW s.f b (a:Int) y=-1/\dW s.lr b r y=0)\/∃ p,p<n/\dW s.f b (a:Int) y=(p:Int)/\1<=dW s.lr b r y/\dW s.lr b r y<=dW s.lr b r p+1;have up:∀ p,p<n->s.lr p<=dW s.lr b r p:=λ p hp=>by
    by_cases e:p=b
    ·subst e; rw[dx]; exact h.lr p hp
    ·rw[ie _ _ e]; exact Nat.le_refl _
   by_cases e:y=b
   ·subst e;rw[dx,dx];exact .inr ⟨a,ha,rfl,hr,by have:=up a ha; omega⟩
   ·rw[ie _ _ e,ie _ _ e];rcases h.f y hy with h1|⟨p,hp,h1,h2,h3⟩
    ·exact .inl h1
    ·exact .inr ⟨p,hp,h1,h2,by have:=up p hp; omega⟩
  ·show dW s.v b _ y<=dW s.v b _ x+g x y;have hl:dW s.lr b r x<r:=hl;have e:x≠b:=λ e=>by subst e; rw[dx] at hl; omega
   rw[ie _ _ e] at hl;rw[ie (i:=b) (j:=x) _ _ e];have:=h.dn x hx hxa hl y hy;have:=vb y;omega
  ·show dW s.v b _ y<=dW s.v b _ x+g x y;have hl:dW s.lr b r x+1<r:=hl;have e:x≠b:=λ e=>by subst e; rw[dx] at hl; omega
   rw[ie _ _ e] at hl;rw[ie (i:=b) (j:=x) _ _ e];have:=h.nx x hx hxa hl y hy;have:=vb y;omega
  ·show dW s.v b _ y<=dW s.v b _ a+g a y;rw[va]
   by_cases e:y=b
   ·subst e; rw[dx]; exact Int.le_refl _
   ·have:=h.cu ha y (by omega);have:=vb y;omega
 ·rename_i hlt;exact⟨h.lo,h.la,h.lr,h.f,h.ch,h.dn,h.nx,λ _ y hy=>by
   by_cases e:y=b
   ·subst e; omega
   ·exact h.cu ha y (by omega)⟩
theorem I0.SG(h:I0 g n G T r a 0 s)(g0:∀ a,g a a=0)(gb:∀ a b,a<n->b<n->-G<=g a b/\g a b<=G)(hr:1<=r)(ha:a<n):∀ b,b<=n->I0 g n G T r a b (SG g r a b s)
 | 0,_=>h
 | b+1,hb=>(I0.SG h g0 gb hr ha b (Nat.le_of_succ_le hb)).L0 g0 gb hr ha hb
theorem I0.Wg(h:I0 g n G T r a n s)(hG:0<=G)(ha:a<n):Kp g n G (T+1) r (a+1) s:=by
 have e:G*(T+1+1)=G*(T+1)+G:=by rw[Int.mul_add G (T+1),Int.mul_one]
 refine⟨⟨λ x hx=>?_,λ hx=>(h.lo (a+1) hx).1,h.lr,h.f,h.ch,λ x hx hxa hl y hy=>?_,λ x hx hxa hl y hy=>h.nx x hx (by omega) hl y hy,λ _ y hy=>absurd hy (Nat.not_lt_zero y)⟩,λ x hx=>(h.lo x hx).1⟩
 ·have:=h.lo x hx;rw[e];omega
 ·by_cases e:x=a
  ·subst e; exact h.cu hx y hy
  ·exact h.dn x hx (by omega) hl y hy
theorem Kp.SF(h:Kp g n G T r 0 s)(hG:0<=G)(g0:∀ a,g a a=0)(gb:∀ a b,a<n->b<n->-G<=g a b/\g a b<=G)(hr:1<=r):∀ a,a<=n->Kp g n G (T+(a:Int)) r a (SF g n r a s)
 | 0,_=>by rw[show T+((0:Nat):Int)=T by omega]; exact h
 | a+1,ha=>by
  have ih:=Kp.SF h hG g0 gb hr a (Nat.le_of_succ_le ha);have:=(ih.i.SG g0 gb hr ha n (Nat.le_refl n)).Wg hG ha;rw[show T+((a+1:Nat):Int)=T+(a:Int)+1 by omega];exact this
theorem SD(hG:0<=G):Kp g n G 0 0 n VA:=by
 refine⟨⟨λ x _=>?_,λ h=>absurd h (Nat.lt_irrefl n),λ _ _=>Nat.le_refl 0,λ _ _=>.inl ⟨rfl,rfl⟩,.inl (show(-1:Int)<0 by decide),λ _ _ _ h=>absurd h (Nat.lt_irrefl 0),λ _ _ _ h=>absurd h (Nat.not_lt_zero _),λ h=>absurd h (Nat.lt_irrefl n)⟩,λ x _=>?_⟩
 ·show -(G*(0+1))<=0/\(0:Int)<=0;rw[Int.zero_add,Int.mul_one]; omega
 ·show -(G*0)<=0;rw[Int.mul_zero]; omega
theorem SH(hG:0<=G)(g0:∀ a,g a a=0)(gb:∀ a b,a<n->b<n->-G<=g a b/\g a b<=G):∀ (k r:Nat) (T:Int) (s:Lo),r+k=n->Kp g n G T r n s->∃ r' T',Kp g n G T' r' n (Uw g n k r s)/\(0<=(Uw g n k r s).ch->r' = n)
 | 0,r,T,s,hk,h=>⟨r,T,h,λ _=>hk⟩
 | k+1,r,T,s,hk,h=>by
  have h1:Kp g n G T (r+1) 0 { s with ch:=-1 }:=⟨h.i.SP h.b,h.b⟩;have h2:Kp g n G (T+(n:Int)) (r+1) n (SI g n (r+1) s):=h1.SF hG g0 gb (by omega) n (Nat.le_refl n);unfold Uw
  split
  ·rename_i hc;exact⟨r+1,_,h2,λ h=>absurd h (by omega)⟩
  ·exact SH hG g0 gb k (r+1) _ _ (by omega) h2
theorem KY(hG:0<=G)(g0:∀ a,g a a=0)(gb:∀ a b,a<n->b<n->-G<=g a b/\g a b<=G):∃ r T,Kp g n G T r n (vo g n)/\(0<=(vo g n).ch->r=n) :=
 SH hG g0 gb n 0 0 VA (by omega) (SD hG)
end
end Go.Vc
namespace Go.Proofs.YtemiicbbbojdiaaGreatDoor
open Go Go.Vc _root_.Go.Proofs.Tryz
structure L5 (w:World) (s:Se):Prop where
 i:s.In w
 o:s.Ok
theorem L5.aA{w w' : World}{s:Se}(h:L5 w s)(hc:Chg w w' []):L5 w' s:=⟨h.i.aA hc,h.o⟩
theorem L8{w:World}{s:Se}(h:L5 w s){n:Nat}{b:Br}(hb:s.bd[n]?=some b){c:Ch}(hc:c.Ok) :
  CP 165 #[.agg s.arr,iv n,c.v] w (λ r w'=>r=iv (E7 b c)/\Chg w w' []):=by
 refine nk ?_;unfold jj;have hn:=(List.getElem?_eq_some_iff.1 hb).1;refine(St.start w).one.aB s.arr λ r1 w1 s1=>s1.aB c.cells.toArray λ r2 w2 s2=>⟨_,_,_,_,_,_,_,_,_,_,_,_,s2.cellsIn 1 rfl,an (M8 (s:=s) n) ?_⟩;rintro v w3 ⟨rfl,c3⟩;have s3:=s2.quiet c3;obtain⟨q,hq,hcl⟩:=Mn ((h.aA s3.aA).i.bd) hb 2 _ rfl;refine⟨_,rfl,cF (by simp; omega) ⟨_,_,_,s3.ag 1 rfl 1,?_⟩⟩;rw[hq];refine⟨by omega,by omega,_,hcl,λ g w4=>g=decide (b.bud≠0/\b.bud<cost c.p c.want)/\Chg w w4 [],?_,?_⟩
 ·rintro w4 g ⟨rfl,c4⟩ -
  by_cases hg:b.bud≠0/\b.bud<cost c.p c.want
  ·exact cT (dT hg) ⟨by rw[E7,if_pos hg],c4⟩
  ·exact cF (dF hg) ⟨by rw[E7,if_neg hg],c4⟩
 ·by_cases h0:b.bud=0
  ·exact cF (by simp[h0]) ⟨by simp[h0],s3.aA⟩
  ·refine cT (by simpa using h0) ⟨_,yR s3 0 rfl,_,cL s3 0 rfl,an (jU w3 hc.p hc.w) ?_⟩;rintro v w5 ⟨rfl,c5⟩;exact⟨_,rfl,by simp[h0],(s3.quiet c5).aA⟩
def Cx(l:List Ch):Bool:=(l.getLast?.map λ c=>decide (c.want=z6)).getD false
theorem MG{w:World}{a:OA}{c:Nat}{l:List Ch}(h:zw w a l)(hl:l.length<=1000):CP 192 #[.slice a l.length c] w (λ r w'=>r=.bool (Cx l)/\w' = w):=by
 refine tD ?_;unfold oo
 by_cases h0:l.length=0
 ·have:l=[]:=List.eq_nil_of_length_eq_zero h0;subst this;exact cF rfl ⟨rfl,rfl⟩
 ·have hx:l[l.length-1]?=some (l[l.length-1]'(by omega)):=gE (by omega);have hlast:l.getLast? = some (l[l.length-1]'(by omega)):=by rw[List.getLast?_eq_getElem?,hx]
  generalize l[l.length-1]'(by omega)=x at hx hlast;obtain⟨q,hq,hcl⟩:=h.at hx;rw[hq];have e:IntKind.i64.wrap ((l.length:Int)-1)=((l.length-1:Nat):Int):=by rw[aF ⟨by omega,by omega⟩]; omega
  rw[e];refine cT (dT (by omega)) ⟨by omega,by omega,x.want,?_,?_,rfl⟩
  ·refine bE _ 0 λ j v hj=>?_;have h6:j<6:=(List.getElem?_eq_some_iff.1 hj).1;have:=aO hcl (6+j) v (by
    match j,h6,hj with
    | 0,_,hj|1,_,hj|2,_,hj|3,_,hj|4,_,hj|5,_,hj=>simpa[Ch.cells,I6.on,I6.vs] using hj)
   rw[Nat.zero_add] at this;rw[Addr.add_add,Nat.zero_add,Int.toNat_natCast];exact this
  ·rw[Cx,hlast]; simp[I6.beq_eq]
def LV(s:Se)(n:Int)(a:OA)(c:Nat)(l:List Ch):List Value:=[.slice s.a1 s.ps.length s.c1,.slice s.a2 s.bd.length s.c2,.slice s.a3 s.cp.length s.c3,.slice s.a4 s.sa.length s.c4,iv n,.slice a l.length c]
theorem Nb{w0 w:World}{s:Se}{n:Int}{a:OA}{c:Nat}{l:List Ch}{ls:List aG}{r:Nat}{T:TypeId}(h:St w0 w (Sep ls))(i:Nat)(e:ls[i]?=some (ai r (LV s n a c l).toArray T)):af w ⟨r,0,none⟩ 0 s.arr.toList :=
 bE _ 0 λ j v hj=>by
  have h6:j<4:=(List.getElem?_eq_some_iff.1 hj).1;rw[bq,Nat.zero_add,Nat.zero_add,h.ag i e]
  match j,h6,hj with
  | 0,_,hj|1,_,hj|2,_,hj|3,_,hj=>simpa[LV,Se.arr] using hj
theorem CG{w:World}{s:Se}(h:L5 w s){n:Int}{a:OA}{k:Nat}{l:List Ch}{c:Ch}(hc:c.Ok) :
  CP 220 #[.agg (LV s n a k l).toArray,c.v] w (λ r w'=>r=iv (NY s.ps c.want)/\Chg w w' []):=by
 refine jN ?_;unfold fJ;refine(St.start w).one.aB (LV s n a k l).toArray λ r1 w1 s1=>s1.aB c.cells.toArray λ r2 w2 s2=>⟨_,_,_,s2.ag 1 rfl 0,_,cL s2 0 rfl,an (NW ((h.aA s2.aA).i.ps) h.i.h1 h.o.ps hc.w) ?_⟩;rintro v w3 ⟨rfl,c3⟩;exact⟨_,rfl,rfl,(s2.quiet c3).aA⟩
def Jg(s:Se)(b:Br)(l:List Ch):Int:=l.foldl (λ m c=>if NY s.ps c.want<m then NY s.ps c.want else m) b.pts
theorem TU{w:World}{s:Se}(h:L5 w s){n:Nat}{b:Br}(hb:s.bd[n]?=some b){a:OA}{k:Nat}{l:List Ch}(hr:zw w a l)(hl:l.length<=1000)(ho:∀ c∈l,c.Ok) :
  CP 221 #[.agg s.arr,iv n,.slice a l.length k] w (λ r w'=>r=iv (Jg s b l)/\Chg w w' []):=by
 refine lX ?_;unfold iA;have hn:=(List.getElem?_eq_some_iff.1 hb).1;refine(St.start w).one.aB s.arr λ r1 w1 s1=>⟨_,_,_,_,_,_,_,_,_,_,_,_,s1.cellsIn 0 rfl,an (M8 (s:=s) n) ?_⟩;rintro v w2 ⟨rfl,c2⟩;have s2:=(s1.quiet c2).quiet (Chg.drew w2 []);obtain⟨q,hq,hcl⟩:=Mn ((h.aA s2.aA).i.bd) hb 3 _ rfl;refine⟨_,rfl,cF (by simp; omega) ⟨_,_,_,_,_,_,_,_,_,_,_,_,s2.cellsIn 0 rfl,_,_,_,s2.ag 0 rfl 1,?_⟩⟩;refine aq hq ⟨by omega,by omega,_,hcl,λ m n4 w3 x=>∃ j:Nat,n4=j/\j<=l.length/\x=l.length-j/\m=Jg s b (l.take j)/\St w w3 (Sep [ai r1 s.arr 34,emp]),⟨l.length,0,rfl,by omega,by omega,rfl,s2⟩,?_⟩;rintro w3 x m n4 ⟨j,rfl,hj,hx',rfl,s3⟩ -
 by_cases hlt:(j:Int)<(l.length:Int)
 ·have hx:l[j]?=some (l[j]'(by omega)):=gE (by omega);generalize l[j]'(by omega)=y at hx;obtain⟨q2,rfl,hcl2⟩:=(hr.aA s3.aA).at hx;refine cT (by simpa using hlt) ⟨by omega,by omega,y.p,y.want,hcl2,s3.aB Dr.cells.toArray λ r2 w4 s4=>s4.aC 0 rfl y.cells rfl y.one λ w5 s5=>⟨y.p,y.want,s5.cellsIn 0 rfl,?_⟩⟩;have hp:=CG (n:=(n:Int)) (a:=some q2) (k:=k) (l:=l) (h.aA s5.aA) (ho y (List.mem_of_getElem? hx));refine an hp ?_;rintro v w6 ⟨rfl,c6⟩;refine⟨_,rfl,l.length-(j+1),by omega,j+1,aF ⟨by omega,by omega⟩,by omega,rfl,?_,(s5.quiet c6).ay [1,2]⟩;rw[aH hx]; unfold Jg; rw[List.foldl_append,List.foldl_cons,List.foldl_nil]
 ·obtain rfl:j=l.length:=by omega
  exact cF (by simp) ⟨by rw[List.take_length],s3.aA⟩
def FK(s:Se)(b:Br)(l:List Ch)(c:Ch):Bool:=decide (NY s.ps c.want<=Jg s b l)
theorem Jw{w:World}{s:Se}(h:L5 w s){n:Nat}{b:Br}(hb:s.bd[n]?=some b){a:OA}{k:Nat}{l:List Ch}(hr:zw w a l)(hl:l.length<=1000)(ho:∀ c∈l,c.Ok){c:Ch}(hc:c.Ok) :
  CP 189 #[.agg (LV s n a k l).toArray,c.v] w (λ r w'=>r=.bool (FK s b l c)/\Chg w w' []):=by
 refine lM ?_;unfold gL;refine(St.start w).one.aB (LV s n a k l).toArray λ r1 w1 s1=>s1.aB c.cells.toArray λ r2 w2 s2=>?_;have s3:=s2.quiet (Chg.drew w2 []);refine⟨_,_,_,_,_,_,_,_,_,_,_,_,_,_,_,_,s3.cellsIn 1 rfl,c.p,c.want,s3.cellsIn 0 rfl,_,_,_,_,_,_,_,_,_,_,_,_,Nb s3 1 rfl,_,s3.ag 1 rfl 4,_,_,_,s3.ag 1 rfl 5,an (CG (n:=n) (a:=a) (k:=k) (l:=l) (h.aA s3.aA) hc) ?_⟩;rintro v w3 ⟨rfl,c3⟩;have s4:=s3.quiet c3;refine⟨_,rfl,s4.ag 1 rfl 5,s4.ag 1 rfl 4,Nb s4 1 rfl,an (TU (h.aA s4.aA) hb (hr.aA s4.aA) hl ho) ?_⟩;rintro v w5 ⟨rfl,c5⟩;exact⟨_,rfl,rfl,(s4.quiet c5).aA⟩
def wJ(c:Ch):Bool:=c.p.l.all sO&&c.want.l.all nN
theorem Fs{c:Ch}:wJ c=true<->c.Ok:=by
 unfold wJ;rw[Bool.and_eq_true];exact⟨λ h=>⟨vD.1 h.1,LZ h.2⟩,λ h=>⟨vD.2 h.p,leq h.w⟩⟩
theorem Oc(w:World)(c:Ch):CP 287 #[c.v] w (λ r w'=>r=.bool (wJ c)/\Chg w w' []):=by
 refine vM ?_;unfold qF;refine(St.start w).one.aB c.cells.toArray λ r1 w1 s1=>⟨c.p,yR s1 0 rfl,λ n w2 m=>∃ k:Nat,n=k/\k<=6/\m=6-k/\(c.p.l.take k).all sO=true/\w2=w1,⟨6,0,rfl,by omega,by omega,rfl,rfl⟩,?_⟩;rintro w2 m n ⟨k,rfl,hk,hm,ha,rfl⟩ -
 by_cases hlt:(k:Int)<6
 ·have hk' : k<6:=by omega
  refine cT (dT hlt) ⟨by omega,by omega,_,c.p.get k hk',λ b w3=>b=(!sO (c.p.at' k))/\w3=w2,?_,?_⟩
  ·rintro w3 b ⟨rfl,rfl⟩ -
   cases hx:sO (c.p.at' k) with
   | true=>exact cF rfl ⟨6-(k+1),by omega,k+1,inc (by decide) hk',by omega,rfl,wD ha (c.p.oY k hk') hx,rfl⟩
   | false=>exact cT rfl ⟨by rw[wJ,zY (c.p.oY k hk') hx]; rfl,s1.aA⟩
  ·by_cases h0:c.p.at' k<0
   ·exact cT (dT h0) ⟨by simp[sO]; omega,rfl⟩
   ·refine cF (dF h0) ⟨?_,rfl⟩;rw[sO,dT (show 0<=c.p.at' k by omega),Bool.true_and]
    by_cases h1:c.p.at' k<=1000000
    ·rw[dT h1,dF (by omega)]; rfl
    ·rw[dF h1,dT (by omega)]; rfl
 ·obtain rfl:k=6:=by omega
  refine cF (by simp) ⟨_,cL s1 0 rfl,an (de w2 c.want) ?_⟩;rintro v w4 ⟨rfl,c4⟩;refine⟨_,rfl,?_,(s1.quiet c4).aA⟩;rw[wJ,show c.p.l.all sO=true from ha]
  cases c.want.l.all nN<;>rfl
theorem zZ{w:World}{a:OA}{k:Nat}{l:List Ch}(hr:zw w a l)(hl:l.length<=1000) :
  CP 259 #[.slice a l.length k] w (λ r w'=>r=.bool (l.all wJ)/\Chg w w' []):=by
 refine qC ?_;unfold lg;refine⟨λ n w1 m=>∃ j:Nat,n=j/\j<=l.length/\m=l.length-j/\(l.take j).all wJ=true/\Chg w w1 [],⟨l.length,0,rfl,by omega,by omega,rfl,Chg.refl _ _⟩,?_⟩;rintro w1 m n ⟨j,rfl,hj,hm,ha,hc⟩ -
 by_cases hlt:(j:Int)<(l.length:Int)
 ·have hx:l[j]?=some (l[j]'(by omega)):=gE (by omega);generalize l[j]'(by omega)=y at hx;obtain⟨q2,rfl,hcl2⟩:=(hr.aA hc).at hx;refine cT (by simpa using hlt) ⟨by omega,by omega,y.p,y.want,hcl2,(St.start' hc).one.aB Dr.cells.toArray λ r2 w4 s4=>s4.aC 0 rfl y.cells rfl y.one λ w5 s5=>⟨y.p,y.want,s5.cellsIn 0 rfl,an (Oc w5 y) ?_⟩⟩;rintro v w6 ⟨rfl,c6⟩;refine⟨_,rfl,?_⟩
  cases hy:wJ y with
  | true =>
   refine cF rfl ⟨l.length-(j+1),by omega,j+1,aF ⟨by omega,by omega⟩,by omega,rfl,?_,(s5.quiet c6).aA⟩;rw[aH hx,List.all_append,ha]; simp[hy]
  | false =>
   refine cT rfl ⟨?_,(s5.quiet c6).aA⟩;rw[List.all_eq_false.2 ⟨y,List.mem_of_getElem? hx,by simp[hy]⟩]
 ·obtain rfl:j=l.length:=by omega
  rw[List.take_length] at ha;exact cF (by simp) ⟨by rw[ha],hc⟩
def AI(a b:Ch):Int:=cost a.p b.want-cost a.p a.want
theorem P1{a b:Ch}(ha:a.Ok)(hb:b.Ok) : -24000000<=AI a b/\AI a b<=24000000:=by
 have h1:=nA ha.p hb.w;have h2:=nA ha.p ha.w;unfold AI; omega
theorem Uc(w:World){a b:Ch}(ha:a.Ok)(hb:b.Ok):CP 278 #[a.v,b.v] w (λ r w'=>r=iv (AI a b)/\Chg w w' []):=by
 refine xz ?_;unfold tn;have h1:=nA ha.p hb.w;have h2:=nA ha.p ha.w;refine(St.start w).one.aB a.cells.toArray λ r1 w1 s1=>s1.aB b.cells.toArray λ r2 w2 s2=>?_;have s3:=s2.quiet (Chg.drew w2 []);refine⟨_,yR s3 1 rfl,_,cL s3 0 rfl,_,yR s3 1 rfl,_,cL s3 1 rfl,an (jU _ ha.p hb.w) ?_⟩;rintro v w3 ⟨rfl,c3⟩;have s4:=s3.quiet c3;refine⟨_,rfl,cL s4 1 rfl,yR s4 1 rfl,an (jU _ ha.p ha.w) ?_⟩;rintro v w5 ⟨rfl,c5⟩;refine⟨_,rfl,?_,(s4.quiet c5).aA⟩;rw[aF ⟨by omega,by omega⟩]; rfl
abbrev i1 (x:Int):List Value:=[iv x]
theorem dB(x:Int):(i1 x).length=1:=rfl
theorem HP(x:Int):∀ v∈i1 x,v.oneCell' = true:=by intro v hv; simp at hv; subst hv; rfl
theorem RI:iz prog 271 2 (iv 0) 1 8:=iz.mk' underlying271 (by kernel_rfl) rfl (by decide)
theorem WD:iz prog 244 3 (iv 0) 1 8:=iz.mk' underlying244 (by kernel_rfl) rfl (by decide)
theorem Wc:WU prog 360 3 4 (.bool false):=⟨underlying360,by kernel_rfl⟩
theorem iu{w:World}{a:OA}{l:List Int}(h:bG 1 i1 w a l){i:Nat}{x:Int}(hi:l[i]?=some x):∃ q,a=some q/\w.cell? (Addr.add q (i*1))=some (iv x):=by
 obtain⟨q,hq,hc⟩:=h.at hi;have:=aO hc 0 _ rfl;rw[Nat.zero_add,Addr.add_add,Nat.add_zero] at this;exact⟨q,hq,this⟩
def dM(f:Nat->Int)(n:Nat):List Int:=(List.range n).map f
theorem eP(f:Nat->Int)(n:Nat):(dM f n).length=n:=by simp[dM]
theorem FH(f:Nat->Int){n i:Nat}(h:i<n):(dM f n)[i]?=some (f i):=by simp[dM,h]
theorem xk:∀ (n:Nat) (l:List Nat),l.Nodup->(∀ x∈l,x<n)->l.length<=n
 | 0,[],_,_=>Nat.le_refl _
 | 0,x :: _,_,h=>absurd (h x (by simp)) (by omega)
 | n+1,l,hd,h=>by
  by_cases hm:n∈l
  ·have h1:=xk n (l.erase n) (hd.erase n) λ x hx=>by
    have h2:=(hd.mem_erase_iff).1 hx;have:=h x h2.2;omega
   rw[List.length_erase_of_mem hm] at h1;omega
  ·have h1:=xk n l hd λ x hx=>by
    have:=h x hx;have:x≠n:=λ e=>hm (e▸hx);omega
   omega
theorem vt{l:List Int}{n:Nat}(hd:l.Nodup)(h:∀ x∈l,0<=x/\x<n):l.length<=n:=by
 have h2:(l.map Int.toNat).Nodup:=by
  rw[List.nodup_iff_pairwise_ne] at *;rw[List.pairwise_map];exact hd.imp_of_mem λ {a b} ha hb hne e=>hne (by have:=h a ha; have:=h b hb; omega)
 have h3:∀ x∈l.map Int.toNat,x<n:=λ x hx=>by
  obtain⟨y,hy,rfl⟩:=List.mem_map.1 hx;have:=h y hy;omega
 have:=xk n _ h2 h3;simpa using this
theorem PI{w:World}{n:Nat}(hn:n<=1000){a:OA}{c:Nat}{st:Lo}(hr:bG 1 i1 w a (dM st.f n)){G T:Int}{g:Nat->Nat->Int}(hs:I0 g n G T n n 0 st){ch:Nat}(hc:ch<n)(hl:st.lr ch=n) :
  CP 288 #[.slice a n c,iv ch] w (λ r w'=>(∃ q l c,r=.slice (some q) l c)/\Chg w w' []):=by
 refine vL ?_;unfold qD;have link:∀ {w' : World} {x:Nat},Chg w w' []->x<n->∃ q,a=some q/\w'.cell? (Addr.add q (x*1))=some (iv (st.f x)):=λ hc hx=>iu (hr.aA hc) (FH _ hx);refine xj (St.start w) λ m w1 c1 s1=>?_;have s1:=St.WM s1;refine⟨λ x w2 k=>∃ (ks:List Int) (y:Nat),x=y/\y<n/\ks.Nodup/\(∀ z∈ks,0<=z/\z<n)/\k+ks.length=n+1/\n<=st.lr y+ks.length/\(∀ z:Nat,(z:Int)∈ks->st.f z=y\/st.f z∈ks)/\St w w2 (star (Bw m ks) emp),⟨n+1,[],ch,rfl,hc,List.nodup_nil,by simp,by simp,by rw[hl]; simp,by simp,s1⟩,?_⟩
 rintro w2 k x ⟨ks,y,rfl,hy,hd,hb,hk,hlr,hcl,s2⟩ -;refine A3 Wc underlying3 s2 (y:Int) ?_
 by_cases hm:(y:Int)∈ks
 ·refine cF (by rw[dT hm]; rfl) (Fv Wc s2 λ w5 c5 s5=>?_);have cl2:∀ z:Nat,(z:Int)∈ks->st.f z∈ks:=λ z hz=>(hcl z hz).elim (λ e=>by rw[e]; exact hm) id;refine⟨λ x a2 l2 c2 w6 k=>∃ (ms:List Int) (y:Nat),x=y/\(y:Int)∈ks/\ms.Nodup/\(∀ z∈ms,z∈ks)/\k+ms.length=n+1/\l2=ms.length/\St w w6 (Sep [Bw m ms,cH 3 1 i1 a2 c2 ms,emp]),⟨n+1,[],y,rfl,hm,List.nodup_nil,by simp,by simp,rfl,(s5.cV (e:=3) (sz:=1) (f:=i1)).Hl.rR⟩,?_⟩
  rintro w6 k2 x a2 l2 c2 ⟨ms,z,rfl,hz,hd2,hb2,hk2,rfl,s6⟩ -;refine A3 Wc underlying3 s6 (z:Int) ?_;have hms:ms.length<=n:=vt hd2 λ v hv=>hb v (hb2 v hv)
  by_cases hm2:(z:Int)∈ms
  ·refine cF (by rw[dT hm2]; rfl) ?_;refine dH WD dB (x:=0) rfl s6 (n:=ms.length) (by omega) (by omega) λ gg w11 c11 s11=>?_;refine⟨λ x w12 k=>∃ (j:Nat) (out:List Int),x=j/\j<=ms.length/\k=ms.length-j/\out.length=ms.length/\St w w12 (star (cH 3 1 i1 (some ⟨gg,0,none⟩) ms.length out) (Sep [Bw m ms,cH 3 1 i1 a2 c2 ms,emp])),⟨ms.length,0,_,rfl,by omega,by omega,by simp,s11⟩,?_⟩
   rintro w12 k3 x ⟨j,out,rfl,hj,hk3,ho,s12⟩ -
   by_cases hlt:(j:Int)<(ms.length:Int)
   ·have hx:ms[j]?=some (ms[j]'(by omega)):=gE (by omega);generalize ms[j]'(by omega)=v at hx;have s13:St w w12 (Sep [cH 3 1 i1 (some ⟨gg,0,none⟩) ms.length out,Bw m ms,cH 3 1 i1 a2 c2 ms,emp]):=s12;obtain⟨q,hq,hcq⟩:=iu (St.rd dB (s13.out 2 rfl)) hx;have e1:IntKind.i64.wrap ((IntKind.i64.wrap ((ms.length:Int)-1))-(j:Int))=((ms.length-1-j:Nat):Int):=by
     rw[aF (n:=(ms.length:Int)-1) ⟨by omega,by omega⟩,aF ⟨by omega,by omega⟩]; omega
    rw[e1];refine cT (dT hlt) (aq hq ⟨by omega,by omega,v,hcq,by omega,by omega,?_⟩);rw[Int.toNat_natCast];exact St.kn (v:=iv) rfl s12 (i:=ms.length-1-j) (by omega) λ w13 s14=>⟨ms.length-(j+1),by omega,j+1,_,aF ⟨by omega,by omega⟩,by omega,rfl,by simpa using ho,s14⟩
   ·exact cF (dF hlt) ⟨⟨_,_,_,rfl⟩,s12.aA⟩
  ·have hks:ks.length<=n:=vt hd hb;have hd3:(ms++[(z:Int)]).Nodup:=List.nodup_append.2 ⟨hd2,by simp,λ a ha b hb e=>by simp at hb; subst hb; subst e; exact hm2 ha⟩;have hms2:(ms++[(z:Int)]).length<=n:=vt hd3 λ v hv=>by
    rcases List.mem_append.1 hv with h|h
    ·exact hb v (hb2 v h)
    ·simp at h; subst h; exact hb _ hz
   simp only[List.length_append,List.length_singleton] at hms2;refine cT (by rw[dF hm2]; rfl) (CY Wc underlying3 s6 (z:Int) hm2 λ w8 c8 s8=>?_);have s8' : St w w8 (star (cH 3 1 i1 a2 c2 ms) (star (Bw m (ms++[(z:Int)])) (Sep [emp]))):=s8.Hl;refine eK (x:=(z:Int)) WD dB (HP _) s8' (by omega) (by omega) (λ a' c' w10 s10=>?_) rfl;have zr:=hb _ hz;obtain⟨q,hq,hcq⟩:=link s10.aA (show z<n by omega);have hfz:=cl2 z hz;have hfr:=hb _ hfz;refine aq hq ⟨by omega,by omega,_,hcq,k2-1,?_,ms++[(z:Int)],(st.f z).toNat,by omega,by rw[Int.toNat_of_nonneg hfr.1]; exact hfz,hd3,?_,?_,rfl,s10.Hl⟩
   ·omega
   ·intro v hv;rcases List.mem_append.1 hv with h|h
    ·exact hb2 v h
    ·simp at h; subst h; exact hz
   ·simp only[List.length_append,List.length_singleton]; omega
 ·have hd3:(ks++[(y:Int)]).Nodup:=List.nodup_append.2 ⟨hd,by simp,λ a ha b hb e=>by simp at hb; subst hb; subst e; exact hm ha⟩;have hb3:∀ z∈ks++[(y:Int)],0<=z/\z<n:=λ z hz=>by
   rcases List.mem_append.1 hz with h|h
   ·exact hb z h
   ·simp at h; subst h; omega
  have hms2:=vt hd3 hb3;simp only[List.length_append,List.length_singleton] at hms2;refine cT (by rw[dF hm]; rfl) (CY Wc underlying3 s2 (y:Int) hm λ w4 c4 s4=>?_);obtain⟨q,hq,hcq⟩:=link s4.aA hy;rcases hs.f y hy with⟨_,h0⟩|⟨p,hp,hfp,h1,h2⟩
  ·omega
  ·refine aq hq ⟨by omega,by omega,_,hcq,k-1,by omega,ks++[(y:Int)],p,hfp,hp,hd3,hb3,?_,?_,?_,s4⟩
   ·simp only[List.length_append,List.length_singleton]; omega
   ·simp only[List.length_append,List.length_singleton]; omega
   ·intro z hz;rcases List.mem_append.1 hz with h|h
    ·rcases hcl z h with e|e
     ·exact .inr (by rw[e]; simp)
     ·exact .inr (List.mem_append_left _ e)
    ·simp at h;have h:z=y:=by omega
     subst h; exact .inl hfp
def gF(l:List Ch)(a b:Nat):Int:=AI (l.getD a Dr) (l.getD b Dr)
theorem P0(l:List Ch)(a:Nat):gF l a a=0:=by unfold gF AI; omega
theorem V2{l:List Ch}(h:∀ c∈l,c.Ok)(a b:Nat)(ha:a<l.length)(hb:b<l.length) : -24000000<=gF l a b/\gF l a b<=24000000:=by
 have e:∀ i,i<l.length->(l.getD i Dr).Ok:=λ i hi=>by
  rw[List.getD_eq_getElem?_getD,gE hi];exact h _ (List.getElem_mem hi)
 exact P1 (e a ha) (e b hb)
def lQ(l:List Ch):Lo:=vo (gF l) l.length
theorem KZ{w:World}{a:OA}{c:Nat}{l:List Ch}(hr:zw w a l)(hl:l.length<=100)(ho:∀ c∈l,c.Ok) :
  CP 260 #[.slice a l.length c] w (λ r w' =>
   ((lQ l).ch<0/\(∃ g c,r=.tuple #[.slice (some ⟨g,0,none⟩) l.length c,.slice none 0 0]/\St w w' (star (cH 2 1 i1 (some ⟨g,0,none⟩) c (dM (lQ l).v l.length)) emp)))\/(0<=(lQ l).ch/\(∃ q m c,r=.tuple #[.slice none 0 0,.slice (some q) m c])/\Chg w w' [])):=by
 refine sG ?_;unfold mM;generalize hn:l.length=n at *;have hG:(0:Int)<=24000000:=by omega
 have g0:=P0 l;have gb:∀ a b,a<n->b<n->-24000000<=gF l a b/\gF l a b<=24000000:=λ a b ha hb=>V2 ho a b (by omega) (by omega);refine dH RI dB (x:=0) rfl (St.start w) (n:=n) (by omega) (by omega) λ gv w1 c1 s1=>?_;refine dH WD dB (x:=0) rfl s1 (n:=n) (by omega) (by omega) λ gf w2 c2 s2=>?_;let L:Nat->(Nat->Int)->(Nat->Int)->List aG:=λ _ v f=>[cH 3 1 i1 (some ⟨gf,0,none⟩) n (dM f n),cH 2 1 i1 (some ⟨gv,0,none⟩) n (dM v n)];have z1:List.replicate n (0:Int)=dM (λ _=>0) n:=by unfold dM; rw[List.map_const']; simp
 have z2:dM (λ i=>if i<0 then (-1:Int) else 0) n=dM (λ _=>0) n:=by simp
 rw[z1] at s1 s2;refine⟨λ x w3 k=>∃ (j:Nat),x=j/\j<=n/\k=n-j/\St w w3 (Sep (L 0 (λ _=>0) λ i=>if i<j then -1 else 0)),⟨n,0,rfl,by omega,by omega,by
  show St w w2 (Sep [cH 3 1 i1 (some ⟨gf,0,none⟩) n (dM (λ i=>if i<0 then (-1:Int) else 0) n),_]);rw[z2]; exact s2⟩,?_⟩
 rintro w3 k x ⟨j,rfl,hj,hk,s3⟩ -
 by_cases hlt:(j:Int)<((dM (λ _=>(0:Int)) n).length:Int)
 ·have hjn:j<n:=by rw[eP] at hlt; omega
  refine cT (dT (by rw[eP] at hlt; exact hlt)) (aq rfl ⟨by omega,by omega,?_⟩);rw[Int.toNat_natCast];refine St.kn (v:=iv) (x:=-1) rfl (s3.out 0 rfl) (i:=j) (by rw[eP]; exact hjn) λ w4 s4=>⟨n-(j+1),by omega,j+1,aF ⟨by omega,by omega⟩,by omega,rfl,?_⟩;have e:(dM (λ i=>if i<j then (-1:Int) else 0) n).set j (-1)=dM (λ i=>if i<j+1 then -1 else 0) n:=by
   unfold dM;rw[Ec]
   congr 1
   funext i
   by_cases h:i=j
   ·subst h; simp[dx]
   ·rw[ie _ _ h]
    by_cases h2:i<j
    ·rw[if_pos h2,if_pos (by omega)]
    ·rw[if_neg h2,if_neg (by omega)]
  rw[e] at s4;exact s4.back (l:=L 0 (λ _=>0) λ i=>if i<j then -1 else 0) (i:=0) (by simp[L])
 rw[eP] at hlt;obtain rfl:n=j:=by omega
 have e1:dM (λ i=>if i<n then (-1:Int) else 0) n=dM (λ _=>-1) n:=by
  unfold dM;refine List.map_congr_left λ i hi=>?_;rw[if_pos (List.mem_range.1 hi)]
 have s3' : St w w3 (Sep (L 0 VA.v VA.f)):=by
  show St w w3 (Sep [cH 3 1 i1 (some ⟨gf,0,none⟩) n (dM (λ _=>-1) n),_]);rw[<- e1]; exact s3
 refine cF (dF hlt) ⟨λ x w5=>x=(lQ l).ch/\St w w5 (Sep (L 0 (lQ l).v (lQ l).f)),?_,?_⟩
 ·rintro w5 x ⟨rfl,s5⟩ -
  by_cases hc:(lQ l).ch<0
  ·refine cT (dT hc) (.inl ⟨hc,gv,n,rfl,?_⟩);have:=(s5.ay [1]).yl;exact((s5.ay [1,2]).pair)
  ·refine cF (dF hc) ?_;obtain⟨r',T',hS,hrn⟩:=KY (g:=gF l) (n:=n) hG g0 gb;have hch:0<=(lQ l).ch:=by omega
   have hst:vo (gF l) n=lQ l:=by unfold lQ; rw[hn]
   rw[hst] at hS hrn;have hrn':=hrn hch;subst hrn';rcases hS.i.ch with h1|⟨cc,hcc,h1,h2⟩
   ·omega
   ·rw[h1];have rd5:=St.rd dB (s5.out 0 rfl);refine an (PI (by omega) rd5 hS.i hcc h2) ?_;rintro v w6 ⟨⟨q,m,cap,rfl⟩,c6⟩;exact⟨_,_,_,rfl,.inr ⟨by omega,⟨q,m,cap,rfl⟩,s5.aA.trans c6 (by simp)⟩⟩
 refine⟨λ ch x w7 k=>∃ (r:Nat) (T:Int) (s:Lo),x=r/\r<=n/\k=n-r/\ch=s.ch/\T=(r:Int)*n/\Uw (gF l) n (n-r) r s=lQ l/\Kp (gF l) n 24000000 T r n s/\St w w7 (Sep (L 0 s.v s.f)),⟨n,0,0,VA,rfl,by omega,by omega,rfl,by simp,by unfold lQ vo; rw[hn]; rfl,SD hG,s3'⟩,?_⟩
 rintro w7 k7 ch x ⟨r,T,s,rfl,hr7,hk7,rfl,hT,hfin,hS,s7⟩ -
 by_cases hlt:(r:Int)<(n:Int)
 ·have hrn:r<n:=by omega
  have hnr:n-r=(n-(r+1))+1:=by omega
  have hT2:T<=10000/\0<=T:=by
   have h1:(r:Int)*n<=100*n:=Int.mul_le_mul_of_nonneg_right (by omega) (by omega);have h2:(0:Int)<=(r:Int)*n:=Int.mul_nonneg (by omega) (by omega);omega
  have hS1:Kp (gF l) n 24000000 T (r+1) 0 { s with ch:=-1 }:=⟨hS.i.SP hS.b,hS.b⟩;refine cT (dT hlt) ⟨λ ch x w8 k=>∃ (a:Nat) (t:Lo),x=a/\a<=n/\k=n-a/\ch=t.ch/\t=SF (gF l) n (r+1) a { s with ch:=-1 }/\St w w8 (Sep (L 0 t.v t.f)),⟨n,0,_,rfl,by omega,by omega,rfl,rfl,s7⟩,?_⟩;rintro w8 k8 ch x ⟨aa,t,rfl,ha8,hk8,rfl,ht,s8⟩ -;have hSa:=hS1.SF hG g0 gb (by omega) aa ha8;rw[<- ht] at hSa
  by_cases hlt8:(aa:Int)<(n:Int)
  ·have han:aa<n:=by omega
   refine cT (dT hlt8) ⟨λ ch x w9 k=>∃ (b:Nat) (t' : Lo),x=b/\b<=n/\k=n-b/\ch=t'.ch/\t' = SG (gF l) (r+1) aa b t/\St w w9 (Sep (L 0 t'.v t'.f)),⟨n,0,t,rfl,by omega,by omega,rfl,rfl,s8⟩,?_⟩;rintro w9 k9 ch x ⟨bb,t',rfl,hb9,hk9,rfl,ht',s9⟩ -;have hIb:=hSa.i.SG g0 gb (by omega) han bb hb9;rw[<- ht'] at hIb
   by_cases hlt9:(bb:Int)<(n:Int)
   ·have hbn:bb<n:=by omega
    have xa:l[aa]?=some (l.getD aa Dr):=by rw[List.getD_eq_getElem?_getD,gE (by omega)]; rfl
    have xb:l[bb]?=some (l.getD bb Dr):=by rw[List.getD_eq_getElem?_getD,gE (by omega)]; rfl
    have s10:St w w9.drew (Sep (L 0 t'.v t'.f)):=s9.quiet (Chg.drew w9 []);obtain⟨qa,hqa,hca⟩:=(hr.aA s10.aA).at xa;obtain⟨qb,hqb,hcb⟩:=(hr.aA s10.aA).at xb;have val:∀ {w' : World} {i:Nat},i<n->St w w' (Sep (L 0 t'.v t'.f))->w'.cell? (Addr.add ⟨gv,0,none⟩ (((i:Nat):Int).toNat*1))=some (iv (t'.v i)):=λ hi s=>by
     obtain⟨q,hq,hc⟩:=iu (St.rd dB (s.out 1 rfl)) (FH t'.v hi)
     cases hq; exact hc
    refine cT (dT hlt9) ⟨λ ch w10=>ch=(L0 (gF l) (r+1) aa bb t').ch/\St w w10 (Sep (L 0 (L0 (gF l) (r+1) aa bb t').v (L0 (gF l) (r+1) aa bb t').f)),?_,?_⟩
    ·rintro w10 ch ⟨rfl,s11⟩ -;refine⟨n-(bb+1),by omega,bb+1,_,aF ⟨by omega,by omega⟩,by omega,rfl,rfl,?_,s11⟩;rw[ht']; rfl
    ·refine aq rfl ⟨by omega,by omega,_,val han s10,aq hqa ⟨by omega,by omega,(l.getD aa Dr).p,(l.getD aa Dr).want,hca,aq hqb ⟨by omega,by omega,(l.getD bb Dr).p,(l.getD bb Dr).want,hcb,an (Uc _ (ho _ (List.mem_of_getElem? xa)) (ho _ (List.mem_of_getElem? xb))) ?_⟩⟩⟩;rintro v w11 ⟨rfl,c11⟩;have s11:=s10.quiet c11;have ba:=hIb.lo aa han;have hla:=hIb.la han;have hg1:=gb aa bb han hbn;have hTa:(aa:Int)<=100:=by omega
     have ew:IntKind.i64.wrap (t'.v aa+AI (l.getD aa Dr) (l.getD bb Dr))=t'.v aa+gF l aa bb:=aF ⟨by show _<=t'.v aa+gF l aa bb; omega,by show t'.v aa+gF l aa bb<=_; omega⟩;refine⟨_,rfl,val han s11,aq rfl ⟨by omega,by omega,_,val hbn s11,?_⟩⟩;rw[ew]
     by_cases hrl:t'.v aa+gF l aa bb<t'.v bb
     ·have er:L0 (gF l) (r+1) aa bb t' = { v:=dW t'.v bb (t'.v aa+gF l aa bb),f:=dW t'.f bb aa,lr:=dW t'.lr bb (r+1),ch:=bb }:=by unfold L0; rw[if_pos hrl]
      rw[er];refine cT (dT hrl) (aq rfl ⟨by omega,by omega,?_⟩);rw[Int.toNat_natCast];refine St.kn (v:=iv) (x:=t'.v aa+gF l aa bb) rfl (s11.out 1 rfl) (i:=bb) (by rw[eP]; exact hbn) λ w12 s12=>?_;have e2:(dM t'.v n).set bb (t'.v aa+gF l aa bb)=dM (dW t'.v bb (t'.v aa+gF l aa bb)) n:=Ec _ _ _ _;rw[e2] at s12;have s13:St w w12 (Sep [cH 3 1 i1 (some ⟨gf,0,none⟩) n (dM t'.f n),cH 2 1 i1 (some ⟨gv,0,none⟩) n (dM (dW t'.v bb (t'.v aa+gF l aa bb)) n)]):=s12.back (l:=L 0 t'.v t'.f) (i:=1) (by simp[L]);refine aq rfl ⟨by omega,by omega,?_⟩;refine St.kn (v:=iv) (x:=(aa:Int)) rfl (s13.out 0 rfl) (i:=bb) (by rw[eP]; exact hbn) λ w14 s14=>⟨rfl,?_⟩;have e3:(dM t'.f n).set bb (aa:Int)=dM (dW t'.f bb aa) n:=Ec _ _ _ _;rw[e3] at s14;exact s14.back (l:=[cH 3 1 i1 (some ⟨gf,0,none⟩) n (dM t'.f n),cH 2 1 i1 (some ⟨gv,0,none⟩) n (dM (dW t'.v bb (t'.v aa+gF l aa bb)) n)]) (i:=0) (by simp)
     ·have er:L0 (gF l) (r+1) aa bb t' = t':=by unfold L0; rw[if_neg hrl]
      rw[er];exact cF (dF hrl) ⟨rfl,s11⟩
   ·obtain rfl:n=bb:=by omega
    refine cF (dF hlt9) ⟨n-(aa+1),by omega,aa+1,_,aF ⟨by omega,by omega⟩,by omega,rfl,rfl,?_,s9⟩;rw[ht',ht]; rfl
  ·obtain rfl:n=aa:=by omega
   have eR:t=SI (gF l) n (r+1) s:=ht;have hfin2:(if (SI (gF l) n (r+1) s).ch<0 then SI (gF l) n (r+1) s else Uw (gF l) n (n-(r+1)) (r+1) (SI (gF l) n (r+1) s))=lQ l:=by
    rw[<- hfin,hnr]; rfl
   rw[<- eR] at hfin2;refine cF (dF hlt8) ?_
   by_cases hc:t.ch<0
   ·rw[if_pos hc] at hfin2;refine cT (dT hc) ?_;rw[<- hfin2];exact⟨rfl,s8⟩
   ·rw[if_neg hc] at hfin2;refine cF (dF hc) ⟨n-(r+1),by omega,r+1,T+n,t,aF ⟨by omega,by omega⟩,by omega,rfl,rfl,?_,hfin2,hSa,s8⟩;rw[hT,Int.natCast_add,Int.add_mul]; omega
 ·obtain rfl:n=r:=by omega
  rw[Nat.sub_self] at hfin;have hfin:s=lQ l:=hfin;subst hfin;exact cF (dF hlt) ⟨rfl,s7⟩
def pU(l:List Ch):Bool:=l.all wJ&&decide ((lQ l).ch<0)
theorem E9{l:List Ch}:l.all wJ=true<->∀ c∈l,c.Ok:=by simp[List.all_eq_true,Fs]
theorem Lz{w:World}{a:OA}{c:Nat}{l:List Ch}(hr:zw w a l)(hl:l.length<=100) :
  CP 222 #[.slice a l.length c] w (λ r w'=>(∃ a1 l1 c1 a2 l2 c2,r=.tuple #[.agg #[.slice a1 l1 c1,.slice a2 l2 c2],.bool (pU l)])/\Chg w w' []):=by
 refine vK ?_;unfold qB;refine(St.start w).one.aB _ λ r1 w1 s1=>an (zZ (hr.aA s1.aA) (by omega)) ?_;rintro v w2 ⟨rfl,c2⟩;have s2:=s1.quiet c2;refine⟨_,rfl,?_⟩
 cases ha:l.all wJ with
 | false =>
  refine cT rfl (s2.aC 0 rfl [.slice none 0 0,.slice none 0 0] rfl (by simp[Value.oneCell']) λ w3 s3=>⟨_,_,_,_,_,_,s3.cellsIn 0 rfl,?_⟩);exact⟨⟨_,_,_,_,_,_,by rw[pU,ha]; rfl⟩,s3.aA⟩
 | true =>
  have ho:=E9.1 ha;refine cF rfl (an (KZ (hr.aA s2.aA) hl ho) ?_);rintro v w4 (⟨hc,g,cc,rfl,s4⟩|⟨hc,⟨q,m,cc,rfl⟩,c4⟩)
  ·have hcons:pU l=true:=by rw[pU,ha,dT hc]; rfl
   let L:List Int->List aG:=λ out=>[cH 2 1 i1 (some ⟨g,0,none⟩) cc out,ai r1 #[.slice none 0 0,.slice none 0 0] 292,emp];have s5:St w w4 (Sep (L (dM (lQ l).v l.length))):=(s2.and s4.first);have val:∀ {w' : World} {out:List Int} {i:Nat},out.length=l.length->i<l.length->St w w' (Sep (L out))->w'.cell? (Addr.add ⟨g,0,none⟩ (((i:Nat):Int).toNat*1))=some (iv (out.getD i 0)):=λ {w' out i} ho hi s=>by
    obtain⟨q,hq,hc⟩:=iu (St.rd dB s) (i:=i) (x:=out.getD i 0) (by rw[List.getD_eq_getElem?_getD,gE (by omega)]; rfl)
    cases hq; exact hc
   refine⟨_,_,_,_,_,_,rfl,cF rfl ⟨λ _ n w6 m=>∃ j:Nat,n=j/\j<=l.length/\m=l.length-j/\St w w6 (Sep (L (dM (lQ l).v l.length))),⟨l.length,0,rfl,by omega,by omega,s5⟩,?_⟩⟩;rintro w6 m n n2 ⟨j,rfl,hj,hm,s6⟩ -
   by_cases hlt:(j:Int)<(l.length:Int)
   ·have hx:l[j]?=some (l[j]'(by omega)):=gE (by omega);generalize l[j]'(by omega)=y at hx;obtain⟨q2,hq,hcl2⟩:=(hr.aA s6.aA).at hx;refine cT (dT hlt) (aq hq ⟨by omega,by omega,y.p,y.want,hcl2,s6.aB Dr.cells.toArray λ r2 w7 s7=>s7.aC 0 rfl y.cells rfl y.one λ w8 s8=>?_⟩);have s9:=s8.quiet (Chg.drew w8 []);have oy:=ho _ (List.mem_of_getElem? hx);have s10:St w w8.drew (Sep (L (dM (lQ l).v l.length))):=s9.ay [1,2,3];have hjl:j<l.length:=by omega
    refine⟨_,yR s9 0 rfl,_,cL s9 0 rfl,aq rfl ⟨by omega,by omega,_,val (eP _ _) hjl s10,an (jU _ oy.p oy.w) ?_⟩⟩;rintro v w11 ⟨rfl,c11⟩;have s11:=s10.quiet c11;exact⟨_,rfl,val (eP _ _) hjl s11,l.length-(j+1),by omega,j+1,aF ⟨by omega,by omega⟩,by omega,rfl,s11⟩
   ·refine cF (dF hlt) ⟨λ _ n w6 m=>∃ j:Nat,n=j/\j<=l.length/\m=l.length-j/\St w w6 (Sep (L (dM (lQ l).v l.length))),⟨l.length,0,rfl,by omega,by omega,s6⟩,?_⟩;clear s6 hlt hj hm;rintro w10 m3 n5 n6 ⟨j,rfl,hj,hm,s6⟩ -
    by_cases hlt:(j:Int)<(l.length:Int)
    ·have hx:l[j]?=some (l[j]'(by omega)):=gE (by omega);generalize l[j]'(by omega)=y at hx;have hjl:j<l.length:=by omega
     obtain⟨q2,hq,hcl2⟩:=(hr.aA s6.aA).at hx;refine cT (dT hlt) ⟨λ _ w11=>St w w11 (Sep (L (dM (lQ l).v l.length))),λ w11 n7 s11 _=>⟨l.length-(j+1),by omega,j+1,aF ⟨by omega,by omega⟩,by omega,rfl,s11⟩,?_⟩;refine aq hq ⟨by omega,by omega,y.p,y.want,hcl2,s6.aB Dr.cells.toArray λ r2 w7 s7=>s7.aC 0 rfl y.cells rfl y.one λ w8 s8=>⟨_,cL s8 0 rfl,?_⟩⟩;have s10:St w w8 (Sep (L (dM (lQ l).v l.length))):=s8.ay [1,2,3];exact cB (aq rfl ⟨by omega,by omega,_,val (eP _ _) hjl s10,s10⟩) s10
    ·refine cF (dF hlt) ⟨λ n w6 m=>∃ (j:Nat) (out:List Int),n=j/\j<=l.length/\m=l.length-j/\out.length=l.length/\St w w6 (Sep (L out)),⟨l.length,0,_,rfl,by omega,by omega,eP _ _,s6⟩,?_⟩;clear s6 hlt hj hm;rintro w14 m5 n9 ⟨j,out,rfl,hj,hm,hou,s6⟩ -
     by_cases hlt:(j:Int)<(l.length:Int)
     ·have hjl:j<l.length:=by omega
      refine cT (dT hlt) (aq rfl ⟨by omega,by omega,_,val hou hjl s6,aq rfl ⟨by omega,by omega,?_⟩⟩);rw[Int.toNat_natCast];exact St.kn (v:=iv) rfl s6 (i:=j) (by omega) λ w15 s15=>⟨l.length-(j+1),by omega,j+1,_,aF ⟨by omega,by omega⟩,by omega,rfl,by simpa using hou,s15⟩
     ·refine cF (dF hlt) ((s6.ay [1,2]).aC 0 rfl [.slice none 0 0,.slice (some ⟨g,0,none⟩) l.length cc] rfl (by simp[Value.oneCell']) λ w3 s3=>⟨_,_,_,_,_,_,s3.cellsIn 0 rfl,⟨none,0,0,_,_,_,by rw[hcons]⟩,s3.aA⟩)
  ·have s4:=s2.quiet c4;refine⟨_,_,_,_,_,_,rfl,cT rfl (s4.aC 0 rfl [.slice (some q) m cc,.slice none 0 0] rfl (by simp[Value.oneCell']) λ w3 s3=>⟨_,_,_,_,_,_,s3.cellsIn 0 rfl,⟨some q,m,cc,none,0,0,by rw[pU,ha,dF (by omega)]; rfl⟩,s3.aA⟩)⟩
theorem WB:iz prog 40 78 Dr.v 12 96:=iz.mk' underlying40 (by kernel_rfl) rfl (by decide)
theorem CF{w:World}{s:Se}{n:Int}{a:OA}{k:Nat}{l:List Ch}(hr:zw w a l)(hk:l.length<=k)(hl:l.length+1<=100)(c:Ch) :
  CP 190 #[.agg (LV s n a k l).toArray,c.v] w (λ r w'=>r=.bool (pU (l++[c]))/\Chg w w' []):=by
 refine jL ?_;unfold fH;refine(St.start w).one.aB (LV s n a k l).toArray λ r1 w1 s1=>s1.aB c.cells.toArray λ r2 w2 s2=>⟨λ b w3=>b=pU (l++[c])/\Chg w w3 [],?_,?_⟩
 ·rintro w3 b ⟨rfl,hc⟩;exact λ _=>⟨rfl,hc⟩
 have s3:=s2.quiet (Chg.drew w2 []);have app:∀ {w' : World} {r:Nat} {B:List aG} {R:Option Addr->Nat->Nat->World->Prop},St w w' (Sep (ai r c.cells.toArray 78 :: B))->(∀ a' c' w2,St w w2 (star (cH 78 12 Ch.cells a' c' (l++[c])) (Sep (ai r c.cells.toArray 78 :: B)))->R a' (l++[c]).length c' w2) ->
   bp prog (Builtin.append_ #[40,40] 40 #[.slice (if (((l.length:Nat):Int)).toNat=0 then a else Option.map (λ x=>Addr.add x (0*12)) a) ((((l.length:Nat):Int)).toNat-0) ((((l.length:Nat):Int)).toNat-0),.slice (some ⟨r,0,none⟩) 1 1]) w' λ e w2=>∃ a l c,e=.slice a l c/\R a l c w2:=by
  intro w' r B R sB hR;rw[Int.toNat_natCast,TG,Nat.sub_zero];refine Kx WB Ch.len c.one sB (hr.aA sB.aA) (λ j u hj=>?_) (by omega) (by omega) hR;rw[sB.ag 0 rfl]; simpa using hj
 have fin:∀ {w' : World} {B:List aG} {a' : OA} {c' : Nat},St w w' (star (cH 78 12 Ch.cells a' c' (l++[c])) (Sep B)) ->
   CC 222 #[.slice a' (l++[c]).length c'] w' (RetC λ r w2=>(∃ a1 l1 c1 a2 l2 c2,r=.tuple #[.agg #[.slice a1 l1 c1,.slice a2 l2 c2],.bool (pU (l++[c]))])/\Chg w' w2 []):=λ s=>Lz (St.rd Ch.len s) (by simpa using hl)
 let Wn:Array Value:=#[.slice none 0 0,.slice none 0 0];refine⟨_,_,_,s3.ag 1 rfl 5,_,_,_,s3.ag 1 rfl 5,_,_,_,s3.ag 1 rfl 5,by omega,by omega,by omega,by omega,c.p,c.want,s3.cellsIn 0 rfl,?_,?_⟩
 ·refine s3.aB c.cells.toArray λ r3 w4 s4=>⟨s4.ag 2 rfl 5,s4.ag 2 rfl 5,s4.ag 2 rfl 5,app s4 λ a' c' w5 s5=>⟨an (fin s5) ?_,?_⟩,?_⟩
  ·rintro v w6 ⟨⟨a1,l1,c1,a2,l2,c2,rfl⟩,c6⟩;exact⟨_,_,_,_,_,_,_,rfl,(St.start' (s5.aA.trans c6 (by simp))).one.aB Wn λ r4 w7 s7=>s7.aC 0 rfl [.slice a1 l1 c1,.slice a2 l2 c2] rfl (by simp[Value.oneCell']) λ w8 s8=>⟨rfl,s8.aA⟩⟩
  ·refine s5.first.one.aB Wn λ r5 w9 s9=>an (fin (s9.ay [1,0])) ?_;rintro v w6 ⟨⟨a1,l1,c1,a2,l2,c2,rfl⟩,c6⟩;exact⟨_,_,_,_,_,_,_,rfl,(s9.quiet c6).aC 0 rfl [.slice a1 l1 c1,.slice a2 l2 c2] rfl (by simp[Value.oneCell']) λ w8 s8=>⟨rfl,s8.aA⟩⟩
  ·refine s4.aB Wn λ r6 w12 s12=>⟨s12.ag 3 rfl 5,s12.ag 3 rfl 5,s12.ag 3 rfl 5,app (s12.ay [1,0]) λ a' c' w13 s13=>an (fin s13) ?_⟩;rintro v w6 ⟨⟨a1,l1,c1,a2,l2,c2,rfl⟩,c6⟩;exact⟨_,_,_,_,_,_,_,rfl,(s13.quiet c6).second.aC 1 rfl [.slice a1 l1 c1,.slice a2 l2 c2] rfl (by simp[Value.oneCell']) λ w8 s8=>⟨rfl,s8.aA⟩⟩
 ·refine s3.aB Wn λ r7 w16 s16=>⟨s16.cellsIn 1 rfl,s16.ag 2 rfl 5,s16.ag 2 rfl 5,s16.ag 2 rfl 5,s16.aB c.cells.toArray λ r8 w17 s17=>⟨s17.ag 3 rfl 5,s17.ag 3 rfl 5,s17.ag 3 rfl 5,app s17 λ a' c' w18 s18=>an (fin s18) ?_⟩⟩;rintro v w6 ⟨⟨a1,l1,c1,a2,l2,c2,rfl⟩,c6⟩;exact⟨_,_,_,_,_,_,_,rfl,(s18.quiet c6).second.aC 1 rfl [.slice a1 l1 c1,.slice a2 l2 c2] rfl (by simp[Value.oneCell']) λ w8 s8=>⟨rfl,s8.aA⟩⟩
theorem KO{w:World}{s:Se}(h:L5 w s){n:Nat}{b:Br}(hb:s.bd[n]?=some b){a:OA}{k:Nat}{l:List Ch}(hr:zw w a l)(hk:l.length<=k)(hl:l.length+1<=100)(ho:∀ c∈l,c.Ok){c:Ch}(hc:c.Ok) :
  CP 191 #[.agg (LV s n a k l).toArray,c.v] w (λ r w'=>r=.bool (FK s b l c||pU (l++[c]))/\Chg w w' []):=by
 refine jM ?_;unfold fI;refine(St.start w).one.aB (LV s n a k l).toArray λ r1 w1 s1=>s1.aB c.cells.toArray λ r2 w2 s2=>?_;refine⟨_,_,_,_,_,_,_,_,_,_,_,_,_,_,_,_,s2.cellsIn 1 rfl,c.p,c.want,s2.cellsIn 0 rfl,an (Jw (h.aA s2.aA) hb (hr.aA s2.aA) (by omega) ho hc) ?_⟩;rintro v w3 ⟨rfl,c3⟩;have s3:=s2.quiet c3;refine⟨_,rfl,?_⟩
 cases hf:FK s b l c with
 | true=>exact cT rfl ⟨rfl,s3.aA⟩
 | false =>
  refine cF rfl ⟨_,_,_,_,_,_,_,_,_,_,_,_,_,_,_,_,s3.cellsIn 1 rfl,c.p,c.want,s3.cellsIn 0 rfl,an (CF (hr.aA s3.aA) hk hl c) ?_⟩;rintro v w4 ⟨rfl,c4⟩;exact⟨_,rfl,rfl,(s3.quiet c4).aA⟩
def JZ(rule:Int)(s:Se)(b:Br)(l:List Ch)(c:Ch):Bool:=if rule=1 then FK s b l c else if rule=2 then pU (l++[c]) else FK s b l c||pU (l++[c])
def Hq(rule:Int)(s:Se)(b:Br)(l:List Ch)(c:Ch):Int :=
 if 1<=rule/\rule<=3 then (if (if Cx l then decide (c.want=z6) else JZ rule s b l c) then 0 else 15) else 4
theorem L6{w:World}{s:Se}(h:L5 w s){n:Nat}{b:Br}(hb:s.bd[n]?=some b){a:OA}{k:Nat}{l:List Ch}(hr:zw w a l)(hk:l.length<=k)(hl:l.length+1<=100)(ho:∀ c∈l,c.Ok){c:Ch}(hc:c.Ok)(rule:Int) :
  CP 166 #[.agg s.arr,iv rule,iv n,.slice a l.length k,c.v] w (λ r w'=>r=iv (Hq rule s b l c)/\Chg w w' []):=by
 refine tC ?_;unfold om;refine(St.start w).one.aB s.arr λ r1 w1 s1=>s1.aB c.cells.toArray λ r2 w2 s2=>⟨_,_,_,_,_,_,_,_,_,_,_,_,s2.cellsIn 1 rfl,s2.aB #[.slice none 0 0,.slice none 0 0,.slice none 0 0,.slice none 0 0,iv 0,.slice none 0 0] λ r3 w3 s3=>s3.aC 0 rfl (LV s n a k l) rfl (by simp[LV,Value.oneCell']) λ w4 s4=>?_⟩;have hn:n<s.bd.length:=(List.getElem?_eq_some_iff.1 hb).1;let Acc (x:Bool) (v:Value):Prop:=∀ (w' : World) (R:Ending->World->Prop),Chg w w' []->(∀ w'',Chg w' w'' []->R (.returned (.bool x)) w'')->cO prog v #[c.v] w' R;refine⟨_,_,_,_,_,_,_,_,_,_,_,_,_,_,_,_,s4.cellsIn 0 rfl,λ v w5=>(1<=rule/\rule<=3)/\Acc (JZ rule s b l c) v/\St w w5 (Sep [ai r2 c.cells.toArray 78,ai r1 s.arr 34,emp]),?_,?_⟩
 ·rintro w5 v ⟨hru,hv,s5⟩ -;refine⟨_,_,_,_,_,_,_,_,_,_,_,_,s5.cellsIn 1 rfl,an (M8 (n:Int)) ?_⟩;rintro r w6 ⟨rfl,c6⟩;have s6:=s5.quiet c6;refine⟨_,rfl,cF (by simp; omega) ⟨_,cL s6 0 rfl,an (de w6 c.want) ?_⟩⟩;rintro r w7 ⟨rfl,c7⟩;have s7:=s6.quiet c7;have h0:c.want.l.all nN=true:=by
   have:=Fs.2 hc;rw[wJ,Bool.and_eq_true] at this; exact this.2
  rw[h0];refine⟨_,rfl,cF rfl ⟨λ v w8=>Acc (if Cx l then decide (c.want=z6) else JZ rule s b l c) v/\St w w8 (Sep [ai r2 c.cells.toArray 78,ai r1 s.arr 34,emp]),?_,an (MG (hr.aA s7.aA) (by omega)) ?_⟩⟩
  ·rintro w8 v2 ⟨hv2,s8⟩ -;refine⟨_,_,s8.cellsIn 0 rfl,hv2 _ _ s8.aA λ w9 c9=>⟨_,rfl,?_⟩⟩
   cases hx:(if Cx l then decide (c.want=z6) else JZ rule s b l c) with
   | false=>exact cT rfl ⟨by rw[Hq,if_pos hru,hx]; rfl,(s8.quiet c9).aA⟩
   | true=>exact cF rfl ⟨by rw[Hq,if_pos hru,hx]; rfl,(s8.quiet c9).aA⟩
  ·rintro r w8 ⟨rfl,rfl⟩;refine⟨_,rfl,?_⟩
   cases he:Cx l with
   | false=>exact cF rfl ⟨hv,s7⟩
   | true =>
    refine cT rfl ⟨?_,s7⟩;intro w' R _ k;refine br (by kernel_rfl) (an (K:=λ r w''=>r=.bool (decide (c.want=z6))/\Chg w' w'' []) (pE ?_) ?_)
    ·unfold kL;exact(St.start w').one.aB c.cells.toArray λ r2 w2 s2=>⟨_,cL s2 0 rfl,by rw[I6.beq_eq],s2.aA⟩
    ·rintro r w'' ⟨rfl,hc⟩; exact k w'' hc
 ·have s5:St w w4 (Sep [ai r2 c.cells.toArray 78,ai r1 s.arr 34,emp]):=s4.ay [1,2,3]
  by_cases h1:rule=1
  ·subst h1;refine cT rfl ⟨⟨by omega,by omega⟩,?_,s5⟩;intro w' R hw' k;refine br (by kernel_rfl) (an (Jw (h.aA hw') hb (hr.aA hw') (by omega) ho hc) ?_);rintro r w'' ⟨rfl,hc⟩; exact k w'' hc
  refine cF (by simpa using h1) ?_
  by_cases h2:rule=2
  ·subst h2;refine cT rfl ⟨_,_,_,_,_,_,_,_,_,_,_,_,_,_,_,_,s4.cellsIn 0 rfl,⟨by omega,by omega⟩,?_,s5⟩;intro w' R hw' k;refine br (by kernel_rfl) (an (CF (hr.aA hw') hk hl c) ?_);rintro r w'' ⟨rfl,hc⟩; exact k w'' hc
  refine cF (by simpa using h2) ?_
  by_cases h3:rule=3
  ·subst h3;refine cT rfl ⟨_,_,_,_,_,_,_,_,_,_,_,_,_,_,_,_,s4.cellsIn 0 rfl,⟨by omega,by omega⟩,?_,s5⟩;intro w' R hw' k;refine br (by kernel_rfl) (an (KO (h.aA hw') hb (hr.aA hw') hk hl ho hc) ?_);rintro r w'' ⟨rfl,hc⟩; exact k w'' hc
  exact cF (by simpa using h3) ⟨by rw[Hq,if_neg (by omega)],s5.aA⟩
def kS(a:Nat)(w:World)(K:KP):=∃ b c d,w.cell? (qd a 8)=some (.slice b c d)/\K (iv (c:Int)) w
theorem pQ{b1 w K}(h:kS b1 w K):CP 19 #[.pointer (some ⟨b1,0,none⟩)] w K:=ah (aE []) func19 (by kernel_rfl) (by kernel_rfl) h
def jS(a:Nat)(w:World)(K:KP):=av w (.cells z6.vs.toArray 37) λ b c=>∃ d:I6,af c (qd a 9) 0 d.vs/\aK (qd b 0) 0 d.vs c λ a=>∃ c:I6,af a (qd b 0) 0 c.vs/\K (.agg c.vs.toArray) a
theorem oQ{b1 w K}(h:jS b1 w K):CP 20 #[.pointer (some ⟨b1,0,none⟩)] w K:=ah (aE []) func20 (by kernel_rfl) (by kernel_rfl) h
def eI(a:Nat)(b:Int)(w:World)(K:KP):=∃ c:Bool->qW,(∀ d e,c e d->∀ f:qv,cond e (K qn d) (∃ e f g,d.cell? (qd a 8)=some (.slice e f g)/\∃ g:OA->Nat->Nat->Int->qN,(∃ h,g none 0 0 0 d h)/\∀ d h i j k l,g i j k l d h->∀ m:qv,cond (decide (l<(f:Int))) (au e λ e=>0<=l/\l<(f:Int)/\∃ f:I6,∃ m n o p q r s t u,af d (Addr.add e ((l).toNat*9)) 0 (f.on [.slice m n o,.slice p q r,.slice s t u])/\av d (.cells #[qz,qz,qz,qz,qz,qz,qn,qn,qn] 118) λ e v=>aK (qd e 0) 0 (f.on [.slice m n o,.slice p q r,.slice s t u]) v λ f=>∃ m:I6,af f.drew (qd e 0) 0 m.vs/\∃ n o p,f.drew.cell? (qd e 6)=some (.slice n o p)/\au n λ e=>0<=b/\b<(o:Int)/\∃ n:I6,af f.drew (Addr.add e ((b).toNat*6)) 0 n.vs/\av f.drew (.cells (m.on (n.vs):List Value).toArray 78) λ e f=>bp prog (Builtin.append_ #[40,40] 40 #[.slice i j k,.slice (some (qd e 0)) 1 1]) f λ e f=>∃ m n o,e=(.slice m n o)/\∃ e,e<h/\g m n o (IntKind.i64.wrap (l+1)) f e) (K (.slice i j k) d)))/\CC 52 #[qp a,iv b] w λ a b=>∃ d,a=.returned (.bool d)/\c (!d) b
theorem fV{b1 n1 w K}(h:eI b1 n1 w K):CP 24 #[.pointer (some ⟨b1,0,none⟩),iv n1] w K:=ah (aE [(6,[(15,.s .bool)]),(122,[(5,.s .slice),(21,.s (.int .i64))])]) func24 (by kernel_rfl) (by kernel_rfl) h
def mg(a:Nat)(w:World)(K:KP):=∃ b c d e f g h i j k l m n o p q r s t,∃ u:I6,∃ v x y z A B C D E F,af w (qd a 0) 0 (.slice b c d :: .slice e f g :: .slice h i j :: .slice k l m :: iv n :: iv o :: iv p :: iv q :: .slice r s t :: u.on [.slice v x y,.slice z A B,.slice C D E,.bool F])/\av w (.cells #[qn,qn,qn,qn,qz,qz,qz,qz,qn,qz,qz,qz,qz,qz,qz,qn,qn,qn,.bool false] 115) λ G H=>aK (qd G 0) 0 (.slice b c d :: .slice e f g :: .slice h i j :: .slice k l m :: iv n :: iv o :: iv p :: iv q :: .slice r s t :: u.on [.slice v x y,.slice z A B,.slice C D E,.bool F]) H λ b=>∃ c d e f g h i j k l m n,af b (qd a 0) 0 [.slice c d e,.slice f g h,.slice i j k,.slice l m n]/\CC 73 #[.agg #[.slice c d e,.slice f g h,.slice i j k,.slice l m n]] b λ b c=>∃ d e f g h i j k l m n o,b=.returned (.agg #[.slice d e f,.slice g h i,.slice j k l,.slice m n o])/\CC 51 #[qp a] c λ b c=>∃ p q r,b=.returned (.slice p q r)/\aK (qd G 0) 0 [.slice d e f,.slice g h i,.slice j k l,.slice m n o] c λ b=>aQ b (qd G 8) (.slice p q r) λ b=>∃ c d e,b.drew.cell? (qd a 15)=some (.slice c d e)/\∃ f g h,b.drew.cell? (qd a 16)=some (.slice f g h)/\∃ i j k,b.drew.cell? (qd a 17)=some (.slice i j k)/\CC 74 #[.slice c d e] b.drew λ b c=>∃ d e l,b=.returned (.slice d e l)/\c.cell? (qd a 17)=some (.slice i j k)/\c.cell? (qd a 16)=some (.slice f g h)/\CC 75 #[.slice f g h] c λ b c=>∃ f g h,b=.returned (.slice f g h)/\c.cell? (qd a 17)=some (.slice i j k)/\CC 75 #[.slice i j k] c λ a b=>∃ c i j,a=.returned (.slice c i j)/\aQ b (qd G 15) (.slice d e l) λ a=>aQ a (qd G 16) (.slice f g h) λ a=>aQ a (qd G 17) (.slice c i j) λ a=>K (qp G) a
theorem rX{b1 w K}(h:mg b1 w K):CP 49 #[.pointer (some ⟨b1,0,none⟩)] w K:=ah (aE []) func49 (by kernel_rfl) (by kernel_rfl) h
def fm(a:Nat)(w:World)(K:KP):=∃ b c d,w.cell? (qd a 8)=some (.slice b c d)/\CC 77 #[.slice b c d,.func (.func 78) #[] #[]] w λ a b=>∃ c d e,a=.returned (.slice c d e)/\K (.slice c d e) b
theorem gM{b1 w K}(h:fm b1 w K):CP 51 #[.pointer (some ⟨b1,0,none⟩)] w K:=ah (aE []) func51 (by kernel_rfl) (by kernel_rfl) h
def ox(a:Nat)(b:Int)(w:World)(K:KP):=cond (decide (b>=0)) (∃ c d e,w.cell? (qd a 17)=some (.slice c d e)/\K (.bool (decide (b<(d:Int)))) w) (K (.bool false) w)
theorem tN{b1 n1 w K}(h:ox b1 n1 w K):CP 52 #[.pointer (some ⟨b1,0,none⟩),iv n1] w K:=ah (aE []) func52 (by kernel_rfl) (by kernel_rfl) h
def xU(a:OA)(b c:Nat)(d:OA)(e f:Nat)(g:OA)(h i:Nat)(j:OA)(k l:Nat)(w:World)(K:KP):=av w (.cells #[.slice a b c,.slice d e f,.slice g h i,.slice j k l] 34) λ a b=>av b (.cells #[qn,qn,qn,qn] 34) λ b c=>∃ d e f,c.drew.cell? (qd a 0)=some (.slice d e f)/\∃ g h i,c.drew.cell? (qd a 1)=some (.slice g h i)/\∃ j k l,c.drew.cell? (qd a 2)=some (.slice j k l)/\∃ m n o,c.drew.cell? (qd a 3)=some (.slice m n o)/\CC 35 #[.slice d e f] c.drew λ c d=>∃ e f p,c=.returned (.slice e f p)/\d.cell? (qd a 3)=some (.slice m n o)/\d.cell? (qd a 2)=some (.slice j k l)/\d.cell? (qd a 1)=some (.slice g h i)/\CC 36 #[.slice g h i] d λ c d=>∃ g h i,c=.returned (.slice g h i)/\d.cell? (qd a 3)=some (.slice m n o)/\d.cell? (qd a 2)=some (.slice j k l)/\CC 37 #[.slice j k l] d λ c d=>∃ j k l,c=.returned (.slice j k l)/\d.cell? (qd a 3)=some (.slice m n o)/\CC 38 #[.slice m n o] d λ a c=>∃ d m n,a=.returned (.slice d m n)/\aK (qd b 0) 0 [.slice e f p,.slice g h i,.slice j k l,.slice d m n] c λ a=>∃ c d e f g h i j k l m n,af a (qd b 0) 0 [.slice c d e,.slice f g h,.slice i j k,.slice l m n]/\K (.agg #[.slice c d e,.slice f g h,.slice i j k,.slice l m n]) a
theorem Ap{a1 l1 c1 a2 l2 c2 a3 l3 c3 a4 l4 c4 w K}(h:xU a1 l1 c1 a2 l2 c2 a3 l3 c3 a4 l4 c4 w K):CP 73 #[.agg #[.slice a1 l1 c1,.slice a2 l2 c2,.slice a3 l3 c3,.slice a4 l4 c4]] w K:=ah (aE []) func73 (by kernel_rfl) (by kernel_rfl) h
def jl(a:OA)(b c:Nat)(w:World)(K:KP):=bp prog (Instr.makeSlice 41 (iv (b:Int)) (iv (b:Int))) w λ d e=>∃ f g h,d=(.slice f g h)/\bp prog (Builtin.copy_ #[41,41] 3 #[.slice f g h,.slice a b c]) e λ _e1 a=>K (.slice f g h) a
theorem nv{a1 l1 c1 w K}(h:jl a1 l1 c1 w K):CP 74 #[.slice a1 l1 c1] w K:=ah (aE []) func74 (by kernel_rfl) (by kernel_rfl) h
def kU(a:OA)(b c:Nat)(w:World)(K:KP):=bp prog (Instr.makeSlice 113 (iv (b:Int)) (iv (b:Int))) w λ d e=>∃ f g h,d=(.slice f g h)/\bp prog (Builtin.copy_ #[113,113] 3 #[.slice f g h,.slice a b c]) e λ _e1 a=>K (.slice f g h) a
theorem pS{a1 l1 c1 w K}(h:kU a1 l1 c1 w K):CP 75 #[.slice a1 l1 c1] w K:=ah (aE []) func75 (by kernel_rfl) (by kernel_rfl) h
def gZ(a:OA)(b c:Nat)(d:Value)(w:World)(K:KP):=∃ c:OA->Nat->Nat->Int->qN,(∃ e,c none 0 0 0 w e)/\∀ f e g h i j,c g h i j f e->∀ k:qv,cond (decide (j<(b:Int))) (au a λ a=>0<=j/\j<(b:Int)/\∃ b:I6,∃ k l m n o p q r s,af f (Addr.add a ((j).toNat*9)) 0 (b.on [.slice k l m,.slice n o p,.slice q r s])/\av f (.cells #[qz,qz,qz,qz,qz,qz,qn,qn,qn] 118) λ a t=>aK (qd a 0) 0 (b.on [.slice k l m,.slice n o p,.slice q r s]) t λ b=>∃ k:I6,∃ l m n o p q r s t,af b (qd a 0) 0 (k.on [.slice l m n,.slice o p q,.slice r s t])/\cO prog d #[.agg (k.on [.slice l m n,.slice o p q,.slice r s t]:List Value).toArray] b λ a b=>∃ d:I6,∃ k l m n o p q r s,a=.returned (.agg (d.on [.slice k l m,.slice n o p,.slice q r s]:List Value).toArray)/\av b (.cells (d.on [.slice k l m,.slice n o p,.slice q r s]:List Value).toArray 118) λ a b=>bp prog (Builtin.append_ #[112,112] 112 #[.slice g h i,.slice (some (qd a 0)) 1 1]) b λ a b=>∃ d k l,a=(.slice d k l)/\∃ a,a<e/\c d k l (IntKind.i64.wrap (j+1)) b a) (K (.slice g h i) f)
theorem jm{a1 l1 c1 v1 w K}(h:gZ a1 l1 c1 v1 w K):CP 77 #[.slice a1 l1 c1,v1] w K:=ah (aE [(58,[(5,.s .slice),(10,.s (.int .i64))])]) func77 (by kernel_rfl) (by kernel_rfl) h
def fo(a:I6)(b:OA)(c d:Nat)(e:OA)(f g:Nat)(h:OA)(i j:Nat)(w:World)(K:KP):=av w (.cells (a.on [.slice b c d,.slice e f g,.slice h i j]:List Value).toArray 118) λ a b=>av b (.cells #[qz,qz,qz,qz,qz,qz,qn,qn,qn] 118) λ b c=>∃ d e f,c.drew.cell? (qd a 6)=some (.slice d e f)/\∃ g h i,c.drew.cell? (qd a 7)=some (.slice g h i)/\∃ j k l,c.drew.cell? (qd a 8)=some (.slice j k l)/\CC 74 #[.slice d e f] c.drew λ c d=>∃ e f m,c=.returned (.slice e f m)/\d.cell? (qd a 8)=some (.slice j k l)/\d.cell? (qd a 7)=some (.slice g h i)/\CC 74 #[.slice g h i] d λ c d=>∃ g h i,c=.returned (.slice g h i)/\d.cell? (qd a 8)=some (.slice j k l)/\CC 75 #[.slice j k l] d λ c d=>∃ j k l,c=.returned (.slice j k l)/\aQ d (qd a 6) (.slice e f m) λ c=>aQ c (qd a 7) (.slice g h i) λ c=>aQ c (qd a 8) (.slice j k l) λ c=>∃ d:I6,∃ e f g h i j k l m,af c (qd a 0) 0 (d.on [.slice e f g,.slice h i j,.slice k l m])/\aK (qd b 0) 0 (d.on [.slice e f g,.slice h i j,.slice k l m]) c λ a=>∃ c:I6,∃ d e f g h i j k l,af a (qd b 0) 0 (c.on [.slice d e f,.slice g h i,.slice j k l])/\K (.agg (c.on [.slice d e f,.slice g h i,.slice j k l]:List Value).toArray) a
theorem gN{u1 a1 l1 c1 a2 l2 c2 a3 l3 c3 w K}(h:fo u1 a1 l1 c1 a2 l2 c2 a3 l3 c3 w K):CP 78 #[.agg (u1.on [.slice a1 l1 c1,.slice a2 l2 c2,.slice a3 l3 c3]:List Value).toArray] w K:=ah (aE []) func78 (by kernel_rfl) (by kernel_rfl) h
def Cq(a:OA)(b c:Nat)(d:OA)(e f:Nat)(g:OA)(h i:Nat)(j:OA)(k l:Nat)(m n o p:Int)(w:World)(K:KP):=av w (.cells #[.slice a b c,.slice d e f,.slice g h i,.slice j k l] 34) λ a b=>av b (.cells #[iv m,iv n,iv o,iv p] 23) λ b c=>∃ d e f g h i j k l m n o,af c (qd a 0) 0 [.slice d e f,.slice g h i,.slice j k l,.slice m n o]/\CC 53 #[.agg #[.slice d e f,.slice g h i,.slice j k l,.slice m n o]] c λ c d=>∃ e,c=.returned (iv e)/\cond (e !=0) (K (.tuple #[.pointer none,iv e]) d) (∃ c e f g,af d (qd b 0) 0 [iv c,iv e,iv f,iv g]/\CC 134 #[.agg #[iv c,iv e,iv f,iv g]] d λ c d=>∃ e,c=.returned (iv e)/\cond (e !=0) (K (.tuple #[.pointer none,iv e]) d) (∃ c:OA->qW,(∀ e f,c f e->∀ g:qv,CC 163 #[.pointer f] e λ e g=>e=.returned (.tuple #[])/\K (.tuple #[.pointer f,qz]) g)/\∃ e f g h i j k l m n o p,af d.drew (qd a 0) 0 [.slice e f g,.slice h i j,.slice k l m,.slice n o p]/\∃ q r s t,af d.drew (qd b 0) 0 [iv q,iv r,iv s,iv t]/\∃ u v x,d.drew.cell? (qd a 0)=some (.slice u v x)/\∃ y z A,d.drew.cell? (qd a 1)=some (.slice y z A)/\(CC 73 #[.agg #[.slice e f g,.slice h i j,.slice k l m,.slice n o p]] d.drew λ B C=>∃ D E F G H I J L M N O P,B=.returned (.agg #[.slice D E F,.slice G H I,.slice J L M,.slice N O P])/\C.cell? (qd a 1)=some (.slice y z A)/\C.cell? (qd a 0)=some (.slice u v x)/\af C (qd b 0) 0 [iv q,iv r,iv s,iv t]/\(CC 162 #[.slice u v x] C λ B Q=>∃ R:I6,B=.returned (.agg R.vs.toArray)/\Q.cell? (qd a 1)=some (.slice y z A)/\af Q (qd b 0) 0 [iv q,iv r,iv s,iv t]/\bp prog (Instr.makeSlice 113 (iv (z:Int)) (iv (z:Int))) Q λ y A=>∃ B Q S,y=(.slice B Q S)/\af A (qd b 0) 0 [iv q,iv r,iv s,iv t]/\av A (.cells (.slice D E F :: .slice G H I :: .slice J L M :: .slice N O P :: iv q :: iv r :: iv s :: iv t :: qn :: R.on [qn,qn,.slice B Q S,.bool false]:List Value).toArray 115) λ y A=>c (some (qd y 0)) A)/\bp prog (Instr.makeSlice 113 (iv (z:Int)) (iv (z:Int))) C λ y A=>∃ B C Q,y=(.slice B C Q)/\A.cell? (qd a 0)=some (.slice u v x)/\af A (qd b 0) 0 [iv q,iv r,iv s,iv t]/\CC 162 #[.slice u v x] A λ y A=>∃ R:I6,y=.returned (.agg R.vs.toArray)/\af A (qd b 0) 0 [iv q,iv r,iv s,iv t]/\av A (.cells (.slice D E F :: .slice G H I :: .slice J L M :: .slice N O P :: iv q :: iv r :: iv s :: iv t :: qn :: R.on [qn,qn,.slice B C Q,.bool false]:List Value).toArray 115) λ y A=>c (some (qd y 0)) A)/\bp prog (Instr.makeSlice 113 (iv (z:Int)) (iv (z:Int))) d.drew λ d y=>∃ z A B,d=(.slice z A B)/\y.cell? (qd a 0)=some (.slice u v x)/\af y (qd b 0) 0 [iv q,iv r,iv s,iv t]/\af y (qd a 0) 0 [.slice e f g,.slice h i j,.slice k l m,.slice n o p]/\CC 73 #[.agg #[.slice e f g,.slice h i j,.slice k l m,.slice n o p]] y λ d e=>∃ f g h i j k l m n o p y,d=.returned (.agg #[.slice f g h,.slice i j k,.slice l m n,.slice o p y])/\e.cell? (qd a 0)=some (.slice u v x)/\af e (qd b 0) 0 [iv q,iv r,iv s,iv t]/\CC 162 #[.slice u v x] e λ a d=>∃ e:I6,a=.returned (.agg e.vs.toArray)/\af d (qd b 0) 0 [iv q,iv r,iv s,iv t]/\av d (.cells (.slice f g h :: .slice i j k :: .slice l m n :: .slice o p y :: iv q :: iv r :: iv s :: iv t :: qn :: e.on [qn,qn,.slice z A B,.bool false]:List Value).toArray 115) λ a b=>c (some (qd a 0)) b))
theorem DL{a1 l1 c1 a2 l2 c2 a3 l3 c3 a4 l4 c4 n1 n2 n3 n4 w K}(h:Cq a1 l1 c1 a2 l2 c2 a3 l3 c3 a4 l4 c4 n1 n2 n3 n4 w K):CP 136 #[.agg #[.slice a1 l1 c1,.slice a2 l2 c2,.slice a3 l3 c3,.slice a4 l4 c4],.agg #[iv n1,iv n2,iv n3,iv n4]] w K:=ah (aE [(15,[(8,.s .ptr)])]) func136 (by kernel_rfl) (by kernel_rfl) h
def ou(a:Nat)(b:Int)(c:I6)(w:World)(K:KP):=av w (.cells c.vs.toArray 39) λ c d=>∃ e,d.cell? (qd a 18)=some (.bool e)/\cond e (K (iv 10) d) (CC 52 #[qp a,iv b] d λ d e=>∃ f,d=.returned (.bool f)/\cond (!f) (K (iv 6) e) (∃ d f g,e.cell? (qd a 17)=some (.slice d f g)/\au d λ d=>0<=b/\b<(f:Int)/\∃ f,e.cell? (Addr.add d ((b).toNat*1))=some (.bool f)/\cond f (K (iv 10) e) (∃ d:I6,af e.drew (qd a 9) 0 d.vs/\∃ f:I6,af e.drew (qd c 0) 0 f.vs/\av e.drew (.cells #[qz,qz,qz,qz,qz,qz,qz,qz,qz,qz,qz,qz] 78) λ e g=>af g (qd c 0) 0 f.vs/\af g (qd a 9) 0 d.vs/\aK (qd e 0) 0 (d.on (f.vs)) g λ d=>∃ f g h i j k l m n o p q,af d.drew (qd a 0) 0 [.slice f g h,.slice i j k,.slice l m n,.slice o p q]/\∃ r:I6,af d.drew (qd c 0) 0 r.vs/\CC 164 #[.agg #[.slice f g h,.slice i j k,.slice l m n,.slice o p q],iv b,.agg r.vs.toArray] d.drew λ d f=>∃ g,d=.returned (iv g)/\cond (g !=0) (K (iv g) f) (∃ d g h i j k l m n o p q,af f.drew (qd a 0) 0 [.slice d g h,.slice i j k,.slice l m n,.slice o p q]/\∃ r s:I6,af f.drew (qd e 0) 0 (r.on (s.vs))/\CC 165 #[.agg #[.slice d g h,.slice i j k,.slice l m n,.slice o p q],iv b,.agg (r.on (s.vs):List Value).toArray] f.drew λ d f=>∃ g,d=.returned (iv g)/\cond (g !=0) (K (iv g) f) (∃ d g h i j k l m n o p q,af f.drew (qd a 0) 0 [.slice d g h,.slice i j k,.slice l m n,.slice o p q]/\∃ r,f.drew.cell? (qd a 7)=some (iv r)/\∃ s t:I6,af f.drew (qd e 0) 0 (s.on (t.vs))/\CC 24 #[qp a,iv b] f.drew λ f u=>∃ v x y,f=.returned (.slice v x y)/\af u (qd e 0) 0 (s.on (t.vs))/\u.cell? (qd a 7)=some (iv r)/\af u (qd a 0) 0 [.slice d g h,.slice i j k,.slice l m n,.slice o p q]/\CC 166 #[.agg #[.slice d g h,.slice i j k,.slice l m n,.slice o p q],iv r,iv b,.slice v x y,.agg (s.on (t.vs):List Value).toArray] u λ d e=>∃ f,d=.returned (iv f)/\cond (f !=0) (K (iv f) e) (∃ d f g,e.drew.cell? (qd a 15)=some (.slice d f g)/\∃ g h i,e.drew.cell? (qd a 16)=some (.slice g h i)/\∃ a:I6,af e.drew (qd c 0) 0 a.vs/\au d λ c=>0<=b/\b<(f:Int)/\aK (Addr.add c ((b).toNat*6)) 0 a.vs e.drew λ a=>au g λ c=>0<=b/\b<(h:Int)/\aQ a (Addr.add c ((b).toNat*1)) (.bool true) λ a=>K qz a))))))
theorem tM{b1 n1 u1 w K}(h:ou b1 n1 u1 w K):CP 137 #[.pointer (some ⟨b1,0,none⟩),iv n1,.agg u1.vs.toArray] w K:=ah (aE []) func137 (by kernel_rfl) (by kernel_rfl) h
def kP(a:Nat)(w:World)(K:KP):=∃ b,w.cell? (qd a 18)=some (.bool b)/\cond b (K (.tuple #[.bool false,iv 10]) w) (∃ b c d,w.cell? (qd a 0)=some (.slice b c d)/\CC 42 #[.slice b c d] w λ b c=>∃ d:I6,b=.returned (.agg d.vs.toArray)/\av c (.cells z6.vs.toArray 39) λ b c=>aK (qd b 0) 0 d.vs c λ c=>∃ d e f,c.cell? (qd a 15)=some (.slice d e f)/\CC 74 #[.slice d e f] c λ c d=>∃ e f g,c=.returned (.slice e f g)/\∃ c:OA->Nat->Nat->qW,(∀ h i j k,c i j k h->∀ l:qv,∃ l m n,h.drew.cell? (qd a 8)=some (.slice l m n)/\∃ o:I6,af h.drew (qd a 9) 0 o.vs/\∃ p q r,h.drew.cell? (qd a 15)=some (.slice p q r)/\∃ s t u,h.drew.cell? (qd a 16)=some (.slice s t u)/\av h.drew (.cells (o.on [.slice p q r,.slice i j k,.slice s t u]:List Value).toArray 118) λ h o=>o.cell? (qd a 8)=some (.slice l m n)/\bp prog (Builtin.append_ #[112,112] 112 #[.slice l m n,.slice (some (qd h 0)) 1 1]) o λ h l=>∃ m n o,h=(.slice m n o)/\aQ l (qd a 8) (.slice m n o) λ h=>CC 163 #[qp a] h λ h l=>h=.returned (.tuple #[])/\∃ h:I6,af l (qd b 0) 0 h.vs/\CC 41 #[.agg h.vs.toArray,.slice i j k] l λ h i=>∃ j:I6,h=.returned (.agg j.vs.toArray)/\av i (.cells z6.vs.toArray 39) λ h i=>aK (qd h 0) 0 j.vs i λ i=>∃ j:Nat->Int->qW,(∀ k l m,j l m k->∀ n:qv,∃ n:Bool->qW,(∀ o p,n p o->∀ q:qv,cond p (aQ o (qd a 18) (.bool true) λ p=>K (.tuple #[.bool true,qz]) p) (∃ p:I6,af o (qd l 0) 0 p.vs/\aK (qd a 9) 0 p.vs o λ l=>K (.tuple #[.bool false,qz]) l))/\∃ l:I6,af k (qd h 0) 0 l.vs/\cond (I6.beq l z6) (n true k) (∃ l o p,k.cell? (qd a 8)=some (.slice l o p)/\cond (decide ((o:Int)>=(30:Int))) (n true k) (n (m !=0) k)))/\∃ k l m n,af i.drew (qd a 4) 0 [iv k,iv l,iv m,iv n]/\∃ o:I6,af i.drew (qd a 9) 0 o.vs/\∃ p:I6,af i.drew (qd h 0) 0 p.vs/\(CC 169 #[.agg #[iv k,iv l,iv m,iv n],.agg o.vs.toArray,.agg p.vs.toArray] i.drew λ q r=>∃ s:I6,∃ t,q=.returned (.tuple #[.agg s.vs.toArray,iv t])/\av r (.cells z6.vs.toArray 37) λ q r=>aK (qd q 0) 0 s.vs r λ r=>j q t r)/\av i.drew (.cells z6.vs.toArray 37) λ i q=>af q (qd h 0) 0 p.vs/\af q (qd a 9) 0 o.vs/\af q (qd a 4) 0 [iv k,iv l,iv m,iv n]/\CC 169 #[.agg #[iv k,iv l,iv m,iv n],.agg o.vs.toArray,.agg p.vs.toArray] q λ h k=>∃ l:I6,∃ m,h=.returned (.tuple #[.agg l.vs.toArray,iv m])/\aK (qd i 0) 0 l.vs k λ h=>j i m h)/\∃ h i j,d.cell? (qd a 8)=some (.slice h i j)/\cond (decide ((i:Int)>(0:Int))) (∃ h,d.drew.cell? (qd a 6)=some (iv h)/\∃ i:I6,af d.drew (qd b 0) 0 i.vs/\∃ j k l,d.drew.cell? (qd a 15)=some (.slice j k l)/\CC 168 #[qp a] d.drew λ m n=>∃ o p q,m=.returned (.slice o p q)/\n.cell? (qd a 15)=some (.slice j k l)/\af n (qd b 0) 0 i.vs/\n.cell? (qd a 6)=some (iv h)/\CC 167 #[iv h,.agg i.vs.toArray,.slice o p q,.slice j k l] n λ a b=>∃ h i j k,a=.returned (.tuple #[.slice h i j,iv k])/\cond (k !=0) (K (.tuple #[.bool false,iv k]) b) (c h i j b)) (c e f g d))
theorem pN{b1 w K}(h:kP b1 w K):CP 138 #[.pointer (some ⟨b1,0,none⟩)] w K:=ah (aE [(31,[(5,.s .slice)]),(511,[(9,.s (.blk)),(10,.s (.int .i64))]),(2046,[(111,.s .bool)])]) func138 (by kernel_rfl) (by kernel_rfl) h
def mj(a:Nat)(w:World)(K:KP):=∃ b,w.cell? (qd a 18)=some (.bool b)/\cond b (K (iv 10) w) (CC 163 #[qp a] w λ b c=>b=.returned (.tuple #[])/\aQ c (qd a 18) (.bool true) λ a=>K qz a)
theorem rZ{b1 w K}(h:mj b1 w K):CP 139 #[.pointer (some ⟨b1,0,none⟩)] w K:=ah (aE []) func139 (by kernel_rfl) (by kernel_rfl) h
def mh(a:Nat)(b:Int)(w:World)(K:KP):=∃ c:Bool->qW,(∀ d e,c e d->∀ f:qv,cond e (K (iv 6) d) (∃ e f g,d.cell? (qd a 17)=some (.slice e f g)/\au e λ e=>0<=b/\b<(f:Int)/\∃ f,d.cell? (Addr.add e ((b).toNat*1))=some (.bool f)/\cond f (K (iv 10) d) (∃ e f g,d.drew.cell? (qd a 17)=some (.slice e f g)/\∃ g h i,d.drew.cell? (qd a 15)=some (.slice g h i)/\∃ i j k,d.drew.cell? (qd a 16)=some (.slice i j k)/\au e λ e=>0<=b/\b<(f:Int)/\aQ d.drew (Addr.add e ((b).toNat*1)) (.bool true) λ d=>au g λ e=>0<=b/\b<(h:Int)/\aK (Addr.add e ((b).toNat*6)) 0 z6.vs d λ d=>au i λ e=>0<=b/\b<(j:Int)/\aQ d (Addr.add e ((b).toNat*1)) (.bool false) λ d=>K qz d)))/\CC 52 #[qp a,iv b] w λ a b=>∃ d,a=.returned (.bool d)/\c (!d) b
theorem rY{b1 n1 w K}(h:mh b1 n1 w K):CP 142 #[.pointer (some ⟨b1,0,none⟩),iv n1] w K:=ah (aE [(12,[(5,.s .bool)])]) func142 (by kernel_rfl) (by kernel_rfl) h
def kR(a:Nat)(b:Int)(w:World)(K:KP):=∃ c:Bool->qW,(∀ d e,c e d->∀ f:qv,cond e (K (iv 4) d) (CC 163 #[qp a] d λ d e=>d=.returned (.tuple #[])/\∃ d:qW,(∀ f,d f->∀ g:qv,aQ f (qd a 18) (.bool false) λ f=>K qz f)/\∃ f g h,e.cell? (qd a 8)=some (.slice f g h)/\cond (decide (b<(g:Int))) (∃ f g h,e.cell? (qd a 8)=some (.slice f g h)/\au f λ f=>0<=b/\b<(g:Int)/\∃ g:I6,af e (Addr.add f ((b).toNat*9)) 0 g.vs/\aK (qd a 9) 0 g.vs e λ f=>∃ g h i,f.cell? (qd a 8)=some (.slice g h i)/\0<=b/\b<=(i:Int)/\CC 173 #[.slice (if i=0 then g else Option.map (λ x=>Addr.add x (0*9)) g) ((b).toNat-0) (i-0)] f λ f g=>∃ h i j,f=.returned (.slice h i j)/\aQ g (qd a 8) (.slice h i j) λ f=>d f) (d e)))/\cond (decide (b<0)) (c true w) (∃ d e f,w.cell? (qd a 8)=some (.slice d e f)/\cond (decide (b>(e:Int))) (c true w) (∃ d e f,w.cell? (qd a 8)=some (.slice d e f)/\cond (b==(e:Int)) (∃ b,w.cell? (qd a 18)=some (.bool b)/\c b w) (c false w)))
theorem pP{b1 n1 w K}(h:kR b1 n1 w K):CP 143 #[.pointer (some ⟨b1,0,none⟩),iv n1] w K:=ah (aE [(51,[(9,.s .bool)]),(31,[])]) func143 (by kernel_rfl) (by kernel_rfl) h
def kT(a:Nat)(w:World)(K:KP):=∃ b c d,w.drew.cell? (qd a 17)=some (.slice b c d)/\∃ e f g,w.drew.cell? (qd a 17)=some (.slice e f g)/\(bp prog (Instr.makeSlice 41 (iv (c:Int)) (iv (c:Int))) w.drew λ h i=>∃ j k l,h=(.slice j k l)/\i.cell? (qd a 17)=some (.slice e f g)/\(bp prog (Instr.makeSlice 113 (iv (f:Int)) (iv (f:Int))) i λ e g=>∃ h m n,e=(.slice h m n)/\aQ g (qd a 15) (.slice j k l) λ e=>aQ e (qd a 16) (.slice h m n) λ e=>K (.tuple #[]) e)/\aQ i (qd a 15) (.slice j k l) λ e=>bp prog (Instr.makeSlice 113 (iv (f:Int)) (iv (f:Int))) e λ e g=>∃ h i j,e=(.slice h i j)/\aQ g (qd a 16) (.slice h i j) λ e=>K (.tuple #[]) e)/\bp prog (Instr.makeSlice 113 (iv (f:Int)) (iv (f:Int))) w.drew λ e f=>∃ g h i,e=(.slice g h i)/\f.cell? (qd a 17)=some (.slice b c d)/\bp prog (Instr.makeSlice 41 (iv (c:Int)) (iv (c:Int))) f λ b c=>∃ d e f,b=(.slice d e f)/\aQ c (qd a 15) (.slice d e f) λ b=>aQ b (qd a 16) (.slice g h i) λ a=>K (.tuple #[]) a
theorem pR{b1 w K}(h:kT b1 w K):CP 163 #[.pointer (some ⟨b1,0,none⟩)] w K:=ah (aE []) func163 (by kernel_rfl) (by kernel_rfl) h
def iG(a:Nat)(w:World)(K:KP):=∃ b c d,w.drew.cell? (qd a 8)=some (.slice b c d)/\∃ d e f,w.drew.cell? (qd a 8)=some (.slice d e f)/\au b λ b=>0<=(IntKind.i64.wrap ((e:Int)-(1:Int)))/\(IntKind.i64.wrap ((e:Int)-(1:Int)))<(c:Int)/\∃ c d f,w.drew.cell? (Addr.add (Addr.add b (((IntKind.i64.wrap ((e:Int)-(1:Int)))).toNat*9)) 7)=some (.slice c d f)/\CC 74 #[.slice c d f] w.drew λ b c=>∃ d e f,b=.returned (.slice d e f)/\∃ b g h,c.cell? (qd a 17)=some (.slice b g h)/\∃ a:Int->qN,(∃ h,a 0 c h)/\∀ c h i,a i c h->∀ j:qv,cond (decide (i<(g:Int))) (∃ j:qW,(∀ k,j k->∀ l:qv,∃ l,l<h/\a (IntKind.i64.wrap (i+1)) k l)/\au b λ a=>0<=i/\i<(g:Int)/\∃ b,c.cell? (Addr.add a ((i).toNat*1))=some (.bool b)/\cond b (au d λ a=>0<=i/\i<(e:Int)/\aK (Addr.add a ((i).toNat*6)) 0 z6.vs c λ a=>j a) (j c)) (K (.slice d e f) c)
theorem mq{b1 w K}(h:iG b1 w K):CP 168 #[.pointer (some ⟨b1,0,none⟩)] w K:=ah (aE [(58,[(25,.s (.int .i64))]),(467,[])]) func168 (by kernel_rfl) (by kernel_rfl) h
def jT(a:OA)(b c:Nat)(w:World)(K:KP):=bp prog (Instr.makeSlice 112 (iv (b:Int)) (iv (b:Int))) w λ d e=>∃ f g h,d=(.slice f g h)/\bp prog (Builtin.copy_ #[112,112] 3 #[.slice f g h,.slice a b c]) e λ _e1 a=>K (.slice f g h) a
theorem oR{a1 l1 c1 w K}(h:jT a1 l1 c1 w K):CP 173 #[.slice a1 l1 c1] w K:=ah (aE []) func173 (by kernel_rfl) (by kernel_rfl) h
def uJ  (w:World) (K:KP):=K (.pointer none) w
theorem pO{w K}(h:uJ w K):CP 49 #[.pointer none] w K:=ah (aE []) func49 (by kernel_rfl) (by kernel_rfl) h
theorem WE:iz prog 29 89 (.agg ({ nm:=[],sup:=0,res:=0,pts:=0,grp:=0 }:Pr).cells.toArray) 5 48:=iz.mk' underlying29 (by kernel_rfl) rfl (by decide)
theorem WA:iz prog 30 92 (.agg ({ nm:=[],cls:=0,bud:=0,pts:=0 }:Br).cells.toArray) 4 40:=iz.mk' underlying30 (by kernel_rfl) rfl (by decide)
theorem WC:iz prog 31 95 (.agg (⟨0,0,0⟩:T3).cells.toArray) 3 24:=iz.mk' underlying31 (by kernel_rfl) rfl (by decide)
theorem Wz:iz prog 32 98 (.agg (⟨0,0,0⟩:T3).cells.toArray) 3 24:=iz.mk' underlying32 (by kernel_rfl) rfl (by decide)
theorem Pr.len(p:Pr):p.cells.length=5:=rfl
theorem Br.len(p:Br):p.cells.length=4:=rfl
theorem T3.len(p:T3):p.cells.length=3:=rfl
theorem fh.fl{w:World}{a:OA}{l:List Pr}(h:fh w a l):bG 5 Pr.cells w a l:=λ _ p hp=>let ⟨_,q,hq,hc⟩:=h _ p hp; ⟨q,_,hq,hc,rfl,rfl⟩
theorem lJ.fl{w:World}{a:OA}{l:List Br}(h:lJ w a l):bG 4 Br.cells w a l:=λ _ p hp=>let ⟨_,q,hq,hc⟩:=h _ p hp; ⟨q,_,hq,hc,rfl,rfl⟩
theorem E6.fl{w:World}{a:OA}{l:List T3}(h:E6 w a l):bG 3 T3.cells w a l:=λ _ p hp=>let ⟨q,hq,hc⟩:=h _ p hp; ⟨q,_,hq,hc,rfl,rfl⟩
theorem fh.of{w:World}{a:OA}{l:List Pr}(h:bG 5 Pr.cells w a l)(k:∀ p∈l,p.In):fh w a l:=λ _ p hp=>let ⟨q,hq,hc⟩:=h.at hp; ⟨k p (List.mem_of_getElem? hp),q,hq,hc⟩
theorem lJ.of{w:World}{a:OA}{l:List Br}(h:bG 4 Br.cells w a l)(k:∀ p∈l,p.In):lJ w a l:=λ _ p hp=>let ⟨q,hq,hc⟩:=h.at hp; ⟨k p (List.mem_of_getElem? hp),q,hq,hc⟩
theorem E6.of{w:World}{a:OA}{l:List T3}(h:bG 3 T3.cells w a l):E6 w a l:=λ _ _ hp=>let ⟨q,hq,hc⟩:=h.at hp; ⟨q,hq,hc⟩
theorem fh.in{w:World}{a:OA}{l:List Pr}(h:fh w a l):∀ p∈l,p.In:=λ p hp=>let ⟨i,hi⟩:=List.getElem?_of_mem hp; (h i p hi).1
theorem lJ.in{w:World}{a:OA}{l:List Br}(h:lJ w a l):∀ p∈l,p.In:=λ p hp=>let ⟨i,hi⟩:=List.getElem?_of_mem hp; (h i p hi).1
theorem Cu{w:World}{a:OA}{c:Nat}{l:List Pr}(h:bG 5 Pr.cells w a l)(hl:l.length<=1000) :
  CP 35 #[.slice a l.length c] w (λ r w'=>∃ a' c',r=.slice a' l.length c'/\St w w' (cH 89 5 Pr.cells a' c' l)):=by
 refine mQ ?_;unfold iV;exact pT (c:=c) (K:=λ r w'=>∃ a' c',r=.slice a' l.length c'/\St w w' (cH 89 5 Pr.cells a' c' l)) WE Pr.len Pr.one (St.start w) h (by omega) (by omega) λ a' c' w' s'=>⟨a',c',rfl,s'.first⟩
theorem Cs{w:World}{a:OA}{c:Nat}{l:List Br}(h:bG 4 Br.cells w a l)(hl:l.length<=1000) :
  CP 36 #[.slice a l.length c] w (λ r w'=>∃ a' c',r=.slice a' l.length c'/\St w w' (cH 92 4 Br.cells a' c' l)):=by
 refine nT ?_;unfold jv;exact pT (c:=c) (K:=λ r w'=>∃ a' c',r=.slice a' l.length c'/\St w w' (cH 92 4 Br.cells a' c' l)) WA Br.len Br.one (St.start w) h (by omega) (by omega) λ a' c' w' s'=>⟨a',c',rfl,s'.first⟩
theorem Ct{w:World}{a:OA}{c:Nat}{l:List T3}(h:bG 3 T3.cells w a l)(hl:l.length<=1000) :
  CP 37 #[.slice a l.length c] w (λ r w'=>∃ a' c',r=.slice a' l.length c'/\St w w' (cH 95 3 T3.cells a' c' l)):=by
 refine sH ?_;unfold mP;exact pT (c:=c) (K:=λ r w'=>∃ a' c',r=.slice a' l.length c'/\St w w' (cH 95 3 T3.cells a' c' l)) WC T3.len T3.one (St.start w) h (by omega) (by omega) λ a' c' w' s'=>⟨a',c',rfl,s'.first⟩
theorem Cr{w:World}{a:OA}{c:Nat}{l:List T3}(h:bG 3 T3.cells w a l)(hl:l.length<=1000) :
  CP 38 #[.slice a l.length c] w (λ r w'=>∃ a' c',r=.slice a' l.length c'/\St w w' (cH 98 3 T3.cells a' c' l)):=by
 refine o9 ?_;unfold ki;exact pT (c:=c) (K:=λ r w'=>∃ a' c',r=.slice a' l.length c'/\St w w' (cH 98 3 T3.cells a' c' l)) Wz T3.len T3.one (St.start w) h (by omega) (by omega) λ a' c' w' s'=>⟨a',c',rfl,s'.first⟩
def Se.er(s:Se):Se:={ s with a1:=none,c1:=0,a2:=none,c2:=0,a3:=none,c3:=0,a4:=none,c4:=0 }
structure Se.Sz (s:Se):Prop where
 ps:s.ps.length<=100
 bd:s.bd.length<=100
 cp:s.cp.length<=100
 sa:s.sa.length<=100
theorem Se.Ok.sz{s:Se}(h:s.Ok):s.Sz:=⟨by have:=h.ps.l2; omega,by have:=h.bd.l2; omega,by have:=h.cp.l1; omega,by have:=h.sa.l1; omega⟩
theorem Am{w:World}{S:Se}(h:S.In w)(hz:S.Sz) :
  CP 73 #[.agg S.arr] w (λ r w'=>∃ S' : Se,S'.er=S.er/\r=.agg S'.arr/\St w w' (held S'.In)):=by
 refine Ap ?_;unfold xU;obtain⟨z1,z2,z3,z4⟩:=hz;refine(St.start w).one.aB S.arr λ r1 w1 s1=>s1.aB #[.slice none 0 0,.slice none 0 0,.slice none 0 0,.slice none 0 0] λ r2 w2 s2=>?_;have s3:=s2.quiet (Chg.drew w2 []);refine⟨_,_,_,s3.ag 1 rfl 0,_,_,_,s3.ag 1 rfl 1,_,_,_,s3.ag 1 rfl 2,_,_,_,s3.ag 1 rfl 3,an (Cu (h.aA s3.aA).ps.fl (by omega)) ?_⟩;rintro v w3 ⟨a1,c1,rfl,k1⟩;have s4:St w w3 (Sep [_,_,_,_]):=s3.and k1;refine⟨_,_,_,rfl,s4.ag 2 rfl 3,s4.ag 2 rfl 2,s4.ag 2 rfl 1,an (Cs (h.aA s4.aA).bd.fl (by omega)) ?_⟩;rintro v w4 ⟨a2,c2,rfl,k2⟩;have s5:St w w4 (Sep [_,_,_,_,_]):=s4.and k2;refine⟨_,_,_,rfl,s5.ag 3 rfl 3,s5.ag 3 rfl 2,an (Ct (h.aA s5.aA).cp.fl (by omega)) ?_⟩;rintro v w5 ⟨a3,c3,rfl,k3⟩;have s6:St w w5 (Sep [_,_,_,_,_,_]):=s5.and k3;refine⟨_,_,_,rfl,s6.ag 4 rfl 3,an (Cr (h.aA s6.aA).sa.fl (by omega)) ?_⟩;rintro v w6 ⟨a4,c4,rfl,k4⟩;have s7:St w w6 (Sep [_,_,_,_,_,_,_]):=s6.and k4;let S' : Se:={ S with a1:=a1,c1:=c1,a2:=a2,c2:=c2,a3:=a3,c3:=c3,a4:=a4,c4:=c4 };refine⟨_,_,_,rfl,s7.aC 4 rfl S'.arr.toList rfl (by simp[S',Se.arr,Value.oneCell']) λ w7 s8=>⟨_,_,_,_,_,_,_,_,_,_,_,_,s8.cellsIn 4 rfl,S',rfl,rfl,?_⟩⟩;have q4:=St.oI (s8.out 0 rfl); have q3:=St.oI (s8.out 1 rfl); have q2:=St.oI (s8.out 2 rfl); have q1:=St.oI (s8.out 3 rfl);exact((s8.ay [0,1,2,3]).held ((bh T3.len).cons ((bh T3.len).cons ((bh Br.len).cons ((bh Pr.len).cons gU.nil))))).weak (rC λ w' ⟨i4,i3,i2,i1,_⟩=>⟨fh.of i1 h.ps.in,lJ.of i2 h.bd.in,E6.of i3,E6.of i4,q1.1,q2.1,q3.1,q4.1⟩)
abbrev bl (b:Bool):List Value:=[.bool b]
theorem jd(b:Bool):(bl b).length=1:=rfl
theorem Tz(b:Bool):∀ v∈bl b,v.oneCell' = true:=by intro v hv; simp at hv; subst hv; rfl
structure Rn where
 p:I6
 ask:List I6
 got:List I6
 bd:List Bool
 xa:Option Addr
 xc:Nat
 ga:Option Addr
 gc:Nat
 ba:Option Addr
 bc:Nat
def Rn.cells(x:Rn):List Value:=x.p.on [.slice x.xa x.ask.length x.xc,.slice x.ga x.got.length x.gc,.slice x.ba x.bd.length x.bc]
theorem Rn.len(x:Rn):x.cells.length=9:=rfl
theorem Rn.one(x:Rn):∀ v∈x.cells,v.oneCell' = true:=by
 intro v hv; simp[Rn.cells,I6.on] at hv; rcases hv with rfl|rfl|rfl|rfl|rfl|rfl|rfl|rfl|rfl<;>rfl
def Rn.er(x:Rn):Rn:={ x with xa:=none,xc:=0,ga:=none,gc:=0,ba:=none,bc:=0 }
def Vu:Rn:=⟨z6,[],[],[],none,0,none,0,none,0⟩
structure Rn.In (x:Rn) (w:World):Prop where
 ask:bG 6 I6.vs w x.xa x.ask
 got:bG 6 I6.vs w x.ga x.got
 bd:bG 1 bl w x.ba x.bd
theorem Rn.In.aA{x:Rn}{w w' : World}(h:x.In w)(hc:Chg w w' []):x.In w':=⟨h.ask.aA hc,h.got.aA hc,h.bd.aA hc⟩
structure Rn.Sz (n:Nat) (x:Rn):Prop where
 ask:x.ask.length=n
 got:x.got.length=n
 bd:x.bd.length=n
theorem ID:iz prog 113 4 (.bool false) 1 1:=iz.mk' underlying113 (by kernel_rfl) rfl (by decide)
theorem RN:iz prog 112 118 (.agg Vu.cells.toArray) 9 120:=iz.mk' underlying112 (by kernel_rfl) rfl (by decide)
abbrev LA (a:OA) (c:Nat) (l:List Bool):aG:=cH 4 1 bl a c l
abbrev J1 (a:OA) (c:Nat) (l:List Rn):aG:=cH 118 9 Rn.cells a c l
theorem hU{w:World}{a:OA}{c:Nat}{l:List I6}(h:bG 6 I6.vs w a l)(hl:l.length<=1000) :
  CP 74 #[.slice a l.length c] w (λ r w'=>∃ g,r=.slice (some ⟨g,0,none⟩) l.length l.length/\St w w' (eJ (some ⟨g,0,none⟩) l.length l)):=by
 refine nv ?_;unfold jl;exact wM (c:=c) (x0:=z6) (K:=λ r w'=>∃ g,r=.slice (some ⟨g,0,none⟩) l.length l.length/\St w w' (eJ (some ⟨g,0,none⟩) l.length l)) RL aR I6.one rfl (St.start w) h (by omega) (by omega) λ g w' s'=>⟨g,rfl,s'.first⟩
theorem rz{w:World}{a:OA}{c:Nat}{l:List Bool}(h:bG 1 bl w a l)(hl:l.length<=1000) :
  CP 75 #[.slice a l.length c] w (λ r w'=>∃ g,r=.slice (some ⟨g,0,none⟩) l.length l.length/\St w w' (LA (some ⟨g,0,none⟩) l.length l)):=by
 refine pS ?_;unfold kU;exact wM (c:=c) (x0:=false) (K:=λ r w'=>∃ g,r=.slice (some ⟨g,0,none⟩) l.length l.length/\St w w' (LA (some ⟨g,0,none⟩) l.length l)) ID jd Tz rfl (St.start w) h (by omega) (by omega) λ g w' s'=>⟨g,rfl,s'.first⟩
theorem KC{w:World}{a:OA}{c:Nat}{l:List Rn}(h:bG 9 Rn.cells w a l)(hl:l.length<=1000) :
  CP 173 #[.slice a l.length c] w (λ r w'=>∃ g,r=.slice (some ⟨g,0,none⟩) l.length l.length/\St w w' (J1 (some ⟨g,0,none⟩) l.length l)):=by
 refine oR ?_;unfold jT;exact wM (c:=c) (x0:=Vu) (K:=λ r w'=>∃ g,r=.slice (some ⟨g,0,none⟩) l.length l.length/\St w w' (J1 (some ⟨g,0,none⟩) l.length l)) RN Rn.len Rn.one rfl (St.start w) h (by omega) (by omega) λ g w' s'=>⟨g,rfl,s'.first⟩
theorem Lq{w:World}{x:Rn}{n:Nat}(h:x.In w)(hz:x.Sz n)(hn:n<=1000) :
  CP 78 #[.agg x.cells.toArray] w (λ r w'=>∃ x' : Rn,x'.er=x.er/\r=.agg x'.cells.toArray/\St w w' (held x'.In)):=by
 refine gN ?_;unfold fo;have z1:=hz.ask; have z2:=hz.got; have z3:=hz.bd;refine(St.start w).one.aB x.cells.toArray λ r1 w1 s1=>s1.aB Vu.cells.toArray λ r2 w2 s2=>?_;have s3:=s2.quiet (Chg.drew w2 []);refine⟨_,_,_,s3.ag 1 rfl 6,_,_,_,s3.ag 1 rfl 7,_,_,_,s3.ag 1 rfl 8,an (hU (h.aA s3.aA).ask (by omega)) ?_⟩;rintro v w3 ⟨a1,rfl,k1⟩;have s4:St w w3 (Sep [_,_,_,_]):=s3.and k1;refine⟨_,_,_,rfl,s4.ag 2 rfl 8,s4.ag 2 rfl 7,an (hU (h.aA s4.aA).got (by omega)) ?_⟩;rintro v w4 ⟨a2,rfl,k2⟩;have s5:St w w4 (Sep [_,_,_,_,_]):=s4.and k2;refine⟨_,_,_,rfl,s5.ag 3 rfl 8,an (rz (h.aA s5.aA).bd (by omega)) ?_⟩;rintro v w5 ⟨a3,rfl,k3⟩;have s6:St w w5 (Sep [_,_,_,_,_,_]):=s5.and k3;let x' : Rn:={ x with xa:=some ⟨a1,0,none⟩,xc:=x.ask.length,ga:=some ⟨a2,0,none⟩,gc:=x.got.length,ba:=some ⟨a3,0,none⟩,bc:=x.bd.length };refine⟨_,_,_,rfl,s6.aJ 4 rfl (j:=6) (show 6<9 by decide) rfl λ w6 s7=>s7.aJ 4 rfl (j:=7) (show 7<9 by decide) rfl λ w7 s8=>s8.aJ 4 rfl (j:=8) (show 8<9 by decide) rfl λ w8 s9=>?_⟩;refine⟨x.p,_,_,_,_,_,_,_,_,_,s9.cellsIn 4 rfl,s9.aC 3 rfl x'.cells rfl x'.one λ w9 s10=>⟨x.p,_,_,_,_,_,_,_,_,_,s10.cellsIn 3 rfl,x',rfl,rfl,?_⟩⟩;exact((s10.ay [0,1,2]).held ((bh jd).cons ((bh aR).cons ((bh aR).cons gU.nil)))).weak (rC λ w' ⟨i3,i2,i1,_⟩=>⟨i1,i2,i3⟩)
theorem Jh{l l' : List Rn}{k:Nat}{x x' : Rn}(h:l'.map Rn.er=(l.take k).map Rn.er)(hx:l[k]?=some x)(e:x'.er=x.er):(l'++[x']).map Rn.er=(l.take (k+1)).map Rn.er:=by
 rw[aH hx,List.map_append,List.map_append,h,List.map_singleton,List.map_singleton,e]
abbrev jk (l:List Rn) (w:World):Prop:=∀ x∈l,x.In w
theorem TP{w:World}{a:OA}{c:Nat}{l:List Rn}{n:Nat}(h:bG 9 Rn.cells w a l)(hi:jk l w)(hz:∀ x∈l,x.Sz n)(hn:n<=1000)(hl:l.length<=1000) :
  CP 77 #[.slice a l.length c,.func (.func 78) #[] #[]] w (λ r w'=>∃ l' a' c',l'.map Rn.er=l.map Rn.er/\r=.slice a' l'.length c'/\St w w' (star (J1 a' c' l') (held (jk l')))):=by
 refine jm ?_;unfold gZ;refine⟨λ a2 l2 c2 n1 w1 m=>∃ (k:Nat) (l' : List Rn),n1=k/\k<=l.length/\m=l.length-k/\l2=l'.length/\l'.length=k/\l'.map Rn.er=(l.take k).map Rn.er/\St w w1 (Sep [J1 a2 c2 l',held (jk l'),emp]),⟨l.length,0,[],rfl,by omega,by omega,rfl,rfl,rfl,((St.start w).one.qf (λ _=>by simp[jk])).cV⟩,?_⟩
 rintro w1 m a2 l2 c2 n1 ⟨k,l',rfl,hk,hm,rfl,hlen,he,s1⟩ -
 by_cases hlt:(k:Int)<(l.length:Int)
 ·have hx:l[k]?=some (l[k]'(by omega)):=gE (by omega);generalize l[k]'(by omega)=x at hx;have hm:=List.mem_of_getElem? hx;obtain⟨q,hq,hcl⟩:=(h.aA s1.aA).at hx;refine cT (dT hlt) (aq hq ⟨by omega,by omega,x.p,_,_,_,_,_,_,_,_,_,hcl,s1.aB Vu.cells.toArray λ r1 w2 s2=>s2.aC 0 rfl x.cells rfl x.one λ w3 s3=>⟨x.p,_,_,_,_,_,_,_,_,_,s3.cellsIn 0 rfl,?_⟩⟩);refine br (by kernel_rfl) (an (Lq ((hi x hm).aA s3.aA) (hz x hm) hn) ?_);rintro v w4 ⟨x',ex,rfl,k4⟩;have s4:St w w4 (Sep [held x'.In,_,J1 a2 c2 l',held (jk l'),emp]):=s3.and k4;refine⟨x'.p,_,_,_,_,_,_,_,_,_,rfl,eK RN Rn.len (x:=x') x'.one (s4.out 2 rfl) (by omega) (by omega) (λ a' c' w' s5=>?_) rfl⟩;refine⟨l.length-(k+1),by omega,k+1,l'++[x'],aF ⟨by omega,by omega⟩,by omega,rfl,rfl,by simp[hlen],Jh he hx ex,?_⟩;have s6:St w w' (Sep [_,_,_,_,_]):=s5;exact(((s6.ay [3,1,0,4]).j4 (aU _) (aU _) λ w'' h1 h2 y hy=>(List.mem_append.1 hy).elim (h1 y) λ e=>by rw[List.mem_singleton.1 e]; exact h2).ay [1,0,2])
 ·obtain rfl:l.length=k:=by omega
  rw[List.take_length] at he;exact cF (dF hlt) ⟨l',_,_,he,rfl,s1.ay [0,1] |>.pair⟩
structure Ck where
 s:Se
 o:Po
 cl:List Rn
 p:I6
 ask:List I6
 bd:List Bool
 dp:List Bool
 ov:Bool
 ka:Option Addr
 kc:Nat
 xa:Option Addr
 xc:Nat
 ya:Option Addr
 yc:Nat
 za:Option Addr
 zc:Nat
def Ck.cells(C:Ck):List Value:=(.slice C.s.a1 C.s.ps.length C.s.c1) :: ((.slice C.s.a2 C.s.bd.length C.s.c2) :: ((.slice C.s.a3 C.s.cp.length C.s.c3) :: ((.slice C.s.a4 C.s.sa.length C.s.c4) :: ((iv C.o.step) :: ((iv C.o.pct) :: ((iv C.o.und) :: ((iv C.o.rule) :: ((.slice C.ka C.cl.length C.kc) :: (C.p.on [.slice C.xa C.ask.length C.xc,.slice C.ya C.bd.length C.yc,.slice C.za C.dp.length C.zc,.bool C.ov])))))))))
theorem Ck.one(C:Ck):∀ v∈C.cells,v.oneCell' = true:=by
 intro v hv; simp[Ck.cells,I6.on] at hv;rcases hv with rfl|rfl|rfl|rfl|rfl|rfl|rfl|rfl|rfl|rfl|rfl|rfl|rfl|rfl|rfl|rfl|rfl|rfl|rfl<;>rfl
def Ck.er(C:Ck):Ck:={ C with s:=C.s.er,cl:=C.cl.map Rn.er,ka:=none,kc:=0,xa:=none,xc:=0,ya:=none,yc:=0,za:=none,zc:=0 }
structure Tl (S:Se) (cl:List Rn) (w:World):Prop where
 s:S.In w
 cl:jk cl w
abbrev Ck.In (C:Ck):World->Prop:=Tl C.s C.cl
theorem Tl.aA{S:Se}{cl:List Rn}{w w' : World}(h:Tl S cl w)(hc:Chg w w' []):Tl S cl w':=⟨h.s.aA hc,λ x hx=>(h.cl x hx).aA hc⟩
structure Ck.Rd (b:Nat) (C:Ck) (w:World):Prop where
 me:af w ⟨b,0,none⟩ 0 C.cells
 ask:bG 6 I6.vs w C.xa C.ask
 bd:bG 1 bl w C.ya C.bd
 dp:bG 1 bl w C.za C.dp
 cl:bG 9 Rn.cells w C.ka C.cl
 i:C.In w
theorem Ck.Rd.aA{b:Nat}{C:Ck}{w w' : World}(h:C.Rd b w)(hc:Chg w w' []):C.Rd b w':=⟨cA hc h.me,h.ask.aA hc,h.bd.aA hc,h.dp.aA hc,h.cl.aA hc,h.i.aA hc⟩
def dR(b:Nat)(C:Ck):List aG:=[ai b C.cells.toArray 115,eJ C.xa C.xc C.ask,LA C.ya C.yc C.bd,LA C.za C.zc C.dp,J1 C.ka C.kc C.cl,held C.In]
theorem Pu{r:Nat}{cs:Array Value}{T:TypeId}:gU (ai r cs T) λ w=>af w ⟨r,0,none⟩ 0 cs.toList:=λ w F h=>by
 have s:St w w (Sep []):=St.start w;obtain⟨h1,rfl⟩:=h;refine bE _ 0 λ j v hj=>?_;rw[tE,Nat.zero_add];simp only[World.cell?,h1];simpa using hj
theorem sV{b:Nat}{C:Ck}:gU (Sep (dR b C)) (C.Rd b) :=
 gU.mono (Pu.cons ((bh aR).cons ((bh jd).cons ((bh jd).cons ((bh Rn.len).cons ((aU _).cons gU.nil)))))) λ _ ⟨h1,h2,h3,h4,h5,h6,_⟩=>⟨h1,h2,h3,h4,h5,h6⟩
structure Ck.Ok (C:Ck):Prop where
 s:C.s.Ok
 o:C.o.ok
 cl:C.cl.length<=30
 cz:∀ x∈C.cl,x.Sz C.s.bd.length
 cp:∀ x∈C.cl,o6 x.p=true
 ca:∀ x∈C.cl,∀ u∈x.ask,I6.Le u 4
 cg:∀ x∈C.cl,∀ u∈x.got,I6.Le u 4
 p:o6 C.p=true
 ask:C.ask.length=C.s.bd.length
 bd:C.bd.length=C.s.bd.length
 dp:C.dp.length=C.s.bd.length
 asked:∀ u∈C.ask,I6.Le u 4
section
variable {b:Nat} {C:Ck} {w:World}
theorem Ck.Rd.cell(h:C.Rd b w)(j:Nat){v:Value}(e:C.cells[j]?=some v):w.cell? ⟨b,j,none⟩=some v:=by
 have:=aO h.me j v e
 rwa [Nat.zero_add,tE] at this
theorem Ck.Rd.aN(h:C.Rd b w)(j:Nat){vs:List Value}(hv:(C.cells.drop j).take vs.length=vs):af w ⟨b,j,none⟩ 0 vs :=
 bE _ 0 λ k v hk=>by
  have hl:k<vs.length:=(List.getElem?_eq_some_iff.1 hk).1;have ha:(⟨b,j,none⟩:Addr).add (0+k)=⟨b,j+k,none⟩:=by unfold Addr.add; split<;>simp_all
  have h2:((C.cells.drop j).take vs.length)[k]?=vs[k]?:=by rw[hv]
  rw[List.getElem?_take,if_pos hl,List.getElem?_drop,hk] at h2;rw[ha]; exact h.cell _ h2
theorem D7(h:C.Rd b w)(n:Int):CP 52 #[.pointer (some ⟨b,0,none⟩),iv n] w (λ r w'=>r=.bool (decide (0<=n)&&decide (n<(C.dp.length:Int)))/\w' = w):=by
 refine tN ?_;unfold ox
 by_cases g:n>=0
 ·exact cT (dT g) ⟨_,_,_,h.cell 17 rfl,by rw[dT g]; rfl,rfl⟩
 ·exact cF (dF g) ⟨by rw[dF (by omega)]; rfl,rfl⟩
theorem vg(h:C.Rd b w):CP 19 #[.pointer (some ⟨b,0,none⟩)] w (λ r w'=>r=iv C.cl.length/\w' = w):=by
 refine pQ ?_;unfold kS;exact⟨_,_,_,h.cell 8 rfl,rfl,rfl⟩
theorem rE(h:C.Rd b w):CP 20 #[.pointer (some ⟨b,0,none⟩)] w (λ r w'=>r=.agg C.p.vs.toArray/\Chg w w' []):=by
 refine oQ ?_;unfold jS;refine(St.start w).one.aB z6.vs.toArray λ r1 w1 s1=>⟨C.p,(h.aA s1.aA).aN 9 rfl,s1.aC 0 rfl C.p.vs rfl C.p.one λ w2 s2=>⟨C.p,s2.cellsIn 0 rfl,rfl,s2.aA⟩⟩
theorem KU(h:C.Rd b w)(hk:C.Ok):CP 51 #[.pointer (some ⟨b,0,none⟩)] w (λ r w'=>∃ l' a' c',l'.map Rn.er=C.cl.map Rn.er/\r=.slice a' l'.length c'/\St w w' (star (J1 a' c' l') (held (jk l')))):=by
 refine gM ?_;unfold fm;refine⟨_,_,_,h.cell 8 rfl,an (TP h.cl h.i.cl hk.cz (by have:=hk.s.bd.l2; omega) (by have:=hk.cl; omega)) ?_⟩;rintro v w1 ⟨l',a',c',e,rfl,s⟩;exact⟨_,_,_,rfl,l',a',c',e,rfl,s⟩
def wz(C:Ck)(n:Nat):List Ch:=C.cl.map λ x=>⟨x.p,x.ask.getD n z6⟩
theorem wL(h:C.Rd b w)(hk:C.Ok){n:Nat}(hn:n<C.s.bd.length):CP 24 #[.pointer (some ⟨b,0,none⟩),iv n] w (λ r w'=>∃ a' c',r=.slice a' (wz C n).length c'/\St w w' (cH 78 12 Ch.cells a' c' (wz C n))):=by
 refine fV ?_;unfold eI;have hd:=hk.dp; have hl:=hk.cl;refine⟨λ b w1=>b=false/\w1=w,?_,an (D7 h n) ?_⟩
 ·rintro w1 b ⟨rfl,rfl⟩ -;refine cF rfl ⟨_,_,_,h.cell 8 rfl,λ a2 l2 c2 n2 w2 m=>∃ k:Nat,n2=k/\k<=C.cl.length/\m=C.cl.length-k/\l2=((wz C n).take k).length/\St w1 w2 (star (cH 78 12 Ch.cells a2 c2 ((wz C n).take k)) emp),⟨C.cl.length,0,rfl,by omega,by omega,rfl,(St.start w1).cV⟩,?_⟩;rintro w2 m a2 l2 c2 n2 ⟨k,rfl,hk1,hm,rfl,s2⟩ -
  by_cases hlt:(k:Int)<(C.cl.length:Int)
  ·have hx:C.cl[k]?=some (C.cl[k]'(by omega)):=gE (by omega);generalize C.cl[k]'(by omega)=x at hx;have hm:=List.mem_of_getElem? hx;have za:=(hk.cz x hm).ask;obtain⟨q,hq,hcl⟩:=(h.cl.aA s2.aA).at hx;refine cT (dT hlt) (aq hq ⟨by omega,by omega,x.p,_,_,_,_,_,_,_,_,_,hcl,s2.aB (l:=[_]) Vu.cells.toArray λ r1 w3 s3=>s3.aC 0 rfl x.cells rfl x.one λ w4 s4=>?_⟩);have s5:=s4.quiet (Chg.drew w4 []);have hu:x.ask[n]?=some (x.ask.getD n z6):=by rw[List.getD_eq_getElem?_getD,gE (by omega)]; rfl
   obtain⟨q2,hq2,hcl2⟩:=((h.i.cl x hm).aA s5.aA).ask.at hu;refine⟨x.p,s5.aN 0 0 rfl rfl,_,_,_,s5.ag 0 rfl 6,aq hq2 ⟨by omega,by omega,_,hcl2,?_⟩⟩;have hch:(wz C n)[k]?=some ⟨x.p,x.ask.getD n z6⟩:=by simp[wz,hx]
   have hlen:((wz C n).take k).length=k:=by simp[wz]; omega
   refine eK WB Ch.len (x:=⟨x.p,x.ask.getD n z6⟩) (Ch.one _) (s5.out 1 rfl) (by omega) (by omega) (λ a' c' w5 s6=>?_) rfl;refine⟨C.cl.length-(k+1),by omega,k+1,aF ⟨by omega,by omega⟩,by omega,rfl,?_,?_⟩
   ·rw[aH hch]
   ·rw[aH hch]; exact s6.first.one
  ·obtain rfl:C.cl.length=k:=by omega
   rw[List.take_of_length_le (by simp[wz])] at s2 ⊢;exact cF (dF hlt) ⟨_,_,rfl,s2.first⟩
 ·rintro r w1 ⟨rfl,rfl⟩;exact⟨_,rfl,by simp; omega,rfl⟩
end
