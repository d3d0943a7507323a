import Derived.KernelRfl
import Derived.Shelf.Strings.Split
import Derived.Shelf.Strings.Count
import Derived.Shelf.Strconv.Atoi
import Derived.Shelf.Strings.Builder1
import Derived.Shelf.Strings.Builder2
import Derived.Shelf.Strings.OnBuilder
import Derived.Shelf.Strconv.Itoa0
import Derived.Shelf.Strconv.Itoa1
import Derived.Shelf.LaysM
import Derived.Shelf.Strconv.Itoa2
import Derived.Shelf.Strconv.Itoa3
import Derived.Shelf.Strconv.Itoa4
import Derived.Shelf.Strings.Runes
import Derived.WalkMore
import Derived.Outline
import Derived.RegionTactic
import Derived.Deep.RegionWith
import Derived.Scope
import Derived.Test.YtpddenfeaadgpaaGreatDoorF01
set_option linter.unusedVariables false
set_option maxRecDepth 100000
namespace Go.Vc
open Go
def B5(es:Array MapEntry)(ks:List Int):Prop:=es.toList.map (·.key)=ks.map iv/\∀ e∈es.toList,e.val=.bool true
def sX(r:Nat)(ks:List Int):aJ:=Kb λ (x:{ p:Array MapEntry×Nat // B5 p.1 ks })=>dU r (.map x.1.1 x.1.2)
theorem kg(k:Int):∀ (es:List MapEntry) (ks:List Int) (i:Nat),es.map (·.key)=ks.map iv->(∀ e∈es,e.val=.bool true) ->
  (k∈ks/\∃ j,Instr.findNow (.int .i64) (iv k) es i=some (some (j,.bool true)))\/(k∉ks/\Instr.findNow (.int .i64) (iv k) es i=some none)
 | [],[],_,_,_=>.inr ⟨by simp,rfl⟩
 | e :: es,x :: ks,i,h,hv=>by
  simp only[List.map_cons,List.cons.injEq] at h;have hs:Instr.sameNow (.int .i64) (iv k) e.key=some (k==x):=by rw[h.1]; simp[Instr.sameNow]
  by_cases hkx:k=x
  ·subst hkx;refine .inl ⟨by simp,i,?_⟩;have:=hv e (by simp);simp[Instr.findNow,hs,this]
  ·have hb:(k==x)=false:=by simpa using hkx
   rcases kg k es ks (i+1) h.2 (λ e he=>hv e (by simp[he])) with⟨h1,j,h2⟩|⟨h1,h2⟩
   ·exact .inl ⟨by simp[h1],j,by simp[Instr.findNow,hs,hb,h2]⟩
   ·exact .inr ⟨by simp[h1,hkx],by simp[Instr.findNow,hs,hb,h2]⟩
 | [],_ :: _,_,h,_=>by simp at h
 | _ :: _,[],_,h,_=>by simp at h
structure JV (P:Program) (t k e:TypeId) (z:Value):Prop where
 u:P.underlying t=some (.map k e)
 z:(P.info? e).bind (·.zero)=some z
section
variable {P:Program} {t kt et:TypeId} {w0 w:World} {B:aJ} {r:Nat} {ks:List Int}
theorem oH(hk:P.underlying kt=some (.int .i64))(b:Bool)(n:Nat)(k:Int)(w:World):(Instr.checkKey b (n+1) kt (iv k)).run P w=.ok () w:=by
 simp[Instr.checkKey,aT hk]
theorem si(hT:JV P t kt et (.bool false))(hk:P.underlying kt=some (.int .i64))(s:St w0 w (star (sX r ks) B))(k:Int){R:Bool->World->Prop}(h:R (decide (k∈ks)) w) :
  aW P (Instr.lookup t (.map (some r)) (iv k) false) w λ e w'=>∃ b:Bool,e=.bool b/\R b w':=by
 obtain⟨⟨⟨es,cl⟩,h1,h2⟩,s'⟩:=s.ex;have ho:w.heap[r]?=some (.map es cl):=s'.obj;have hz:(zeroValue et).run P w=.ok (.bool false) w:=by
  have:=hT.z
  cases hi:P.info? et with
  | none=>simp[hi] at this
  | some i=>simp[hi] at this; simp[zeroValue,typeInfo,hi,this]
 have hc:=oH (P:=P) hk es.isEmpty 9999 k w;rcases kg k es.toList ks 0 h1 h2 with⟨hm,j,hf⟩|⟨hm,hf⟩
 ·refine⟨.bool true,w,?_,true,rfl,by rwa [decide_eq_true hm] at h⟩;simp[Instr.lookup,aT hT.u,Instr.findKey,aT hk,hf,ho,hc,getObj,Sem.run]
 ·refine⟨.bool false,w,?_,false,rfl,by rwa [decide_eq_false hm] at h⟩;simp[Instr.lookup,aT hT.u,Instr.findKey,aT hk,hf,ho,hc,hz,getObj,Sem.run]
theorem uH(hT:JV P t kt et (.bool false))(hk:P.underlying kt=some (.int .i64))(s:St w0 w (star (sX r ks) B))(k:Int)(hn:k∉ks){R:World->Prop}(h:∀ w',ax w w' [r]->St w0 w' (star (sX r (ks++[k])) B)->R w'):aW P (Instr.mapUpdate t (.map (some r)) (iv k) (.bool true)) w λ _ w'=>R w':=by
 obtain⟨⟨⟨es,cl⟩,h1,h2⟩,s'⟩:=s.ex;have ho:w.heap[r]?=some (.map es cl):=s'.obj;have hc:=oH (P:=P) hk false 9999 k w;rcases kg k es.toList ks 0 h1 h2 with⟨hm,_⟩|⟨hm,hf⟩
 ·exact absurd hm hn
 ·have hs:=s'.put (.map (es.push { key:=iv k,val:=.bool true,born:=cl }) (cl+1));have hr:(Instr.mapUpdate t (.map (some r)) (iv k) (.bool true)).run P w=.ok () { w with heap:=w.heap.setIfInBounds r (.map (es.push { key:=iv k,val:=.bool true,born:=cl }) (cl+1)) }:=by
   simp[Instr.mapUpdate,aT hT.u,Instr.findKey,aT hk,hf,ho,hc,setObj,getObj,Sem.run]
  refine⟨_,_,hr,h _ (ax.put w r _ (by simp)) (St.Is (f:=λ (x:{ p:Array MapEntry×Nat // B5 p.1 (ks++[k]) })=>dU r (.map x.1.1 x.1.2)) ⟨(_,_),?_,?_⟩ hs)⟩
  ·simp[h1]
  ·intro e he;have he' : e∈es.toList++[{ key:=iv k,val:=.bool true,born:=cl }]:=by simpa using he
   rcases List.mem_append.1 he' with he|he
   ·exact h2 e he
   ·rw[List.mem_singleton.1 he]
theorem xC{ty:TypeId}(hT:JV P t kt et (.bool false))(s:St w0 w (star (sX r ks) B)){R:World->Prop}(h:∀ w',ax w w' [r]->St w0 w' (star (sX r []) B)->R w') :
  aW P (Builtin.clear_ #[t] ty #[.map (some r)]) w λ _ w'=>R w':=by
 obtain⟨⟨⟨es,cl⟩,h1,h2⟩,s'⟩:=s.ex;have ho:w.heap[r]?=some (.map es cl):=s'.obj;have hs:=s'.put (.map #[] cl);have hr:(Builtin.clear_ #[t] ty #[.map (some r)]).run P w=.ok (.tuple #[]) { w with heap:=w.heap.setIfInBounds r (.map #[] cl) }:=by
  simp[Builtin.clear_,aT hT.u,ho,setObj,getObj,Sem.run]
 exact⟨_,_,hr,h _ (ax.put w r _ (by simp)) (St.Is (f:=λ (x:{ p:Array MapEntry×Nat // B5 p.1 [] })=>dU r (.map x.1.1 x.1.2)) ⟨(_,_),by simp,by simp⟩ hs)⟩
theorem CQ{t' : TypeId}(s:St w0 w B){R:Option Nat->World->Prop}(h:∀ r w',ax w w' []->St w0 w' (star (dU r (.map #[] 0)) B)->R (some r) w'):aW P (Instr.makeMap t' none) w λ e w'=>∃ m:Option Nat,e=.map m/\R m w':=by
 refine⟨_,_,?_,_,rfl,h _ _ (ax.new w (.map #[] 0) []) (s.newObj (.map #[] 0)).swap⟩;simp[Instr.makeMap,newObj,Sem.run]
theorem St.JP(s:St w0 w (star (dU r (.map #[] 0)) B)):St w0 w (star (sX r []) B) :=
 St.Is (f:=λ (x:{ p:Array MapEntry×Nat // B5 p.1 [] })=>dU r (.map x.1.1 x.1.2)) ⟨(#[],0),by simp,by simp⟩ s
end
end Go.Vc
namespace Go.Vc
structure Lo where
 v:Nat->Int
 f:Nat->Int
 lr:Nat->Nat
 ch:Int
def iP{α:Type}(f:Nat->α)(i:Nat)(x:α):Nat->α:=λ j=>if j=i then x else f j
theorem bD{α:Type}(f:Nat->α)(i:Nat)(x:α):iP f i x i=x:=if_pos rfl
theorem di{α:Type}(f:Nat->α){i j:Nat}(x:α)(h:j≠i):iP f i x j=f j:=if_neg h
theorem ri{α:Type}(f:Nat->α)(n i:Nat)(x:α):((List.range n).map f).set i x=(List.range n).map (iP f i x):=by
 refine List.ext_getElem? λ j=>?_;rw[List.getElem?_set,List.length_map,List.length_range,List.getElem?_map,List.getElem?_map]
 by_cases h:i=j
 ·subst h;rw[if_pos rfl]
  by_cases hl:i<n
  ·rw[if_pos hl,List.getElem?_range hl,Option.map_some,bD]
  ·rw[if_neg hl,List.getElem?_eq_none (by simpa using hl),Option.map_none]
 ·rw[if_neg h]
  cases hj:(List.range n)[j]? with
  | none=>rfl
  | some k =>
   have:k=j:=by
    obtain⟨hl,e⟩:=List.getElem?_eq_some_iff.1 hj;simpa using e.symm
   subst this;rw[Option.map_some,Option.map_some,di _ _ (Ne.symm h)]
def IX:Lo:=⟨λ _=>0,λ _=>-1,λ _=>0,-1⟩
def tA(g:Nat->Nat->Int)(r a b:Nat)(t:Lo):Lo:=if t.v a+g a b<t.v b then { v:=iP t.v b (t.v a+g a b),f:=iP t.f b a,lr:=iP t.lr b r,ch:=b } else t
def tH(g:Nat->Nat->Int)(r a:Nat):Nat->Lo->Lo
 | 0,t=>t
 | b+1,t=>tA g r a b (tH g r a b t)
def wY(g:Nat->Nat->Int)(n r:Nat):Nat->Lo->Lo
 | 0,t=>t
 | a+1,t=>tH g r a n (wY g n r a t)
def CI(g:Nat->Nat->Int)(n r:Nat)(s:Lo):Lo:=wY g n r n { s with ch:=-1 }
def Ew(g:Nat->Nat->Int)(n:Nat):Nat->Nat->Lo->Lo
 | 0,_,s=>s
 | k+1,r,s=>if (CI g n (r+1) s).ch<0 then CI g n (r+1) s else Ew g n k (r+1) (CI g n (r+1) s)
def gI(g:Nat->Nat->Int)(n:Nat):Lo:=Ew g n n 0 IX
structure AZ (g:Nat->Nat->Int) (n:Nat) (G T:Int) (r a b:Nat) (s:Lo):Prop where
 lo:∀ x,x<n->-(G*(T+1))<=s.v x/\s.v x<=0
 la:a<n->-(G*T)<=s.v a
 lr:∀ x,x<n->s.lr x<=r
 f:∀ y,y<n->(s.f y=-1/\s.lr y=0)\/∃ p,p<n/\s.f y=(p:Int)/\1<=s.lr y/\s.lr y<=s.lr p+1
 ch:s.ch<0\/∃ c,c<n/\s.ch=(c:Int)/\s.lr c=r
 dn:∀ x,x<n->x<a->s.lr x<r->∀ y,y<n->s.v y<=s.v x+g x y
 nx:∀ x,x<n->a<=x->s.lr x+1<r->∀ y,y<n->s.v y<=s.v x+g x y
 cu:a<n->∀ y,y<b->s.v y<=s.v a+g a y
structure Cg (g:Nat->Nat->Int) (n:Nat) (G T:Int) (r a:Nat) (s:Lo):Prop where
 i:AZ g n G T r a 0 s
 b:∀ x,x<n->-(G*T)<=s.v x
section
variable {g:Nat->Nat->Int} {n:Nat} {G T:Int} {r a b:Nat} {s:Lo}
theorem AZ.HF(h:AZ g n G T r n 0 s)(hb:∀ x,x<n->-(G*T)<=s.v x):AZ g n G T (r+1) 0 0 { s with ch:=-1 } :=
 ⟨h.lo,λ hn=>hb 0 hn,λ x hx=>Nat.le_succ_of_le (h.lr x hx),h.f,.inl (show(-1:Int)<0 by decide),λ x _ hx=>absurd hx (Nat.not_lt_zero x),λ x hx _ hl y hy=>h.dn x hx hx (Nat.lt_of_succ_lt_succ hl) y hy,λ _ y hy=>absurd hy (Nat.not_lt_zero y)⟩
theorem AZ.tA(h:AZ g n G T r a b s)(g0:∀ a,g a a=0)(gb:∀ a b,a<n->b<n->-G<=g a b/\g a b<=G)(hr:1<=r)(ha:a<n)(hb:b<n):AZ g n G T r a (b+1) (tA g r a b s):=by
 unfold Vc.tA
 split
 ·rename_i hlt;have hab:a≠b:=λ e=>by subst e; rw[g0 a] at hlt; omega
  have hra:r<=s.lr a+1:=by
   rcases Nat.lt_or_ge (s.lr a+1) r with h1|h1
   ·have:=h.nx a ha (Nat.le_refl a) h1 b hb;omega
   ·exact h1
  have vb:∀ x,iP s.v b (s.v a+g a b) x<=s.v x:=λ x=>by
   by_cases e:x=b
   ·subst e; rw[bD]; omega
   ·rw[di _ _ e]; exact Int.le_refl _
  have va:iP s.v b (s.v a+g a b) a=s.v a:=di _ _ hab;refine⟨λ x hx=>?_,λ _=>?_,λ x hx=>?_,λ y hy=>?_,.inr ⟨b,hb,rfl,bD _ _ _⟩,λ x hx hxa hl y hy=>?_,λ x hx hxa hl y hy=>?_,λ _ y hy=>?_⟩
  ·show -(G*(T+1))<=iP s.v b _ x/\iP s.v b _ x<=0;have h0:=h.lo x hx;have h1:=vb x;refine⟨?_,by omega⟩
   by_cases e:x=b
   ·subst e;rw[bD];have h2:=h.la ha;have h3:=(gb a x ha hx).1;rw[Int.mul_add,Int.mul_one];omega
   ·rw[di _ _ e]; exact h0.1
  ·show -(G*T)<=iP s.v b _ a;rw[va]; exact h.la ha
  ·show iP s.lr b r x<=r
   by_cases e:x=b
   ·subst e; rw[bD]; exact Nat.le_refl _
   ·rw[di _ _ e]; exact h.lr x hx
  ·show(iP s.f b (a:Int) y=-1/\iP s.lr b r y=0)\/∃ p,p<n/\iP s.f b (a:Int) y=(p:Int)/\1<=iP s.lr b r y/\iP s.lr b r y<=iP s.lr b r p+1;have up:∀ p,p<n->s.lr p<=iP s.lr b r p:=λ p hp=>by
    by_cases e:p=b
    ·subst e; rw[bD]; exact h.lr p hp
    ·rw[di _ _ e]; exact Nat.le_refl _
   by_cases e:y=b
   ·subst e;rw[bD,bD];exact .inr ⟨a,ha,rfl,hr,by have:=up a ha; omega⟩
   ·rw[di _ _ e,di _ _ e];rcases h.f y hy with h1|⟨p,hp,h1,h2,h3⟩
    ·exact .inl h1
    ·exact .inr ⟨p,hp,h1,h2,by have:=up p hp; omega⟩
  ·show iP s.v b _ y<=iP s.v b _ x+g x y;have hl:iP s.lr b r x<r:=hl;have e:x≠b:=λ e=>by subst e; rw[bD] at hl; omega
   rw[di _ _ e] at hl;rw[di (i:=b) (j:=x) _ _ e];have:=h.dn x hx hxa hl y hy;have:=vb y;omega
  ·show iP s.v b _ y<=iP s.v b _ x+g x y;have hl:iP s.lr b r x+1<r:=hl;have e:x≠b:=λ e=>by subst e; rw[bD] at hl; omega
   rw[di _ _ e] at hl;rw[di (i:=b) (j:=x) _ _ e];have:=h.nx x hx hxa hl y hy;have:=vb y;omega
  ·show iP s.v b _ y<=iP s.v b _ a+g a y;rw[va]
   by_cases e:y=b
   ·subst e; rw[bD]; exact Int.le_refl _
   ·have:=h.cu ha y (by omega);have:=vb y;omega
 ·rename_i hlt;exact⟨h.lo,h.la,h.lr,h.f,h.ch,h.dn,h.nx,λ _ y hy=>by
   by_cases e:y=b
   ·subst e; omega
   ·exact h.cu ha y (by omega)⟩
theorem AZ.tH(h:AZ g n G T r a 0 s)(g0:∀ a,g a a=0)(gb:∀ a b,a<n->b<n->-G<=g a b/\g a b<=G)(hr:1<=r)(ha:a<n):∀ b,b<=n->AZ g n G T r a b (tH g r a b s)
 | 0,_=>h
 | b+1,hb=>(AZ.tH h g0 gb hr ha b (Nat.le_of_succ_le hb)).tA g0 gb hr ha hb
theorem AZ.Jt(h:AZ g n G T r a n s)(hG:0<=G)(ha:a<n):Cg g n G (T+1) r (a+1) s:=by
 have e:G*(T+1+1)=G*(T+1)+G:=by rw[Int.mul_add G (T+1),Int.mul_one]
 refine⟨⟨λ x hx=>?_,λ hx=>(h.lo (a+1) hx).1,h.lr,h.f,h.ch,λ x hx hxa hl y hy=>?_,λ x hx hxa hl y hy=>h.nx x hx (by omega) hl y hy,λ _ y hy=>absurd hy (Nat.not_lt_zero y)⟩,λ x hx=>(h.lo x hx).1⟩
 ·have:=h.lo x hx;rw[e];omega
 ·by_cases e:x=a
  ·subst e; exact h.cu hx y hy
  ·exact h.dn x hx (by omega) hl y hy
theorem Cg.wY(h:Cg g n G T r 0 s)(hG:0<=G)(g0:∀ a,g a a=0)(gb:∀ a b,a<n->b<n->-G<=g a b/\g a b<=G)(hr:1<=r):∀ a,a<=n->Cg g n G (T+(a:Int)) r a (wY g n r a s)
 | 0,_=>by rw[show T+((0:Nat):Int)=T by omega]; exact h
 | a+1,ha=>by
  have ih:=Cg.wY h hG g0 gb hr a (Nat.le_of_succ_le ha);have:=(ih.i.tH g0 gb hr ha n (Nat.le_refl n)).Jt hG ha;rw[show T+((a+1:Nat):Int)=T+(a:Int)+1 by omega];exact this
theorem HD(hG:0<=G):Cg g n G 0 0 n IX:=by
 refine⟨⟨λ x _=>?_,λ h=>absurd h (Nat.lt_irrefl n),λ _ _=>Nat.le_refl 0,λ _ _=>.inl ⟨rfl,rfl⟩,.inl (show(-1:Int)<0 by decide),λ _ _ _ h=>absurd h (Nat.lt_irrefl 0),λ _ _ _ h=>absurd h (Nat.not_lt_zero _),λ h=>absurd h (Nat.lt_irrefl n)⟩,λ x _=>?_⟩
 ·show -(G*(0+1))<=0/\(0:Int)<=0;rw[Int.zero_add,Int.mul_one]; omega
 ·show -(G*0)<=0;rw[Int.mul_zero]; omega
theorem HE(hG:0<=G)(g0:∀ a,g a a=0)(gb:∀ a b,a<n->b<n->-G<=g a b/\g a b<=G):∀ (k r:Nat) (T:Int) (s:Lo),r+k=n->Cg g n G T r n s->∃ r' T',Cg g n G T' r' n (Ew g n k r s)/\(0<=(Ew g n k r s).ch->r' = n)
 | 0,r,T,s,hk,h=>⟨r,T,h,λ _=>hk⟩
 | k+1,r,T,s,hk,h=>by
  have h1:Cg g n G T (r+1) 0 { s with ch:=-1 }:=⟨h.i.HF h.b,h.b⟩;have h2:Cg g n G (T+(n:Int)) (r+1) n (CI g n (r+1) s):=h1.wY hG g0 gb (by omega) n (Nat.le_refl n);unfold Ew
  split
  ·rename_i hc;exact⟨r+1,_,h2,λ h=>absurd h (by omega)⟩
  ·exact HE hG g0 gb k (r+1) _ _ (by omega) h2
theorem CK(hG:0<=G)(g0:∀ a,g a a=0)(gb:∀ a b,a<n->b<n->-G<=g a b/\g a b<=G):∃ r T,Cg g n G T r n (gI g n)/\(0<=(gI g n).ch->r=n) :=
 HE hG g0 gb n 0 0 IX (by omega) (HD hG)
end
end Go.Vc
namespace Go.Vc
def GR(x:Int):List Int->Int
 | []=>x
 | y :: l=>GR (if y<x then y else x) l
theorem Ad:∀ {l:List Int} {x:Int},GR x l<=x
 | [],x=>Int.le_refl x
 | y :: l,x=>by
  have h:GR x (y :: l)<=if y<x then y else x:=Ad (l:=l)
  refine Int.le_trans h ?_
  split<;>omega
theorem Bt:∀ {l:List Int} {x y:Int},y∈l->GR x l<=y
 | z :: l,x,y,h=>by
  rcases List.mem_cons.1 h with h|h
  ·subst h;have h:GR x (y :: l)<=if y<x then y else x:=Ad (l:=l)
   refine Int.le_trans h ?_
   split<;>omega
  ·exact Bt (x:=if z<x then z else x) h
theorem Ez:∀ {l:List Int} {x:Int},GR x l=x\/GR x l∈l
 | [],x=>.inl rfl
 | y :: l,x=>by
  unfold GR;rcases Ez (l:=l) (x:=if y<x then y else x) with h|h
  ·rw[h]
   split
   ·exact .inr (List.mem_cons_self ..)
   ·exact .inl rfl
  ·exact .inr (List.mem_cons_of_mem _ h)
theorem xZ:∀ (n:Nat) (l:List Nat),l.Nodup->(∀ x∈l,x<n)->l.length<=n
 | 0,l,_,h=>by
  cases l with
  | nil=>exact Nat.le_refl _
  | cons x l=>exact absurd (h x (List.mem_cons_self ..)) (Nat.not_lt_zero x)
 | n+1,l,hd,h=>by
  have h1:=xZ n (l.erase n) (hd.erase n) λ x hx=>by
   have h2:=List.mem_of_mem_erase hx;have h3:=h x h2;have h4:x≠n:=λ e=>by subst e; exact(List.Nodup.not_mem_erase hd) hx
   omega
  rw[List.length_erase] at h1
  split at h1<;>omega
section
variable (N:Nat) (g:Nat->Nat->List Int)
def dst:Nat->Nat->Int
 | 0,_=>0
 | k+1,b=>GR (dst k b) ((List.range N).flatMap λ a=>(g a b).map λ x=>dst k a+x)
variable {N g}
theorem D0(k b:Nat):dst N g (k+1) b<=dst N g k b:=Ad
theorem xH{k a b:Nat}{x:Int}(ha:a<N)(hx:x∈g a b):dst N g (k+1) b<=dst N g k a+x :=
 Bt (List.mem_flatMap.2 ⟨a,List.mem_range.2 ha,List.mem_map.2 ⟨x,hx,rfl⟩⟩)
theorem vA(k b:Nat):dst N g (k+1) b=dst N g k b\/∃ a x,a<N/\x∈g a b/\dst N g (k+1) b=dst N g k a+x:=by
 rcases Ez (l:=(List.range N).flatMap λ a=>(g a b).map λ x=>dst N g k a+x) (x:=dst N g k b) with h|h
 ·exact .inl h
 ·obtain⟨a,ha,h2⟩:=List.mem_flatMap.1 h;obtain⟨x,hx,h3⟩:=List.mem_map.1 h2;exact .inr ⟨a,x,List.mem_range.1 ha,hx,h3.symm⟩
theorem nR{b:Nat}:∀ {j k:Nat},j<=k->dst N g k b<=dst N g j b
 | j,0,h=>by
  obtain rfl:j=0:=by omega
  exact Int.le_refl _
 | j,k+1,h=>by
  rcases Nat.lt_or_ge j (k+1) with h1|h1
  ·exact Int.le_trans (D0 k b) (nR (by omega))
  ·obtain rfl:j=k+1:=by omega
   exact Int.le_refl _
def fZ(N:Nat)(g:Nat->Nat->List Int)(p:Nat->Int):Prop:=∀ a b,a<N->b<N->∀ x∈g a b,p b<=p a+x
theorem Cz{p:Nat->Int}(hp:fZ N g p):∀ (k b:Nat),b<N->dst N g (k+1) b<dst N g k b ->
  ∃ L:List Nat,L.length=k+1/\(b :: L).Nodup/\(∀ c∈L,c<N)/\∀ c∈L,∃ j,j<=k/\dst N g (k+1) b-dst N g j c>=p b-p c:=λ k=>by
 have fin:∀ {k b:Nat} {L:List Nat},dst N g (k+1) b<dst N g k b->(∀ c∈L,∃ j,j<=k/\dst N g (k+1) b-dst N g j c>=p b-p c)->b∉L:=λ {k b L} hlt hc hb=>by
  obtain⟨j,hj,h⟩:=hc b hb;have:=nR (N:=N) (g:=g) (b:=b) hj;omega
 induction k with
 | zero =>
  intro b hb hlt;rcases vA (N:=N) (g:=g) 0 b with h|⟨a,x,ha,hx,h⟩
  ·omega
  ·have hc:∀ c∈[a],∃ j,j<=0/\dst N g (0+1) b-dst N g j c>=p b-p c:=λ c hc=>by
    cases List.mem_singleton.1 hc
    have:=hp a b ha hb x hx;exact⟨0,Nat.le_refl _,by rw[h]; omega⟩
   refine⟨[a],rfl,List.nodup_cons.2 ⟨fin hlt hc,by simp⟩,λ c hc=>?_,hc⟩
   cases List.mem_singleton.1 hc; exact ha
 | succ k ih =>
  intro b hb hlt;rcases vA (N:=N) (g:=g) (k+1) b with h|⟨a,x,ha,hx,h⟩
  ·omega
  ·have h1:dst N g (k+1) a<dst N g k a:=by
    have h2:=xH (N:=N) (k:=k) ha hx;omega
   obtain⟨L,hl,hd,hN,hc⟩:=ih a ha h1;have hpa:=hp a b ha hb x hx;have hc' : ∀ c∈a :: L,∃ j,j<=k+1/\dst N g (k+1+1) b-dst N g j c>=p b-p c:=λ c hcm=>by
    rcases List.mem_cons.1 hcm with e|hm
    ·subst e;exact⟨k+1,Nat.le_refl _,by omega⟩
    ·obtain⟨j,hj,h3⟩:=hc c hm;exact⟨j,by omega,by omega⟩
   refine⟨a :: L,by simp[hl],List.nodup_cons.2 ⟨fin hlt hc',hd⟩,λ c hcm=>?_,hc'⟩;rcases List.mem_cons.1 hcm with e|hm
   ·subst e; exact ha
   ·exact hN c hm
theorem D4{p:Nat->Int}(hp:fZ N g p){k b:Nat}(hb:b<N)(hk:N<=k+1):dst N g (k+1) b=dst N g k b:=by
 rcases Int.lt_or_le (dst N g (k+1) b) (dst N g k b) with h|h
 ·obtain⟨L,hl,hd,hN,_⟩:=Cz hp k b hb h;have:=xZ N (b :: L) hd λ x hx=>by
   rcases List.mem_cons.1 hx with e|hm
   ·subst e; exact hb
   ·exact hN x hm
  simp only[List.length_cons] at this;omega
 ·have:=D0 (N:=N) (g:=g) k b;omega
theorem xI{p:Nat->Int}(hp:fZ N g p){k:Nat}(hk:N<=k+1):fZ N g (dst N g k):=λ a b ha hb x hx=>by
 have h1:=xH (N:=N) (k:=k) ha hx;rw[D4 hp hb hk] at h1;exact h1
end
section
variable {g:Nat->Nat->Int} {n r a b:Nat} {s t:Lo}
abbrev g1 (g:Nat->Nat->Int):Nat->Nat->List Int:=λ a b=>[g a b]
theorem Dl(h:(tA g r a b t).ch<0):tA g r a b t=t/\t.v b<=t.v a+g a b:=by
 unfold tA at h ⊢
 split
 ·rename_i hl;rw[if_pos hl] at h;exact absurd h (by show ¬ ((b:Int)<0); omega)
 ·exact⟨rfl,by omega⟩
theorem ur:∀ {m:Nat} {t:Lo},(tH g r a m t).ch<0->tH g r a m t=t/\∀ b,b<m->t.v b<=t.v a+g a b
 | 0,t,_=>⟨rfl,λ b hb=>by omega⟩
 | m+1,t,h=>by
  obtain⟨h1,h2⟩:=Dl (show(tA g r a m (tH g r a m t)).ch<0 from h);have h3:(tH g r a m t).ch<0:=by rw[<- h1]; exact h
  obtain⟨h4,h5⟩:=ur h3;rw[h4] at h2;refine⟨h1.trans h4,λ b hb=>?_⟩;rcases Nat.lt_or_ge b m with h' | h'
  ·exact h5 b h'
  ·obtain rfl:b=m:=by omega
   exact h2
theorem uq:∀ {m:Nat} {t:Lo},(wY g n r m t).ch<0->wY g n r m t=t/\∀ a,a<m->∀ b,b<n->t.v b<=t.v a+g a b
 | 0,t,_=>⟨rfl,λ a ha=>by omega⟩
 | m+1,t,h=>by
  obtain⟨h1,h2⟩:=ur (show(tH g r m n (wY g n r m t)).ch<0 from h);have h3:(wY g n r m t).ch<0:=by rw[<- h1]; exact h
  obtain⟨h4,h5⟩:=uq h3;rw[h4] at h2;refine⟨h1.trans h4,λ a ha=>?_⟩;rcases Nat.lt_or_ge a m with h' | h'
  ·exact h5 a h'
  ·obtain rfl:a=m:=by omega
   exact h2
theorem CJ(h:(CI g n r s).ch<0):fZ n (g1 g) (CI g n r s).v:=by
 obtain⟨h1,h2⟩:=uq h;intro a b ha hb x hx
 cases List.mem_singleton.1 hx
 have h1:CI g n r s={ s with ch:=-1 }:=h1;have e:(CI g n r s).v=s.v:=by rw[h1]
 rw[e];exact h2 a ha b hb
theorem uu:∀ {k r:Nat} {s:Lo},0<k->(Ew g n k r s).ch<0->∃ p,fZ n (g1 g) p
 | k+1,r,s,_,h=>by
  unfold Ew at h
  split at h
  ·rename_i hc; exact⟨_,CJ hc⟩
  ·rename_i hc
   cases k with
   | zero=>exact absurd h hc
   | succ k=>exact uu (Nat.succ_pos k) h
theorem vN(h:(gI g n).ch<0):∃ p,fZ n (g1 g) p:=by
 rcases Nat.eq_zero_or_pos n with h0|h0
 ·subst h0; exact⟨λ _=>0,λ a b ha=>by omega⟩
 ·exact uu h0 h
structure FU (g:Nat->Nat->Int) (n:Nat) (q:Nat->Int) (s t:Lo):Prop where
 le:∀ b,t.v b<=s.v b
 ge:(∀ b,b<n->q b<=s.v b)->∀ b,b<n->q b<=t.v b
theorem FU.refl{q:Nat->Int}:FU g n q s s:=⟨λ _=>Int.le_refl _,λ h=>h⟩
theorem FU.trans{q:Nat->Int}{u:Lo}(h1:FU g n q s t)(h2:FU g n q t u):FU g n q s u:=⟨λ b=>Int.le_trans (h2.le b) (h1.le b),λ h=>h2.ge (h1.ge h)⟩
theorem IJ{q:Nat->Int}(hq:fZ n (g1 g) q)(ha:a<n)(hb:b<n):FU g n q t (tA g r a b t)/\(tA g r a b t).v b<=t.v a+g a b:=by
 unfold tA
 split
 ·rename_i hl;refine⟨⟨λ c=>?_,λ h c hc=>?_⟩,?_⟩
  ·show iP t.v b _ c<=t.v c
   by_cases e:c=b
   ·subst e; rw[bD]; omega
   ·rw[di _ _ e]; exact Int.le_refl _
  ·show q c<=iP t.v b _ c
   by_cases e:c=b
   ·subst e; rw[bD];have h1:=hq a c ha hb _ (List.mem_singleton.2 rfl);have h2:=h a ha;omega
   ·rw[di _ _ e]; exact h c hc
  ·show iP t.v b _ b<=_;rw[bD]; exact Int.le_refl _
 ·exact⟨.refl,by omega⟩
theorem Eu{q:Nat->Int}(hq:fZ n (g1 g) q)(ha:a<n):∀ {m:Nat},m<=n->FU g n q t (tH g r a m t)/\∀ b,b<m->(tH g r a m t).v b<=t.v a+g a b
 | 0,_=>⟨.refl,λ b hb=>by omega⟩
 | m+1,hm=>by
  obtain⟨h1,h2⟩:=Eu hq ha (m:=m) (by omega);obtain⟨h3,h4⟩:=IJ (t:=tH g r a m t) (r:=r) hq ha (show m<n by omega);refine⟨h1.trans h3,λ b hb=>?_⟩;show(tA g r a m (tH g r a m t)).v b<=_;rcases Nat.lt_or_ge b m with h' | h'
  ·exact Int.le_trans (h3.le b) (h2 b h')
  ·obtain rfl:b=m:=by omega
   have:=h1.le a;omega
theorem Et{q:Nat->Int}(hq:fZ n (g1 g) q):∀ {m:Nat},m<=n->FU g n q t (wY g n r m t)/\∀ a,a<m->∀ b,b<n->(wY g n r m t).v b<=t.v a+g a b
 | 0,_=>⟨.refl,λ a ha=>by omega⟩
 | m+1,hm=>by
  obtain⟨h1,h2⟩:=Et hq (m:=m) (by omega);obtain⟨h3,h4⟩:=Eu (t:=wY g n r m t) (r:=r) hq (show m<n by omega) (Nat.le_refl n);refine⟨h1.trans h3,λ a ha b hb=>?_⟩;show(tH g r m n (wY g n r m t)).v b<=_;rcases Nat.lt_or_ge a m with h' | h'
  ·exact Int.le_trans (h3.le b) (h2 a h' b hb)
  ·obtain rfl:a=m:=by omega
   have:=h4 b hb;have:=h1.le a;omega
theorem xT(hf:∀ b,b<n->t.v b<=t.v a+g a b):∀ {m:Nat},m<=n->tH g r a m t=t
 | 0,_=>rfl
 | m+1,hm=>by
  have e:=xT hf (m:=m) (by omega);show tA g r a m (tH g r a m t)=t;rw[e,tA,if_neg (by have:=hf m (by omega); omega)]
theorem xS(hf:∀ a,a<n->∀ b,b<n->t.v b<=t.v a+g a b):∀ {m:Nat},m<=n->wY g n r m t=t
 | 0,_=>rfl
 | m+1,hm=>by
  have e:=xS hf (m:=m) (by omega);show tH g r m n (wY g n r m t)=t;rw[e]; exact xT (hf m (by omega)) (Nat.le_refl n)
theorem xU{p:Nat->Int}(hp:fZ n (g1 g) p):∀ {k r:Nat} {s:Lo},0<k->k+r=n->(∀ b,b<n->s.v b<=dst n (g1 g) r b)->(∀ b,b<n->dst n (g1 g) (n-1) b<=s.v b)->(Ew g n k r s).ch<0
 | k+1,r,s,_,hk,h1,h2=>by
  have hq:=xI hp (k:=n-1) (by omega);obtain⟨h3,h4⟩:=Et (t:={ s with ch:=-1 }) (r:=r+1) hq (Nat.le_refl n);unfold Ew
  split
  ·assumption
  ·rename_i hc
   cases k with
   | zero =>
    exfalso; apply hc
    have e:∀ b,b<n->s.v b=dst n (g1 g) (n-1) b:=λ b hb=>by
     have:=h1 b hb; have:=h2 b hb;have e2:r=n-1:=by omega
     subst e2; omega
    have:CI g n (r+1) s={ s with ch:=-1 }:=xS (λ a ha b hb=>by
     show s.v b<=s.v a+g a b;rw[e a ha,e b hb];exact hq a b ha hb _ (List.mem_singleton.2 rfl)) (Nat.le_refl n)
    rw[this];show(-1:Int)<0
    decide
   | succ k =>
    refine xU hp (Nat.succ_pos k) (by omega) (λ b hb=>?_) (h3.ge h2);rcases vA (N:=n) (g:=g1 g) r b with h|⟨a,x,ha,hx,h⟩
    ·rw[h]; exact Int.le_trans (h3.le b) (h1 b hb)
    ·cases List.mem_singleton.1 hx
     rw[h];have h5:=h4 a ha b hb;have h6:=h1 a ha;exact Int.le_trans h5 (Int.add_le_add_right h6 _)
theorem vM{p:Nat->Int}(hp:fZ n (g1 g) p):(gI g n).ch<0:=by
 rcases Nat.eq_zero_or_pos n with h0|h0
 ·subst h0; show(-1:Int)<0; decide
 ·exact xU hp h0 (by omega) (λ b hb=>Int.le_refl _) λ b hb=>nR (j:=0) (by omega)
theorem xV:(gI g n).ch<0<->∃ p,fZ n (g1 g) p:=⟨vN,λ ⟨_,h⟩=>vM h⟩
end
end Go.Vc
namespace Go.Vc
structure Qs where
 v:Nat->Int
 calm:Bool
section
variable (c:Nat->Nat->Int) (hit:Nat->Nat->Bool) (n N:Nat)
def qJ(x:Int)(h:Nat->Bool):Nat->Qs->Qs
 | 0,s=>s
 | m+1,s=>if h m=true/\(qJ x h m s).v m<x then ⟨iP (qJ x h m s).v m x,false⟩ else qJ x h m s
def qK(i:Nat):Nat->Qs->Qs
 | 0,s=>s
 | k+1,s=>qJ ((qK i k s).v k+c i k) (hit i) N (qK i k s)
def qI:Nat->Qs->Qs
 | 0,s=>s
 | i+1,s=>qK c hit N i N (qI i s)
def qR(s:Qs):Qs:=qI c hit N n { s with calm:=true }
def qF:Nat->Qs->Bool
 | 0,_=>false
 | f+1,s=>if (qR c hit n N s).calm=true then true else qF f (qR c hit n N s)
def I9:Bool:=qF c hit n N (N+1) ⟨λ _=>0,true⟩
def gQ:Nat->Nat->List Int:=λ a b=>((List.range n).filter λ i=>hit i b).map λ i=>-(c i a)
variable {c hit n N}
theorem zV{i a b:Nat}(hi:i<n)(hh:hit i b=true) : -(c i a)∈gQ c hit n a b:=List.mem_map.2 ⟨i,List.mem_filter.2 ⟨List.mem_range.2 hi,hh⟩,rfl⟩
theorem vG{a b:Nat}{x:Int}(h:x∈gQ c hit n a b):∃ i,i<n/\hit i b=true/\x=-(c i a):=by
 obtain⟨i,hi,e⟩:=List.mem_map.1 h;obtain⟨h1,h2⟩:=List.mem_filter.1 hi;exact⟨i,List.mem_range.1 h1,h2,e.symm⟩
theorem E3(x:Int)(h:Nat->Bool)(s:Qs):∀ (m j:Nat),(qJ x h m s).v j=if j<m/\h j=true/\s.v j<x then x else s.v j
 | 0,j=>by rw[if_neg (by omega)]; rfl
 | m+1,j=>by
  have ih:=E3 x h s m;unfold qJ
  by_cases hm:h m=true/\(qJ x h m s).v m<x
  ·rw[if_pos hm];show iP (qJ x h m s).v m x j=_
   by_cases e:j=m
   ·subst e;rw[bD];have h2:=hm.2;rw[ih j,if_neg (by omega)] at h2;rw[if_pos ⟨by omega,hm.1,h2⟩]
   ·rw[di _ _ e,ih j]
    by_cases g:j<m/\h j=true/\s.v j<x
    ·rw[if_pos g,if_pos ⟨by omega,g.2⟩]
    ·rw[if_neg g,if_neg λ hh=>g ⟨by omega,hh.2⟩]
  ·rw[if_neg hm,ih j]
   by_cases g:j<m/\h j=true/\s.v j<x
   ·rw[if_pos g,if_pos ⟨by omega,g.2⟩]
   ·rw[if_neg g,if_neg];rintro⟨h1,h2,h3⟩
    by_cases e:j=m
    ·subst e;apply hm;rw[ih j,if_neg (by omega)];exact⟨h2,h3⟩
    ·exact g ⟨by omega,h2,h3⟩
theorem yQ{x:Int}{h:Nat->Bool}{s:Qs}:∀ {m:Nat},(qJ x h m s).calm=true->qJ x h m s=s/\∀ j,j<m->h j=true->x<=s.v j
 | 0,_=>⟨rfl,λ j hj=>by omega⟩
 | m+1,hc=>by
  unfold qJ at hc ⊢
  by_cases hm:h m=true/\(qJ x h m s).v m<x
  ·rw[if_pos hm] at hc; cases hc
  ·rw[if_neg hm] at hc ⊢;obtain⟨h1,h2⟩:=yQ hc;refine⟨h1,λ j hj hh=>?_⟩;rcases Nat.lt_or_ge j m with h' | h'
   ·exact h2 j h' hh
   ·obtain rfl:j=m:=by omega
    rw[h1] at hm;rcases Int.lt_or_le (s.v j) x with h3|h3
    ·exact absurd ⟨hh,h3⟩ hm
    ·exact h3
theorem BQ{x:Int}{h:Nat->Bool}{s:Qs}:∀ {m:Nat},(∀ j,j<m->h j=true->x<=s.v j)->qJ x h m s=s
 | 0,_=>rfl
 | m+1,hf=>by
  have e:=BQ (m:=m) λ j hj=>hf j (by omega);unfold qJ;rw[e,if_neg];rintro⟨h1,h2⟩;have:=hf m (by omega) h1;omega
theorem yR{i:Nat}{s:Qs}:∀ {m:Nat},(qK c hit N i m s).calm=true->qK c hit N i m s=s/\∀ k,k<m->∀ j,j<N->hit i j=true->s.v k+c i k<=s.v j
 | 0,_=>⟨rfl,λ k hk=>by omega⟩
 | m+1,hc=>by
  obtain⟨h1,h2⟩:=yQ (show(qJ _ _ N (qK c hit N i m s)).calm=true from hc);have h3:(qK c hit N i m s).calm=true:=by rw[<- h1]; exact hc
  obtain⟨h4,h5⟩:=yR h3;rw[h4] at h2;refine⟨h1.trans h4,λ k hk=>?_⟩;rcases Nat.lt_or_ge k m with h' | h'
  ·exact h5 k h'
  ·obtain rfl:k=m:=by omega
   exact h2
theorem yP{s:Qs}:∀ {m:Nat},(qI c hit N m s).calm=true->qI c hit N m s=s/\∀ i,i<m->∀ k,k<N->∀ j,j<N->hit i j=true->s.v k+c i k<=s.v j
 | 0,_=>⟨rfl,λ k hk=>by omega⟩
 | m+1,hc=>by
  obtain⟨h1,h2⟩:=yR (show(qK c hit N m N (qI c hit N m s)).calm=true from hc);have h3:(qI c hit N m s).calm=true:=by rw[<- h1]; exact hc
  obtain⟨h4,h5⟩:=yP h3;rw[h4] at h2;refine⟨h1.trans h4,λ k hk=>?_⟩;rcases Nat.lt_or_ge k m with h' | h'
  ·exact h5 k h'
  ·obtain rfl:k=m:=by omega
   exact h2
theorem BN:∀ {f:Nat} {s:Qs},qF c hit n N f s=true->∃ p,fZ N (gQ c hit n) p
 | f+1,s,h=>by
  unfold qF at h
  split at h
  ·rename_i hc;obtain⟨_,h2⟩:=yP (show(qI c hit N n { s with calm:=true }).calm=true from hc);refine⟨λ j=>-(s.v j),λ a b ha hb x hx=>?_⟩;obtain⟨i,hi,hh,rfl⟩:=vG hx;have:=h2 i hi a ha b hb hh;show -(s.v b)<=-(s.v a) + -(c i a);simp only[] at this;omega
  ·exact BN h
structure Rq (N:Nat) (q:Nat->Int) (s t:Qs):Prop where
 le:∀ j,s.v j<=t.v j
 up:(∀ j,j<N->s.v j<=-(q j))->∀ j,j<N->t.v j<=-(q j)
theorem Rq.refl{q:Nat->Int}{s:Qs}:Rq N q s s:=⟨λ _=>Int.le_refl _,λ h=>h⟩
theorem Rq.trans{q:Nat->Int}{s t u:Qs}(h1:Rq N q s t)(h2:Rq N q t u):Rq N q s u:=⟨λ b=>Int.le_trans (h1.le b) (h2.le b),λ h=>h2.up (h1.up h)⟩
theorem JB{q:Nat->Int}(hq:fZ N (gQ c hit n) q){i k:Nat}(hi:i<n)(hk:k<N){t:Qs}:Rq N q t (qJ (t.v k+c i k) (hit i) N t)/\∀ j,j<N->hit i j=true->t.v k+c i k<=(qJ (t.v k+c i k) (hit i) N t).v j:=by
 refine⟨⟨λ j=>?_,λ h j hj=>?_⟩,λ j hj hh=>?_⟩
 ·rw[E3]; split<;>omega
 ·rw[E3]
  split
  ·rename_i hg;have h1:=hq k j hk hj _ (zV hi hg.2.1);have h2:=h k hk;omega
  ·exact h j hj
 ·rw[E3]
  by_cases g:t.v j<t.v k+c i k
  ·rw[if_pos ⟨hj,hh,g⟩]; exact Int.le_refl _
  ·rw[if_neg λ h=>g h.2.2]; omega
theorem HJ{q:Nat->Int}(hq:fZ N (gQ c hit n) q){i:Nat}(hi:i<n){s:Qs}:∀ {m:Nat},m<=N->Rq N q s (qK c hit N i m s)/\∀ k,k<m->∀ j,j<N->hit i j=true->s.v k+c i k<=(qK c hit N i m s).v j
 | 0,_=>⟨.refl,λ k hk=>by omega⟩
 | m+1,hm=>by
  obtain⟨h1,h2⟩:=HJ hq hi (s:=s) (m:=m) (by omega);obtain⟨h3,h4⟩:=JB hq hi (show m<N by omega) (t:=qK c hit N i m s);refine⟨h1.trans h3,λ k hk j hj hh=>?_⟩;show _<=(qJ _ _ N (qK c hit N i m s)).v j;rcases Nat.lt_or_ge k m with h' | h'
  ·exact Int.le_trans (h2 k h' j hj hh) (h3.le j)
  ·obtain rfl:k=m:=by omega
   have:=h4 j hj hh;have:=h1.le k;omega
theorem HI{q:Nat->Int}(hq:fZ N (gQ c hit n) q){s:Qs}:∀ {m:Nat},m<=n->Rq N q s (qI c hit N m s)/\∀ i,i<m->∀ k,k<N->∀ j,j<N->hit i j=true->s.v k+c i k<=(qI c hit N m s).v j
 | 0,_=>⟨.refl,λ k hk=>by omega⟩
 | m+1,hm=>by
  obtain⟨h1,h2⟩:=HI hq (s:=s) (m:=m) (by omega);obtain⟨h3,h4⟩:=HJ hq (show m<n by omega) (s:=qI c hit N m s) (Nat.le_refl N);refine⟨h1.trans h3,λ i hi k hk j hj hh=>?_⟩;show _<=(qK c hit N m N (qI c hit N m s)).v j;rcases Nat.lt_or_ge i m with h' | h'
  ·exact Int.le_trans (h2 i h' k hk j hj hh) (h3.le j)
  ·obtain rfl:i=m:=by omega
   have:=h4 k hk j hj hh;have:=h1.le k;omega
theorem BR{i:Nat}{s:Qs}(hf:∀ k,k<N->∀ j,j<N->hit i j=true->s.v k+c i k<=s.v j):∀ {m:Nat},m<=N->qK c hit N i m s=s
 | 0,_=>rfl
 | m+1,hm=>by
  have e:=BR hf (m:=m) (by omega);show qJ ((qK c hit N i m s).v m+c i m) (hit i) N (qK c hit N i m s)=s;rw[e]; exact BQ (hf m (by omega))
theorem BP{s:Qs}(hf:∀ i,i<n->∀ k,k<N->∀ j,j<N->hit i j=true->s.v k+c i k<=s.v j):∀ {m:Nat},m<=n->qI c hit N m s=s
 | 0,_=>rfl
 | m+1,hm=>by
  have e:=BP hf (m:=m) (by omega);show qK c hit N m N (qI c hit N m s)=s;rw[e]; exact BR (hf m (by omega)) (Nat.le_refl N)
theorem BM{p:Nat->Int}(hp:fZ N (gQ c hit n) p)(hN:0<N):∀ {f r:Nat} {s:Qs},1<f->f+r=N+1->(∀ j,j<N->-(dst N (gQ c hit n) r j)<=s.v j)->(∀ j,j<N->s.v j<=-(dst N (gQ c hit n) (N-1) j))->qF c hit n N f s=true
 | f+1,r,s,hf,hfr,h1,h2=>by
  have hq:=xI hp (k:=N-1) (by omega);obtain⟨h3,h4⟩:=HI hq (s:={ s with calm:=true }) (Nat.le_refl n);unfold qF
  by_cases hc:(qR c hit n N s).calm=true
  ·rw[if_pos hc]
  ·rw[if_neg hc]
   by_cases hf1:f=1
   ·exfalso; apply hc
    have e:∀ j,j<N->s.v j=-(dst N (gQ c hit n) (N-1) j):=λ j hj=>by
     have h5:=h1 j hj; have h6:=h2 j hj;have e2:r=N-1:=by omega
     subst e2; omega
    have:qR c hit n N s={ s with calm:=true }:=BP (λ i hi k hk j hj hh=>by
     show s.v k+c i k<=s.v j;rw[e k hk,e j hj];have:=hq k j hk hj _ (zV hi hh);omega) (Nat.le_refl n)
    rw[this]
   ·refine BM hp hN (r:=r+1) (by omega) (by omega) (λ j hj=>?_) (h3.up h2);rcases vA (N:=N) (g:=gQ c hit n) r j with h|⟨a,x,ha,hx,h⟩
    ·rw[h]; exact Int.le_trans (h1 j hj) (h3.le j)
    ·obtain⟨i,hi,hh,rfl⟩:=vG hx;rw[h];have h5:=h4 i hi a ha j hj hh;have h6:=h1 a ha;show _<=(qI c hit N n { s with calm:=true }).v j;refine Int.le_trans ?_ h5;show _<=s.v a+c i a;omega
theorem DV(hN:0<N):I9 c hit n N=true<->∃ p,fZ N (gQ c hit n) p:=by
 refine⟨BN,λ ⟨p,hp⟩=>BM hp hN (r:=0) (by omega) (by omega) (λ j _=>?_) λ j _=>?_⟩
 ·show -(0:Int)<=0; decide
 ·show(0:Int)<=_;have:=nR (N:=N) (g:=gQ c hit n) (b:=j) (Nat.zero_le (N-1));have e:dst N (gQ c hit n) 0 j=0:=rfl;omega
end
end Go.Vc
namespace Go.Vc
open Go
theorem St.and{w0 w w' : World}{A B:aJ}(h:St w0 w A)(k:St w w' B):St w0 w' (star B A) :=
 let ⟨_,hB,hc,hG⟩:=k
 (h.add hc hB hG).swap
theorem cB{b:Bool}{A B:Prop}(h:A)(k:B):cond b A B:=by cases b; exact k; exact h
theorem St.open{w0 w:World}{B:aJ}{l:List aJ}(h:St w0 w (star (Sep l) B)):St w0 w (Sep (l++[B])):=St.cat (h.eqv (bW.right (bW.unit B)))
theorem St.shut{w0 w:World}{B:aJ}{l:List aJ}(h:St w0 w (Sep (l++[B]))):St w0 w (star (Sep l) B):=(h.split l).eqv (bW.right (bW.unit' B))
theorem nF.nil:nF (Sep []) λ _=>True:=λ _ _ _=>trivial
theorem nF.cons{A:aJ}{l:List aJ}{Q R:World->Prop}(h:nF A Q)(k:nF (Sep l) R):nF (Sep (A :: l)) λ w=>Q w/\R w:=h.star k
theorem St.aF{w0 w:World}{l:List aJ}{r:Nat}{cs:Array Value}{T:TypeId}(h:St w0 w (Sep l))(i j:Nat)(e:l[i]?=some (ah r cs T)){vs:List Value}(hv:(cs.toList.drop j).take vs.length=vs):af w ⟨r,j,none⟩ 0 vs :=
 bt _ 0 λ k v hk=>by
  have hl:k<vs.length:=(List.getElem?_eq_some_iff.1 hk).1;have ha:(⟨r,j,none⟩:Addr).add (0+k)=⟨r,j+k,none⟩:=by unfold Addr.add; split<;>simp_all
  have h2:((cs.toList.drop j).take vs.length)[k]?=vs[k]?:=by rw[hv]
  rw[List.getElem?_take,if_pos hl,List.getElem?_drop,hk] at h2;rw[ha,h.ag i e]; simpa using h2
theorem St.Fx{w0 w:World}{l:List aJ}{x:Nat}{cs:Array Value}{T:TypeId}{R:World->Prop}(h:St w0 w (Sep l))(i j:Nat)(e:l[i]?=some (ah x cs T)){vs:List Value}(cs' : Array Value)(hn:j+vs.length<=cs.size)(h1:∀ v∈vs,v.oneCell' = true)(hc:(cs.toList.take j++vs++cs.toList.drop (j+vs.length)).toArray=cs')(k:∀ w',St w0 w' (Sep (l.set i (ah x cs' T)))->R w'):aN ⟨x,j,none⟩ 0 vs w R:=by
 obtain⟨F,⟨ho,rfl⟩,use⟩:=(h.out i e).use;refine wM vs 0 w cs ho (by omega) h1 λ w' hb hc' _=>k w' ((use w' (ah x cs' T) ⟨[x],⟨?_,rfl⟩,hc',λ j hj=>.inl hj⟩).back (jf e));rw[hb,<- hc]; simp
theorem St.Jj{w0 w:World}{l:List aJ}{Q:World->Prop}(h:St w0 w (Sep l))(hq:∀ w',Q w'):St w0 w (Sep (Vc.held Q :: l)) :=
 (h.add (ax.refl w []) (B:=Vc.held Q) (G:=[]) ⟨λ _ _ _ _=>hq _,by simp⟩ (by simp)).swap
theorem St.HB{w0 w:World}{A:aJ}{l:List aJ}{Q:World->Prop}(h:St w0 w (Sep (A :: l)))(k:nF A Q):St w0 w (Sep (Vc.held Q :: l)):=h.weak (bH.left k.weak)
theorem St.mj{w0 w:World}{A B:aJ}{l:List aJ}{Q R S:World->Prop}(h:St w0 w (Sep (A :: B :: l)))(hA:nF A Q)(hB:nF B R)(k:∀ w,Q w->R w->S w):St w0 w (Sep (Vc.held S :: l)) :=
 h.join.HB ((hA.star hB).mono λ w ⟨h1,h2⟩=>k w h1 h2)
theorem St.JO{w0 w:World}{A B:aJ}{m:List aJ}(h:St w0 w (Sep (A :: B :: m))):St w0 w (Sep [A,B,Sep m]):=h.eqv (bW.right (bW.right (bW.unit _)))
theorem St.IT{w0 w:World}{m:List aJ}(l:List aJ)(h:St w0 w (Sep (l++[Sep m]))):St w0 w (Sep (l++m)):=St.cat ((h.split l).eqv (bW.right (bW.unit' _)))
def fU{α:Type}(a b:List α)(k:Nat):List α:=a.take k++b.drop k
section
variable {α:Type} {a b:List α}
theorem sn(h:a.length=b.length){k:Nat}(hk:k<=a.length):(fU a b k).length=b.length:=by
 rw[fU,List.length_append,List.length_take,List.length_drop]; omega
theorem nZ(h:a.length=b.length){k:Nat}(hk:k<=a.length)(i:Nat):(fU a b k)[i]?=if i<k then a[i]? else b[i]?:=by
 have e:(a.take k).length=k:=by rw[List.length_take]; omega
 split
 ·rename_i hi;rw[fU,List.getElem?_append_left (by omega),List.getElem?_take,if_pos hi]
 ·rename_i hi;rw[fU,List.getElem?_append_right (by omega),e,List.getElem?_drop,show k+(i-k)=i by omega]
theorem xX(h:a.length=b.length){k:Nat}{v:α}(hv:a[k]?=some v):(fU a b k).set k v=fU a b (k+1):=by
 have hk:k<a.length:=(List.getElem?_eq_some_iff.1 hv).1;refine List.ext_getElem? λ i=>?_;rw[nZ h (by omega),List.getElem?_set,nZ h (by omega),sn h (by omega)]
 by_cases e:k=i
 ·subst e; rw[if_pos rfl,if_pos (by omega),if_pos (by omega),hv]
 ·rw[if_neg e]
  by_cases e2:i<k
  ·rw[if_pos e2,if_pos (by omega)]
  ·rw[if_neg e2,if_neg (by omega)]
theorem uy(h:a.length=b.length){k:Nat}(hk:k<a.length)(hv:a[k]?=b[k]?):fU a b k=fU a b (k+1):=by
 refine List.ext_getElem? λ i=>?_;rw[nZ h (by omega),nZ h (by omega)]
 by_cases e:k=i
 ·subst e; rw[if_neg (by omega),if_pos (by omega),hv]
 ·by_cases e2:i<k
  ·rw[if_pos e2,if_pos (by omega)]
  ·rw[if_neg e2,if_neg (by omega)]
theorem uz:fU a b 0=b:=by simp[fU]
theorem ux(h:a.length=b.length):fU a b b.length=a:=by
 rw[fU,<- h,List.take_length,h,List.drop_length,List.append_nil]
end
theorem Ka{a:OA}{n k:Nat}:(if n=0 then a else Option.map (λ x=>Addr.add x (0*k)) a)=a:=by
 cases a with
 | none=>simp
 | some q=>simp[Addr.add]
abbrev KV:=I6×Int
section
variable {P:Program} {t kt et:TypeId} {w0 w:World} {B:aJ} {r:Nat} {l:List KV}
end
end Go.Vc
namespace Go.Proofs.YtpddenfeaadgpaaGreatDoor
open Go Go.Vc _root_.Go.Proofs.Tryz
def BF(a:Int)(w:World)(K:KP):=cond (decide (a>=48)) (K (.bool (decide (a<=57))) w) (K (.bool false) w)
theorem An{n1 w K}(h:BF n1 w K):CP 189 #[.int .i32 n1] w K:=aj (aC []) func189 (by kernel_rfl) (by kernel_rfl) h
def yg(a:Int)(w:World)(K:KP):=cond (decide (a>=97)) (K (.bool (decide (a<=122))) w) (K (.bool false) w)
theorem yh{n1 w K}(h:yg n1 w K):CP 156 #[.int .i32 n1] w K:=aj (aC []) func156 (by kernel_rfl) (by kernel_rfl) h
def BG(a:Int)(w:World)(K:KP):=CC 156 #[.int .i32 a] w λ b c=>∃ d,b=.returned (.bool d)/\cond d (K (.bool true) c) (CC 189 #[.int .i32 a] c λ b c=>∃ d,b=.returned (.bool d)/\cond d (K (.bool true) c) (K (.bool (a==95)) c))
theorem Ao{n1 w K}(h:BG n1 w K):CP 158 #[.int .i32 n1] w K:=aj (aC []) func158 (by kernel_rfl) (by kernel_rfl) h
def HH(a:ByteArray)(b:Int)(c:Value)(w:World)(K:KP):=∃ d:Int->qN,(∃ e,d b w e)/\∀ f e g,d g f e->∀ h:qv,∃ h:Bool->qW,(∀ i j,h j i->∀ k:qv,cond j (∃ j,j<e/\d (IntKind.i64.wrap (g+1)) i j) (0<=g/\g<=((a.size:Nat):Int)/\0<=b/\b<=(((g).toNat:Nat):Int)/\K (.string (a.extract ((b).toNat) ((g).toNat))) i))/\cond (decide (g<((a.size:Nat):Int))) (0<=g/\ak a[(g).toNat]? λ a=>gw prog c #[.int .i32 (IntKind.i32.wrap (a.toNat:Int))] f λ a b=>∃ c,a=.returned (.bool c)/\h c b) (h false f)
theorem EK{s1 n1 v1 w K}(h:HH s1 n1 v1 w K):CP 157 #[.string s1,iv n1,v1] w K:=aj (aC [(28,[(7,.s (.int .i64))]),(112,[(20,.s .bool)])]) func157 (by kernel_rfl) (by kernel_rfl) h
def ye(a:ByteArray)(w:World)(K:KP):=cond (!(a.toList==(bs []).toList)) (cond (decide (((a.size:Nat):Int)<=(12:Int))) (0<=(0:Int)/\ak a[((0:Int)).toNat]? λ b=>CC 156 #[.int .i32 (IntKind.i32.wrap (b.toNat:Int))] w λ b c=>∃ d,b=.returned (.bool d)/\cond d (CC 157 #[.string a,qz,.func (.func 158) #[] #[]] c λ b d=>∃ e,b=.returned (.string e)/\K (.bool (e.toList==a.toList)) d) (K (.bool false) c)) (K (.bool false) w)) (K (.bool false) w)
theorem yf{s1 w K}(h:ye s1 w K):CP 114 #[.string s1] w K:=aj (aC []) func114 (by kernel_rfl) (by kernel_rfl) h
def BE(a:I6)(w:World)(K:KP):=au w (.cells a.vs.toArray 35) λ a b=>∃ c:I6,af b (qd a 0) 0 c.vs/\CC 73 #[.agg c.vs.toArray] b λ b c=>∃ d,b=.returned (iv d)/\cond (d !=0) (K qz c) (∃ b:I6,af c (qd a 0) 0 b.vs/\∃ a:Int->Int->qN,(∃ d,a 1 (0:Int) c d)/\∀ c d e f,a e f c d->∀ g:qv,cond (decide (f<6)) (0<=f/\f<6/\∃ g,(b.vs.toArray:Array Value)[(f).toNat*1]?=some (iv g)/\∃ b,b<d/\a (IntKind.i64.wrap (e*(IntKind.i64.wrap (g+1)))) (IntKind.i64.wrap (f+1)) c b) (cond (decide (e>1024)) (K qz c) (K (iv e) c)))
theorem Am{u1 w K}(h:BE u1 w K):CP 76 #[.agg u1.vs.toArray] w K:=aj (aC [(122,[(3,.s (.int .i64)),(10,.s (.int .i64))])]) func76 (by kernel_rfl) (by kernel_rfl) h
def BA(a:I6)(w:World)(K:KP):=au w (.cells a.vs.toArray 35) λ a b=>∃ c:I6,af b (qd a 0) 0 c.vs/\∃ a:Int->qN,(∃ d,a 0 b d)/\∀ b d e,a e b d->∀ f:qv,cond (decide (e<6)) (0<=e/\e<6/\∃ f,(c.vs.toArray:Array Value)[(e).toNat*1]?=some (iv f)/\∃ c:Bool->qW,(∀ g h,c h g->∀ i:qv,cond h (K (iv 4) g) (∃ h,h<d/\a (IntKind.i64.wrap (e+1)) g h))/\cond (decide (f<0)) (c true b) (c (decide (f>4)) b)) (K qz b)
theorem Ai{u1 w K}(h:BA u1 w K):CP 73 #[.agg u1.vs.toArray] w K:=aj (aC [(26,[(6,.s (.int .i64))]),(1689,[(14,.s .bool)])]) func73 (by kernel_rfl) (by kernel_rfl) h
def uE(a b c:Int)(w:World)(K:KP):=cond (decide (a>=b)) (K (.bool (decide (a<=c))) w) (K (.bool false) w)
theorem vS{n1 n2 n3 w K}(h:uE n1 n2 n3 w K):CP 116 #[iv n1,iv n2,iv n3] w K:=aj (aC []) func116 (by kernel_rfl) (by kernel_rfl) h
def EI(a:OA)(b c:Nat)(d:ByteArray)(w:World)(K:KP):=∃ c:Int->qN,(∃ e,c 0 w e)/\∀ f e g,c g f e->∀ h:qv,cond (decide (g<(b:Int))) (ak a λ a=>0<=g/\g<(b:Int)/\∃ b h i j k,af f (Addr.add a ((g).toNat*5)) 0 [.string b,iv h,iv i,iv j,iv k]/\au f (.cells #[.string (bs []),qz,qz,qz,qz] 117) λ a l=>aN (qd a 0) 0 [.string b,iv h,iv i,iv j,iv k] l λ b=>∃ h,b.cell? (qd a 0)=some (.string h)/\cond (h.toList==d.toList) (K (.tuple #[iv g,.bool true]) b) (∃ a,a<e/\c (IntKind.i64.wrap (g+1)) b a)) (K (.tuple #[qz,.bool false]) f)
theorem CV{a1 l1 c1 s1 w K}(h:EI a1 l1 c1 s1 w K):CP 115 #[.slice a1 l1 c1,.string s1] w K:=aj (aC [(26,[(10,.s (.int .i64))])]) func115 (by kernel_rfl) (by kernel_rfl) h
def yj(a:OA)(b c:Nat)(w:World)(K:KP):=au w (.cells z6.vs.toArray 35) λ c d=>au d (.cells z6.vs.toArray 35) λ d e=>∃ f:Int->qN,(∃ g,f 0 e g)/\∀ e g h,f h e g->∀ i:qv,cond (decide (h<(b:Int))) (∃ i:qW,(∀ j,i j->∀ k:qv,∃ k,k<g/\f (IntKind.i64.wrap (h+1)) j k)/\ak a λ a=>0<=h/\h<(b:Int)/\∃ b f g j k,af e (Addr.add a ((h).toNat*5)) 0 [.string b,iv f,iv g,iv j,iv k]/\au e (.cells #[.string (bs []),qz,qz,qz,qz] 117) λ a l=>aN (qd a 0) 0 [.string b,iv f,iv g,iv j,iv k] l λ b=>cond (decide (h<6)) (∃ f,b.cell? (qd a 1)=some (iv f)/\0<=h/\h<6/\dW b (Addr.add (qd d 0) ((h).toNat*1)) (iv f) λ a=>i a) (i b)) (∃ a:I6,af e (qd d 0) 0 a.vs/\aN (qd c 0) 0 a.vs e λ a=>∃ b:I6,af a (qd c 0) 0 b.vs/\K (.agg b.vs.toArray) a)
theorem yl{a1 l1 c1 w K}(h:yj a1 l1 c1 w K):CP 41 #[.slice a1 l1 c1] w K:=aj (aC [(58,[(8,.s (.int .i64))]),(467,[])]) func41 (by kernel_rfl) (by kernel_rfl) h
def BB(a:OA)(b c:Nat)(w:World)(K:KP):=cond ((b:Int)==(0:Int)) (K (iv 1) w) (cond (decide ((b:Int)>(6:Int))) (K (iv 3) w) (∃ d:Int->qN,(∃ e,d 0 w e)/\∀ f e g,d g f e->∀ h:qv,cond (decide (g<(b:Int))) (ak a λ h=>0<=g/\g<(b:Int)/\∃ i j k l m,af f (Addr.add h ((g).toNat*5)) 0 [.string i,iv j,iv k,iv l,iv m]/\au f (.cells #[.string (bs []),qz,qz,qz,qz] 117) λ h n=>aN (qd h 0) 0 [.string i,iv j,iv k,iv l,iv m] n λ i=>∃ j,i.cell? (qd h 0)=some (.string j)/\CC 114 #[.string j] i λ i j=>∃ k,i=.returned (.bool k)/\cond (!k) (K (iv 5) j) (0<=g/\g<=(c:Int)/\∃ i,j.drew.cell? (qd h 0)=some (.string i)/\CC 115 #[.slice (if c=0 then a else Option.map (λ x=>Addr.add x (0*5)) a) ((g).toNat-0) (c-0),.string i] j.drew λ i j=>∃ k l,i=.returned (.tuple #[iv k,.bool l])/\cond l (K (iv 7) j) (∃ i:Bool->qW,(∀ k l,i l k->∀ m:qv,cond l (K (iv 4) k) (∃ l,l<e/\d (IntKind.i64.wrap (g+1)) k l))/\∃ d,j.cell? (qd h 1)=some (iv d)/\CC 116 #[iv d,iv 1,iv 4] j λ d e=>∃ g,d=.returned (.bool g)/\cond (!g) (i true e) (∃ d,e.cell? (qd h 2)=some (iv d)/\CC 116 #[iv d,qz,iv 1000000] e λ d e=>∃ g,d=.returned (.bool g)/\cond (!g) (i true e) (∃ d,e.cell? (qd h 3)=some (iv d)/\CC 116 #[iv d,qz,iv 1000] e λ d e=>∃ g,d=.returned (.bool g)/\cond (!g) (i true e) (∃ d,e.cell? (qd h 4)=some (iv d)/\CC 116 #[iv d,qz,iv 4] e λ d e=>∃ g,d=.returned (.bool g)/\i (!g) e)))))) (CC 41 #[.slice a b c] f λ a b=>∃ c:I6,a=.returned (.agg c.vs.toArray)/\CC 76 #[.agg c.vs.toArray] b λ a b=>∃ c,a=.returned (iv c)/\cond (c==0) (K (iv 12) b) (K qz b))))
theorem Aj{a1 l1 c1 w K}(h:BB a1 l1 c1 w K):CP 65 #[.slice a1 l1 c1] w K:=aj (aC [(58,[(17,.s (.int .i64))]),(14951,[(57,.s .bool)])]) func65 (by kernel_rfl) (by kernel_rfl) h
def EJ(a:OA)(b c:Nat)(d:ByteArray)(w:World)(K:KP):=∃ c:Int->qN,(∃ e,c 0 w e)/\∀ f e g,c g f e->∀ h:qv,cond (decide (g<(b:Int))) (ak a λ a=>0<=g/\g<(b:Int)/\∃ b h i j,af f (Addr.add a ((g).toNat*4)) 0 [.string b,iv h,iv i,iv j]/\au f (.cells #[.string (bs []),qz,qz,qz] 66) λ a k=>aN (qd a 0) 0 [.string b,iv h,iv i,iv j] k λ b=>∃ h,b.cell? (qd a 0)=some (.string h)/\cond (h.toList==d.toList) (K (.tuple #[iv g,.bool true]) b) (∃ a,a<e/\c (IntKind.i64.wrap (g+1)) b a)) (K (.tuple #[qz,.bool false]) f)
theorem CW{a1 l1 c1 s1 w K}(h:EJ a1 l1 c1 s1 w K):CP 117 #[.slice a1 l1 c1,.string s1] w K:=aj (aC [(26,[(10,.s (.int .i64))])]) func117 (by kernel_rfl) (by kernel_rfl) h
def BC(a:OA)(b c:Nat)(w:World)(K:KP):=cond ((b:Int)==(0:Int)) (K (iv 1) w) (cond (decide ((b:Int)>(8:Int))) (K (iv 3) w) (∃ d:Int->qN,(∃ e,d 0 w e)/\∀ f e g,d g f e->∀ h:qv,cond (decide (g<(b:Int))) (ak a λ h=>0<=g/\g<(b:Int)/\∃ b i j k,af f (Addr.add h ((g).toNat*4)) 0 [.string b,iv i,iv j,iv k]/\au f (.cells #[.string (bs []),qz,qz,qz] 66) λ h l=>aN (qd h 0) 0 [.string b,iv i,iv j,iv k] l λ b=>∃ i,b.cell? (qd h 0)=some (.string i)/\CC 114 #[.string i] b λ b i=>∃ j,b=.returned (.bool j)/\cond (!j) (K (iv 5) i) (0<=g/\g<=(c:Int)/\∃ b,i.drew.cell? (qd h 0)=some (.string b)/\CC 117 #[.slice (if c=0 then a else Option.map (λ x=>Addr.add x (0*4)) a) ((g).toNat-0) (c-0),.string b] i.drew λ a b=>∃ c i,a=.returned (.tuple #[iv c,.bool i])/\cond i (K (iv 7) b) (∃ a:Bool->qW,(∀ c i,a i c->∀ j:qv,cond i (K (iv 4) c) (∃ i,i<e/\d (IntKind.i64.wrap (g+1)) c i))/\∃ c,b.cell? (qd h 1)=some (iv c)/\cond (decide (c<0)) (a true b) (∃ c,b.cell? (qd h 1)=some (iv c)/\cond (decide (c>4)) (a true b) (∃ c,b.cell? (qd h 2)=some (iv c)/\cond (decide (c<0)) (a true b) (∃ c,b.cell? (qd h 2)=some (iv c)/\cond (decide (c>1000000)) (a true b) (∃ c,b.cell? (qd h 3)=some (iv c)/\cond (decide (c<0)) (a true b) (∃ c,b.cell? (qd h 3)=some (iv c)/\a (decide (c>24000)) b)))))))) (K qz f)))
theorem Ak{a1 l1 c1 w K}(h:BC a1 l1 c1 w K):CP 66 #[.slice a1 l1 c1] w K:=aj (aC [(58,[(17,.s (.int .i64))]),(14951,[(63,.s .bool)])]) func66 (by kernel_rfl) (by kernel_rfl) h
def qc(a:OA)(b c:Nat)(d:OA)(e f:Nat)(g:OA)(h i:Nat)(j:OA)(k l:Nat)(w:World)(K:KP):=au w (.cells #[.slice a b c,.slice d e f,.slice g h i,.slice j k l] 27) λ a b=>∃ c d e,b.cell? (qd a 2)=some (.slice c d e)/\cond (decide ((d:Int)>(16:Int))) (K (iv 3) b) (∃ c d e,b.cell? (qd a 2)=some (.slice c d e)/\∃ e:Int->qN,(∃ f,e 0 b f)/\∀ b f g,e g b f->∀ h:qv,cond (decide (g<(d:Int))) (ak c λ c=>0<=g/\g<(d:Int)/\∃ d h i,af b (Addr.add c ((g).toNat*3)) 0 [iv d,iv h,iv i]/\au b (.cells #[qz,qz,qz] 113) λ c j=>aN (qd c 0) 0 [iv d,iv h,iv i] j λ d=>∃ h:Bool->qW,(∀ i j,h j i->∀ k:qv,cond j (K (iv 6) i) (∃ j:Bool->qW,(∀ k l,j l k->∀ m:qv,cond l (K (iv 4) k) (∃ l m n,k.cell? (qd a 2)=some (.slice l m n)/\0<=g/\g<=(n:Int)/\∃ m:Int->qN,(∃ o,m 0 k o)/\∀ k o p,m p k o->∀ q:qv,cond (decide (p<((((g).toNat-0):Nat):Int))) (ak (if n=0 then l else Option.map (λ x=>Addr.add x (0*3)) l) λ l=>0<=p/\p<((((g).toNat-0):Nat):Int)/\∃ n q r,af k (Addr.add l ((p).toNat*3)) 0 [iv n,iv q,iv r]/\au k (.cells #[qz,qz,qz] 113) λ l s=>aN (qd l 0) 0 [iv n,iv q,iv r] s λ n=>∃ q:Bool->qW,(∀ r s,q s r->∀ t:qv,cond s (K (iv 7) r) (∃ s,s<o/\m (IntKind.i64.wrap (p+1)) r s))/\∃ m,n.cell? (qd l 0)=some (iv m)/\∃ o,n.cell? (qd c 0)=some (iv o)/\cond (m==o) (∃ m,n.cell? (qd l 1)=some (iv m)/\∃ l,n.cell? (qd c 1)=some (iv l)/\q (m==l) n) (q false n)) (∃ l,l<f/\e (IntKind.i64.wrap (g+1)) k l)))/\∃ e,i.cell? (qd c 1)=some (iv e)/\cond (decide (e<0)) (j true i) (∃ e,i.cell? (qd c 1)=some (iv e)/\cond (decide (e>4)) (j true i) (∃ e,i.cell? (qd c 2)=some (iv e)/\cond (decide (e<0)) (j true i) (∃ e,i.cell? (qd c 2)=some (iv e)/\j (decide (e>24)) i)))))/\∃ e,d.cell? (qd c 0)=some (iv e)/\cond (decide (e<(-1:Int))) (h true d) (∃ e,d.cell? (qd c 0)=some (iv e)/\∃ c f g,d.cell? (qd a 1)=some (.slice c f g)/\h (decide (e>=(f:Int))) d)) (K qz b))
theorem su{a1 l1 c1 a2 l2 c2 a3 l3 c3 a4 l4 c4 w K}(h:qc a1 l1 c1 a2 l2 c2 a3 l3 c3 a4 l4 c4 w K):CP 67 #[.agg #[.slice a1 l1 c1,.slice a2 l2 c2,.slice a3 l3 c3,.slice a4 l4 c4]] w K:=aj (aC [(58,[(14,.s (.int .i64))]),(7474,[(29,.s .bool)]),(14950,[(47,.s .bool)]),(59806,[(53,.s (.int .i64))]),(3827609,[(68,.s .bool)])]) func67 (by kernel_rfl) (by kernel_rfl) h
def mo(a:OA)(b c:Nat)(d:OA)(e f:Nat)(g:OA)(h i:Nat)(j:OA)(k l:Nat)(w:World)(K:KP):=au w (.cells #[.slice a b c,.slice d e f,.slice g h i,.slice j k l] 27) λ a b=>∃ c d e,b.cell? (qd a 3)=some (.slice c d e)/\cond (decide ((d:Int)>(6:Int))) (K (iv 3) b) (∃ c d e,b.cell? (qd a 3)=some (.slice c d e)/\∃ e:Int->qN,(∃ f,e 0 b f)/\∀ b f g,e g b f->∀ h:qv,cond (decide (g<(d:Int))) (ak c λ c=>0<=g/\g<(d:Int)/\∃ d h i,af b (Addr.add c ((g).toNat*3)) 0 [iv d,iv h,iv i]/\au b (.cells #[qz,qz,qz] 115) λ c j=>aN (qd c 0) 0 [iv d,iv h,iv i] j λ d=>∃ h:Bool->qW,(∀ i j,h j i->∀ k:qv,cond j (K (iv 6) i) (∃ j:Bool->qW,(∀ k l,j l k->∀ m:qv,cond l (K (iv 4) k) (∃ l m n,k.cell? (qd a 3)=some (.slice l m n)/\0<=g/\g<=(n:Int)/\∃ m:Int->qN,(∃ o,m 0 k o)/\∀ k o p,m p k o->∀ q:qv,cond (decide (p<((((g).toNat-0):Nat):Int))) (ak (if n=0 then l else Option.map (λ x=>Addr.add x (0*3)) l) λ l=>0<=p/\p<((((g).toNat-0):Nat):Int)/\∃ n q r,af k (Addr.add l ((p).toNat*3)) 0 [iv n,iv q,iv r]/\au k (.cells #[qz,qz,qz] 115) λ l s=>aN (qd l 0) 0 [iv n,iv q,iv r] s λ n=>∃ q,n.cell? (qd l 0)=some (iv q)/\∃ l,n.cell? (qd c 0)=some (iv l)/\cond (q==l) (K (iv 7) n) (∃ l,l<o/\m (IntKind.i64.wrap (p+1)) n l)) (∃ l,l<f/\e (IntKind.i64.wrap (g+1)) k l)))/\∃ e,i.drew.cell? (qd c 1)=some (iv e)/\cond (decide (e<1)) (j true i.drew) (∃ e,i.drew.cell? (qd c 1)=some (iv e)/\cond (decide (e>4)) (j true i.drew) (∃ e,i.drew.cell? (qd c 2)=some (iv e)/\cond (decide (e<1)) (j true i.drew) (∃ e,i.drew.cell? (qd c 2)=some (iv e)/\∃ f g k,i.drew.cell? (qd a 0)=some (.slice f g k)/\∃ k,i.drew.cell? (qd c 0)=some (iv k)/\ak f λ f=>0<=k/\k<(g:Int)/\∃ g,i.drew.cell? (Addr.add (Addr.add f ((k).toNat*5)) 1)=some (iv g)/\j (decide (e>g)) i.drew)))))/\∃ e,d.cell? (qd c 0)=some (iv e)/\cond (decide (e<0)) (h true d) (∃ e,d.cell? (qd c 0)=some (iv e)/\∃ c f g,d.cell? (qd a 0)=some (.slice c f g)/\h (decide (e>=(f:Int))) d)) (K qz b))
theorem pz{a1 l1 c1 a2 l2 c2 a3 l3 c3 a4 l4 c4 w K}(h:mo a1 l1 c1 a2 l2 c2 a3 l3 c3 a4 l4 c4 w K):CP 68 #[.agg #[.slice a1 l1 c1,.slice a2 l2 c2,.slice a3 l3 c3,.slice a4 l4 c4]] w K:=aj (aC [(58,[(14,.s (.int .i64))]),(7474,[(29,.s .bool)]),(14950,[(54,.s .bool)]),(59806,[(60,.s (.int .i64))])]) func68 (by kernel_rfl) (by kernel_rfl) h
def BD(a:OA)(b c:Nat)(d:OA)(e f:Nat)(g:OA)(h i:Nat)(j:OA)(k l:Nat)(w:World)(K:KP):=au w (.cells #[.slice a b c,.slice d e f,.slice g h i,.slice j k l] 27) λ a b=>∃ c d e,b.cell? (qd a 0)=some (.slice c d e)/\CC 65 #[.slice c d e] b λ b c=>∃ d,b=.returned (iv d)/\cond (d !=0) (K (iv d) c) (∃ b d e,c.cell? (qd a 1)=some (.slice b d e)/\CC 66 #[.slice b d e] c λ b c=>∃ d,b=.returned (iv d)/\cond (d !=0) (K (iv d) c) (∃ b d e f g h i j k l m n,af c (qd a 0) 0 [.slice b d e,.slice f g h,.slice i j k,.slice l m n]/\CC 67 #[.agg #[.slice b d e,.slice f g h,.slice i j k,.slice l m n]] c λ b c=>∃ d,b=.returned (iv d)/\cond (d !=0) (K (iv d) c) (∃ b d e f g h i j k l m n,af c (qd a 0) 0 [.slice b d e,.slice f g h,.slice i j k,.slice l m n]/\CC 68 #[.agg #[.slice b d e,.slice f g h,.slice i j k,.slice l m n]] c λ a b=>∃ c,a=.returned (iv c)/\K (iv c) b)))
theorem Al{a1 l1 c1 a2 l2 c2 a3 l3 c3 a4 l4 c4 w K}(h:BD a1 l1 c1 a2 l2 c2 a3 l3 c3 a4 l4 c4 w K):CP 34 #[.agg #[.slice a1 l1 c1,.slice a2 l2 c2,.slice a3 l3 c3,.slice a4 l4 c4]] w K:=aj (aC []) func34 (by kernel_rfl) (by kernel_rfl) h
def yL(a:Int)(w:World)(K:KP):=cond (decide (a>=48)) (K (.bool (decide (a<=57))) w) (K (.bool false) w)
theorem yM{n1 w K}(h:yL n1 w K):CP 184 #[.int .u8 n1] w K:=aj (aC []) func184 (by kernel_rfl) (by kernel_rfl) h
def uQ(a:Int)(w:World)(K:KP):=cond (decide (a>=97)) (K (.bool (decide (a<=122))) w) (K (.bool false) w)
theorem wj{n1 w K}(h:uQ n1 w K):CP 147 #[.int .u8 n1] w K:=aj (aC []) func147 (by kernel_rfl) (by kernel_rfl) h
def E5(a:ByteArray)(w:World)(K:KP):=au w (.cells #[qz,.string (bs []),qz,qz] 186) λ b c=>0<=(0:Int)/\ak a[((0:Int)).toNat]? λ d=>CC 147 #[.int .u8 (d.toNat:Int)] c λ c d=>∃ e,c=.returned (.bool e)/\cond e (∃ c:Int->qN,(∃ e,c 1 d e)/\∀ f e g,c g f e->∀ h:qv,∃ h:Bool->qW,(∀ i j,h j i->∀ k:qv,cond j (∃ j,j<e/\c (IntKind.i64.wrap (g+1)) i j) (cond (decide (g>12)) (aN (qd b 0) 0 [qz,.string (bs []),qz,qz] i λ c=>∃ e j k l,af c (qd b 0) 0 [iv e,.string j,iv k,iv l]/\K (.tuple #[.agg #[iv e,.string j,iv k,iv l],iv 3]) c) (0<=g/\g<=((a.size:Nat):Int)/\aN (qd b 0) 0 [iv 1,.string (a.extract 0 ((g).toNat)),qz,qz] i λ c=>∃ e i j k,af c (qd b 0) 0 [iv e,.string i,iv j,iv k]/\K (.tuple #[.agg #[iv e,.string i,iv j,iv k],qz]) c)))/\cond (decide (g<((a.size:Nat):Int))) (0<=g/\ak a[(g).toNat]? λ c=>CC 147 #[.int .u8 (c.toNat:Int)] f λ c e=>∃ i,c=.returned (.bool i)/\cond i (h true e) (0<=g/\ak a[(g).toNat]? λ c=>CC 184 #[.int .u8 (c.toNat:Int)] e λ c e=>∃ i,c=.returned (.bool i)/\cond i (h true e) (0<=g/\ak a[(g).toNat]? λ c=>h ((c.toNat:Int)==(95:Int)) e))) (h false f)) (0<=(0:Int)/\ak a[((0:Int)).toNat]? λ c=>CC 184 #[.int .u8 (c.toNat:Int)] d λ c d=>∃ e,c=.returned (.bool e)/\cond e (∃ c:Int->qN,(∃ e,c 1 d e)/\∀ f e g,c g f e->∀ h:qv,∃ h:Bool->qW,(∀ i j,h j i->∀ k:qv,cond j (∃ j,j<e/\c (IntKind.i64.wrap (g+1)) i j) (∃ c:Bool->qW,(∀ e j,c j e->∀ k:qv,cond j (aN (qd b 0) 0 [qz,.string (bs []),qz,qz] e λ j=>∃ k l m n,af j (qd b 0) 0 [iv k,.string l,iv m,iv n]/\K (.tuple #[.agg #[iv k,.string l,iv m,iv n],iv 2]) j) (cond (decide (g>9)) (aN (qd b 0) 0 [qz,.string (bs []),qz,qz] e λ j=>∃ k l m n,af j (qd b 0) 0 [iv k,.string l,iv m,iv n]/\K (.tuple #[.agg #[iv k,.string l,iv m,iv n],iv 4]) j) (∃ j:Int->Int->qN,(∃ k,j 0 (0:Int) e k)/\∀ e k l m,j l m e k->∀ n:qv,cond (decide (m<g)) (0<=m/\ak a[(m).toNat]? λ n=>∃ o,o<k/\j (IntKind.i64.wrap ((IntKind.i64.wrap (l*10))+(IntKind.i64.wrap (IntKind.u8.wrap ((n.toNat:Int)-(48:Int)))))) (IntKind.i64.wrap (m+1)) e o) (0<=g/\g<=((a.size:Nat):Int)/\aN (qd b 0) 0 [iv 2,.string (a.extract 0 ((g).toNat)),iv l,qz] e λ e=>∃ j k l m,af e (qd b 0) 0 [iv j,.string k,iv l,iv m]/\K (.tuple #[.agg #[iv j,.string k,iv l,iv m],qz]) e))))/\cond (decide (g>1)) (0<=(0:Int)/\ak a[((0:Int)).toNat]? λ e=>c ((e.toNat:Int)==(48:Int)) i) (c false i)))/\cond (decide (g<((a.size:Nat):Int))) (0<=g/\ak a[(g).toNat]? λ c=>CC 184 #[.int .u8 (c.toNat:Int)] f λ c e=>∃ g,c=.returned (.bool g)/\h g e) (h false f)) (0<=(0:Int)/\ak a[((0:Int)).toNat]? λ c=>CC 185 #[.int .u8 (c.toNat:Int)] d λ c d=>∃ e,c=.returned (.bool e)/\cond e (0<=(1:Int)/\(1:Int)<=((a.size:Nat):Int)/\aN (qd b 0) 0 [iv 3,.string (a.extract 0 (((1:Int)).toNat)),qz,qz] d λ a=>∃ c e f g,af a (qd b 0) 0 [iv c,.string e,iv f,iv g]/\K (.tuple #[.agg #[iv c,.string e,iv f,iv g],qz]) a) (aN (qd b 0) 0 [qz,.string (bs []),qz,qz] d λ a=>∃ c d e f,af a (qd b 0) 0 [iv c,.string d,iv e,iv f]/\K (.tuple #[.agg #[iv c,.string d,iv e,iv f],iv 2]) a)))
theorem C4{s1 w K}(h:E5 s1 w K):CP 148 #[.string s1] w K:=aj (aC [(456,[(4,.s (.int .i64))]),(1824,[(32,.s .bool)]),(1848,[(4,.s (.int .i64))]),(7392,[(55,.s .bool)]),(1850,[(64,.s .bool)]),(59258,[(5,.s (.int .i64)),(6,.s (.int .i64))])]) func148 (by kernel_rfl) (by kernel_rfl) h
def uO(a:ByteArray)(w:World)(K:KP):=∃ b:Bool->qW,(∀ c d,b d c->∀ e:qv,cond d (K (.bool false) c) (CC 148 #[.string a] c λ c d=>∃ e f g h i,c=.returned (.tuple #[.agg #[iv e,.string f,iv g,iv h],iv i])/\au d (.cells #[qz,.string (bs []),qz,qz] 186) λ c d=>aN (qd c 0) 0 [iv e,.string f,iv g,iv h] d λ d=>cond (i==0) (∃ e,d.cell? (qd c 1)=some (.string e)/\K (.bool (e.toList==a.toList)) d) (K (.bool false) d)))/\cond (a.toList==(bs []).toList) (b true w) (cond (decide (((a.size:Nat):Int)>(12:Int))) (b true w) (0<=(0:Int)/\ak a[((0:Int)).toNat]? λ a=>CC 147 #[.int .u8 (a.toNat:Int)] w λ a c=>∃ d,a=.returned (.bool d)/\b (!d) c))
theorem wg{s1 w K}(h:uO s1 w K):CP 106 #[.string s1] w K:=aj (aC [(6,[(17,.s .bool)])]) func106 (by kernel_rfl) (by kernel_rfl) h
def uP(a:ByteArray)(w:World)(K:KP):=∃ b:Bool->qW,(∀ c d,b d c->∀ e:qv,cond d (K (.bool false) c) (∃ d:Int->qN,(∃ e,d 0 c e)/\∀ c e f,d f c e->∀ g:qv,cond (decide (f<((a.size:Nat):Int))) (∃ g:Bool->qW,(∀ h i,g i h->∀ j:qv,∃ j:Bool->qW,(∀ k l,j l k->∀ m:qv,cond l (K (.bool false) k) (∃ l,l<e/\d (IntKind.i64.wrap (f+1)) k l))/\cond (!i) (cond (f==0) (j true h) (0<=f/\ak a[(f).toNat]? λ d=>cond ((d.toNat:Int) !=(95:Int)) (0<=f/\ak a[(f).toNat]? λ d=>cond (decide ((d.toNat:Int)<(48:Int))) (j true h) (0<=f/\ak a[(f).toNat]? λ d=>j (decide ((d.toNat:Int)>(57:Int))) h)) (j false h))) (j false h))/\0<=f/\ak a[(f).toNat]? λ d=>cond (decide ((d.toNat:Int)>=(97:Int))) (0<=f/\ak a[(f).toNat]? λ d=>g (decide ((d.toNat:Int)<=(122:Int))) c) (g false c)) (K (.bool true) c)))/\cond (decide (((a.size:Nat):Int)<(1:Int))) (b true w) (b (decide (((a.size:Nat):Int)>(12:Int))) w)
theorem wh{s1 w K}(h:uP s1 w K):CP 105 #[.string s1] w K:=aj (aC [(6,[(12,.s .bool)]),(58,[(3,.s (.int .i64))]),(932,[(4,.s .bool)]),(1865,[(52,.s .bool)])]) func105 (by kernel_rfl) (by kernel_rfl) h
def yW(a:I6)(w:World)(K:KP):=au w (.cells a.vs.toArray 35) λ a b=>∃ c:Int->qN,(∃ d,c 0 b d)/\∀ b d e,c e b d->∀ f:qv,cond (decide (e<6)) (∃ f:Bool->qW,(∀ g h,f h g->∀ i:qv,cond h (K (.bool false) g) (∃ h,h<d/\c (IntKind.i64.wrap (e+1)) g h))/\0<=e/\e<6/\∃ c,b.cell? (Addr.add (qd a 0) ((e).toNat*1))=some (iv c)/\cond (decide (c<0)) (f true b) (0<=e/\e<6/\∃ c,b.cell? (Addr.add (qd a 0) ((e).toNat*1))=some (iv c)/\f (decide (c>4)) b)) (K (.bool true) b)
theorem yX{u1 w K}(h:yW u1 w K):CP 79 #[.agg u1.vs.toArray] w K:=aj (aC [(26,[(3,.s (.int .i64))]),(420,[(17,.s .bool)])]) func79 (by kernel_rfl) (by kernel_rfl) h
def yx(a:OA)(b c:Nat)(w:World)(K:KP):=cond ((b:Int)==(0:Int)) (K (iv 1) w) (cond (decide ((b:Int)>(6:Int))) (K (iv 3) w) (∃ c:Int->qN,(∃ d,c 0 w d)/\∀ e d f,c f e d->∀ g:qv,cond (decide (f<(b:Int))) (ak a λ g=>0<=f/\f<(b:Int)/\∃ h,e.cell? (Addr.add g ((f).toNat*5))=some (.string h)/\CC 105 #[.string h] e λ g h=>∃ i,g=.returned (.bool i)/\cond (!i) (K (iv 5) h) (∃ g:Int->qN,(∃ i,g 0 h i)/\∀ h i j,g j h i->∀ k:qv,cond (decide (j<f)) (ak a λ k=>0<=j/\j<(b:Int)/\∃ l,h.drew.cell? (Addr.add k ((j).toNat*5))=some (.string l)/\ak a λ k=>0<=f/\f<(b:Int)/\∃ m,h.drew.cell? (Addr.add k ((f).toNat*5))=some (.string m)/\cond (l.toList==m.toList) (K (iv 7) h.drew) (∃ k,k<i/\g (IntKind.i64.wrap (j+1)) h.drew k)) (ak a λ g=>0<=f/\f<(b:Int)/\∃ i j k l m,af h (Addr.add g ((f).toNat*5)) 0 [.string i,iv j,iv k,iv l,iv m]/\au h (.cells #[.string (bs []),qz,qz,qz,qz] 117) λ g h=>aN (qd g 0) 0 [.string i,iv j,iv k,iv l,iv m] h λ h=>∃ i:Bool->qW,(∀ j k,i k j->∀ l:qv,cond k (K (iv 4) j) (∃ k,k<d/\c (IntKind.i64.wrap (f+1)) j k))/\∃ c,h.cell? (qd g 1)=some (iv c)/\cond (decide (c<1)) (i true h) (∃ c,h.cell? (qd g 1)=some (iv c)/\cond (decide (c>4)) (i true h) (∃ c,h.cell? (qd g 2)=some (iv c)/\cond (decide (c<0)) (i true h) (∃ c,h.cell? (qd g 2)=some (iv c)/\cond (decide (c>1000000)) (i true h) (∃ c,h.cell? (qd g 3)=some (iv c)/\cond (decide (c<0)) (i true h) (∃ c,h.cell? (qd g 3)=some (iv c)/\cond (decide (c>1000)) (i true h) (∃ c,h.cell? (qd g 4)=some (iv c)/\cond (decide (c<0)) (i true h) (∃ c,h.cell? (qd g 4)=some (iv c)/\i (decide (c>4)) h)))))))))) (∃ c:Int->Int->qN,(∃ d,c 1 (0:Int) e d)/\∀ e d f g,c f g e d->∀ h:qv,cond (decide (g<(b:Int))) (ak a λ a=>0<=g/\g<(b:Int)/\∃ b,e.cell? (Addr.add (Addr.add a ((g).toNat*5)) 1)=some (iv b)/\∃ a,a<d/\c (IntKind.i64.wrap (f*(IntKind.i64.wrap (b+1)))) (IntKind.i64.wrap (g+1)) e a) (cond (decide (f>1024)) (K (iv 12) e) (K qz e)))))
theorem yy{a1 l1 c1 w K}(h:yx a1 l1 c1 w K):CP 55 #[.slice a1 l1 c1] w K:=aj (aC [(122,[(3,.s (.int .i64))]),(31306,[(4,.s (.int .i64))]),(15655,[(84,.s .bool)]),(506,[(6,.s (.int .i64)),(7,.s (.int .i64))])]) func55 (by kernel_rfl) (by kernel_rfl) h
def BO(a:OA)(b c:Nat)(d:ByteArray)(w:World)(K:KP):=∃ c:Int->qN,(∃ e,c 0 w e)/\∀ f e g,c g f e->∀ h:qv,cond (decide (g<(b:Int))) (ak a λ a=>0<=g/\g<(b:Int)/\∃ b,f.cell? (Addr.add a ((g).toNat*4))=some (.string b)/\cond (b.toList==d.toList) (K (.tuple #[iv g,.bool true]) f) (∃ a,a<e/\c (IntKind.i64.wrap (g+1)) f a)) (K (.tuple #[qz,.bool false]) f)
theorem Aw{a1 l1 c1 s1 w K}(h:BO a1 l1 c1 s1 w K):CP 107 #[.slice a1 l1 c1,.string s1] w K:=aj (aC [(26,[(6,.s (.int .i64))])]) func107 (by kernel_rfl) (by kernel_rfl) h
def yz(a:OA)(b c:Nat)(w:World)(K:KP):=cond ((b:Int)==(0:Int)) (K (iv 1) w) (cond (decide ((b:Int)>(8:Int))) (K (iv 3) w) (∃ d:Int->qN,(∃ e,d 0 w e)/\∀ f e g,d g f e->∀ h:qv,cond (decide (g<(b:Int))) (ak a λ h=>0<=g/\g<(b:Int)/\∃ i,f.cell? (Addr.add h ((g).toNat*4))=some (.string i)/\CC 106 #[.string i] f λ h i=>∃ j,h=.returned (.bool j)/\cond (!j) (K (iv 5) i) (ak a λ h=>0<=g/\g<(b:Int)/\∃ j,i.cell? (Addr.add h ((g).toNat*4))=some (.string j)/\CC 107 #[.slice a b c,.string j] i λ c h=>∃ i j,c=.returned (.tuple #[iv i,.bool j])/\cond (i !=g) (K (iv 7) h) (∃ c:Bool->qW,(∀ i j,c j i->∀ k:qv,cond j (K (iv 4) i) (∃ j,j<e/\d (IntKind.i64.wrap (g+1)) i j))/\ak a λ d=>0<=g/\g<(b:Int)/\∃ e,h.cell? (Addr.add (Addr.add d ((g).toNat*4)) 1)=some (iv e)/\cond (decide (e<0)) (c true h) (ak a λ d=>0<=g/\g<(b:Int)/\∃ e,h.cell? (Addr.add (Addr.add d ((g).toNat*4)) 1)=some (iv e)/\cond (decide (e>4)) (c true h) (ak a λ d=>0<=g/\g<(b:Int)/\∃ e,h.cell? (Addr.add (Addr.add d ((g).toNat*4)) 2)=some (iv e)/\cond (decide (e<0)) (c true h) (ak a λ d=>0<=g/\g<(b:Int)/\∃ e,h.cell? (Addr.add (Addr.add d ((g).toNat*4)) 2)=some (iv e)/\cond (decide (e>1000000)) (c true h) (ak a λ d=>0<=g/\g<(b:Int)/\∃ e,h.cell? (Addr.add (Addr.add d ((g).toNat*4)) 3)=some (iv e)/\cond (decide (e<0)) (c true h) (ak a λ a=>0<=g/\g<(b:Int)/\∃ b,h.cell? (Addr.add (Addr.add a ((g).toNat*4)) 3)=some (iv b)/\c (decide (b>24000)) h)))))))) (K qz f)))
theorem yA{a1 l1 c1 w K}(h:yz a1 l1 c1 w K):CP 56 #[.slice a1 l1 c1] w K:=aj (aC [(122,[(3,.s (.int .i64))]),(7827,[(83,.s .bool)])]) func56 (by kernel_rfl) (by kernel_rfl) h
def yB(a:OA)(b c:Nat)(d:OA)(e f:Nat)(g:OA)(h i:Nat)(j:OA)(k l:Nat)(w:World)(K:KP):=au w (.cells #[.slice a b c,.slice d e f,.slice g h i,.slice j k l] 27) λ a b=>∃ c d e,b.cell? (qd a 0)=some (.slice c d e)/\CC 55 #[.slice c d e] b λ b c=>∃ d,b=.returned (iv d)/\∃ b:Int->qW,(∀ e f,b f e->∀ g:qv,cond (f !=0) (K (iv f) e) (∃ f g h,e.cell? (qd a 2)=some (.slice f g h)/\cond (decide ((g:Int)>(16:Int))) (K (iv 3) e) (∃ f:Int->qN,(∃ g,f 0 e g)/\∀ e g h,f h e g->∀ i:qv,∃ i j k,e.cell? (qd a 2)=some (.slice i j k)/\cond (decide (h<(j:Int))) (∃ i j k,e.cell? (qd a 2)=some (.slice i j k)/\ak i λ i=>0<=h/\h<(j:Int)/\∃ j k l,af e (Addr.add i ((h).toNat*3)) 0 [iv j,iv k,iv l]/\au e (.cells #[qz,qz,qz] 113) λ i m=>aN (qd i 0) 0 [iv j,iv k,iv l] m λ j=>∃ k:Bool->qW,(∀ l m,k m l->∀ n:qv,cond m (K (iv 6) l) (∃ m:Bool->qW,(∀ n o,m o n->∀ p:qv,cond o (K (iv 4) n) (∃ o:Int->qN,(∃ p,o 0 n p)/\∀ n p q,o q n p->∀ r:qv,cond (decide (q<h)) (∃ r:Bool->qW,(∀ s t,r t s->∀ u:qv,cond t (K (iv 7) s) (∃ t,t<p/\o (IntKind.i64.wrap (q+1)) s t))/\∃ o p s,n.drew.cell? (qd a 2)=some (.slice o p s)/\ak o λ o=>0<=q/\q<(p:Int)/\∃ p,n.drew.cell? (Addr.add o ((q).toNat*3))=some (iv p)/\∃ o,n.drew.cell? (qd i 0)=some (iv o)/\cond (p==o) (∃ o p s,n.drew.cell? (qd a 2)=some (.slice o p s)/\ak o λ o=>0<=q/\q<(p:Int)/\∃ p,n.drew.cell? (Addr.add (Addr.add o ((q).toNat*3)) 1)=some (iv p)/\∃ o,n.drew.cell? (qd i 1)=some (iv o)/\r (p==o) n.drew) (r false n.drew)) (∃ o,o<g/\f (IntKind.i64.wrap (h+1)) n o)))/\∃ f,l.cell? (qd i 1)=some (iv f)/\cond (decide (f<0)) (m true l) (∃ f,l.cell? (qd i 1)=some (iv f)/\cond (decide (f>4)) (m true l) (∃ f,l.cell? (qd i 2)=some (iv f)/\cond (decide (f<0)) (m true l) (∃ f,l.cell? (qd i 2)=some (iv f)/\m (decide (f>24)) l)))))/\∃ f,j.cell? (qd i 0)=some (iv f)/\cond (decide (f<(-1:Int))) (k true j) (∃ f,j.cell? (qd i 0)=some (iv f)/\∃ g h i,j.cell? (qd a 1)=some (.slice g h i)/\k (decide (f>=(h:Int))) j)) (∃ f g h,e.cell? (qd a 3)=some (.slice f g h)/\cond (decide ((g:Int)>(6:Int))) (K (iv 3) e) (∃ f:Int->qN,(∃ g,f 0 e g)/\∀ e g h,f h e g->∀ i:qv,∃ i j k,e.cell? (qd a 3)=some (.slice i j k)/\cond (decide (h<(j:Int))) (∃ i j k,e.cell? (qd a 3)=some (.slice i j k)/\ak i λ i=>0<=h/\h<(j:Int)/\∃ j k l,af e (Addr.add i ((h).toNat*3)) 0 [iv j,iv k,iv l]/\au e (.cells #[qz,qz,qz] 115) λ i m=>aN (qd i 0) 0 [iv j,iv k,iv l] m λ j=>∃ k:Bool->qW,(∀ l m,k m l->∀ n:qv,cond m (K (iv 6) l) (∃ m:Bool->qW,(∀ n o,m o n->∀ p:qv,cond o (K (iv 4) n) (∃ o:Int->qN,(∃ p,o 0 n p)/\∀ n p q,o q n p->∀ r:qv,cond (decide (q<h)) (∃ r s t,n.drew.cell? (qd a 3)=some (.slice r s t)/\ak r λ r=>0<=q/\q<(s:Int)/\∃ s,n.drew.cell? (Addr.add r ((q).toNat*3))=some (iv s)/\∃ r,n.drew.cell? (qd i 0)=some (iv r)/\cond (s==r) (K (iv 7) n.drew) (∃ r,r<p/\o (IntKind.i64.wrap (q+1)) n.drew r)) (∃ o,o<g/\f (IntKind.i64.wrap (h+1)) n o)))/\∃ f,l.drew.cell? (qd i 1)=some (iv f)/\cond (decide (f<1)) (m true l.drew) (∃ f,l.drew.cell? (qd i 1)=some (iv f)/\cond (decide (f>4)) (m true l.drew) (∃ f,l.drew.cell? (qd i 2)=some (iv f)/\cond (decide (f<1)) (m true l.drew) (∃ f,l.drew.cell? (qd i 2)=some (iv f)/\∃ g h n,l.drew.cell? (qd a 0)=some (.slice g h n)/\∃ n,l.drew.cell? (qd i 0)=some (iv n)/\ak g λ g=>0<=n/\n<(h:Int)/\∃ h,l.drew.cell? (Addr.add (Addr.add g ((n).toNat*5)) 1)=some (iv h)/\m (decide (f>h)) l.drew)))))/\∃ f,j.cell? (qd i 0)=some (iv f)/\cond (decide (f<0)) (k true j) (∃ f,j.cell? (qd i 0)=some (iv f)/\∃ g h i,j.cell? (qd a 0)=some (.slice g h i)/\k (decide (f>=(h:Int))) j)) (K qz e))))))/\cond (d==0) (∃ e f g,c.cell? (qd a 1)=some (.slice e f g)/\CC 56 #[.slice e f g] c λ a e=>∃ f,a=.returned (iv f)/\b f e) (b d c)
theorem yC{a1 l1 c1 a2 l2 c2 a3 l3 c3 a4 l4 c4 w K}(h:yB a1 l1 c1 a2 l2 c2 a3 l3 c3 a4 l4 c4 w K):CP 22 #[.agg #[.slice a1 l1 c1,.slice a2 l2 c2,.slice a3 l3 c3,.slice a4 l4 c4]] w K:=aj (aC [(7,[(3,.s (.int .i64))]),(506,[(4,.s (.int .i64))]),(32402,[(47,.s .bool)]),(64806,[(65,.s .bool)]),(259230,[(6,.s (.int .i64))]),(4147684,[(90,.s .bool)]),(2042,[(7,.s (.int .i64))]),(130706,[(117,.s .bool)]),(261414,[(142,.s .bool)]),(1045662,[(9,.s (.int .i64))])]) func22 (by kernel_rfl) (by kernel_rfl) h
def uv(n:Int):Bool:=decide (97<=n)&&decide (n<=122)
def zP(n:Int):Bool:=decide (48<=n)&&decide (n<=57)
def inr(n:Int):Bool:=uv n||(zP n||(n==95))
def un(c:UInt8):Int:=(c.toNat:Int)
def bq(l:List UInt8):Bool:=!l.isEmpty&&(decide (l.length<=12)&&((l.head?.map λ c=>uv (un c)).getD false&&l.all λ c=>inr (un c)))
theorem wrap32(c:UInt8):IntKind.i32.wrap (c.toNat:Int)=un c:=by
 have:=c.toNat_lt;simp only[IntKind.wrap,IntKind.signed,IntKind.bits,un]
 simp
 omega
theorem xQ(w:World)(n:Int):CP 156 #[.int .i32 n] w (λ r w'=>r=.bool (uv n)/\w' = w):=by
 refine yh ?_;unfold yg
 by_cases h:97<=n
 ·exact cT (by simpa using h) ⟨by simp[uv,h],rfl⟩
 ·exact cF (by simpa using h) ⟨by simp[uv,h],rfl⟩
theorem Gt(w:World)(n:Int):CP 189 #[.int .i32 n] w (λ r w'=>r=.bool (zP n)/\w' = w):=by
 refine An ?_;unfold BF
 by_cases h:48<=n
 ·exact cT (by simpa using h) ⟨by simp[zP,h],rfl⟩
 ·exact cF (by simpa using h) ⟨by simp[zP,h],rfl⟩
theorem pP(w:World)(n:Int):CP 147 #[.int .u8 n] w (λ r w'=>r=.bool (uv n)/\w' = w):=by
 refine wj ?_;unfold uQ
 by_cases h:97<=n
 ·exact cT (by simpa using h) ⟨by simp[uv,h],rfl⟩
 ·exact cF (by simpa using h) ⟨by simp[uv,h],rfl⟩
theorem E9(w:World)(n:Int):CP 184 #[.int .u8 n] w (λ r w'=>r=.bool (zP n)/\w' = w):=by
 refine yM ?_;unfold yL
 by_cases h:48<=n
 ·exact cT (by simpa using h) ⟨by simp[zP,h],rfl⟩
 ·exact cF (by simpa using h) ⟨by simp[zP,h],rfl⟩
theorem GI(w:World)(n:Int):CP 158 #[.int .i32 n] w (λ r w'=>r=.bool (inr n)/\w' = w):=by
 refine Ao ?_;unfold BG;refine aq (xQ w n) ?_;rintro v w1 ⟨rfl,rfl⟩;refine⟨_,rfl,?_⟩
 cases h1:uv n with
 | true=>exact cT rfl ⟨by simp[inr,h1],rfl⟩
 | false =>
  refine cF rfl (aq (Gt w1 n) ?_);rintro v w2 ⟨rfl,rfl⟩;refine⟨_,rfl,?_⟩
  cases h2:zP n with
  | true=>exact cT rfl ⟨by simp[inr,h1,h2],rfl⟩
  | false=>exact cF rfl ⟨by simp[inr,h1,h2],rfl⟩
theorem zv{l:List UInt8}{p:UInt8->Bool}{k:Nat}(h:(l.take k).all p=true)(hk:k<=l.length)(he:k=l.length\/∃ c,l[k]?=some c/\p c=false):(l.take k==l)=l.all p:=by
 rcases he with rfl|⟨c,hc,hp⟩
 ·rw[List.take_length] at h ⊢; rw[h]; simp
 ·have hlt:=(List.getElem?_eq_some_iff.1 hc).1;have h1:l.all p=false:=by
   rw[List.all_eq_false];exact⟨c,List.mem_of_getElem? hc,by simp[hp]⟩
  rw[h1];simp only[beq_eq_false_iff_ne,ne_eq];intro e;have:=congrArg List.length e;rw[List.length_take] at this;omega
theorem xh{l:List UInt8}{p:UInt8->Bool}{k:Nat}{c:UInt8}(h:(l.take k).all p=true)(hc:l[k]?=some c)(hp:p c=true):(l.take (k+1)).all p=true:=by
 rw[aQ hc,List.all_append,h]; simp[hp]
theorem JE(w:World){l:List UInt8}(hl:l.length<=9223372036854775806):CP 157 #[sv l,iv 0,.func (.func 158) #[] #[]] w (λ r w'=>∃ k,r=sv (l.take k)/\(l.take k==l)=(l.all λ c=>inr (un c))/\w' = w):=by
 refine EK ?_;unfold HH;refine⟨λ n w1 m=>∃ k:Nat,n=k/\k<=l.length/\m=l.length-k/\(l.take k).all (λ c=>inr (un c))=true/\w1=w,⟨l.length,0,rfl,by omega,by omega,by simp,rfl⟩,?_⟩;rintro w1 m n ⟨k,rfl,hk,hm,ha,rfl⟩ -;refine⟨λ b w2=>w2=w1/\((b=true/\∃ c,l[k]?=some c/\inr (un c)=true)\/(b=false/\(k=l.length\/∃ c,l[k]?=some c/\inr (un c)=false))),?_,?_⟩
 ·rintro w2 b ⟨rfl,h⟩ -;rcases h with⟨rfl,c,hc,hp⟩|⟨rfl,he⟩
  ·have hlt:=(List.getElem?_eq_some_iff.1 hc).1;exact cT rfl ⟨l.length-(k+1),by omega,k+1,by rw[ay ⟨by omega,by omega⟩]; rfl,by omega,rfl,xh (p:=λ c=>inr (un c)) ha hc hp,rfl⟩
  ·refine cF rfl ⟨by omega,by rw[dP]; omega,by omega,by omega,k,?_,zv ha hk he,rfl⟩;show Value.string ((bs l).extract (0:Int).toNat ((k:Int)).toNat)=_;rw[show(0:Int).toNat=0 from rfl,Int.toNat_natCast,Hu]
 ·by_cases hlt:(k:Int)<(l.length:Int)
  ·have hc:l[k]?=some (l[k]'(by omega)):=gE (by omega);generalize l[k]'(by omega)=c at hc;refine cT (by rw[dP]; simpa using hlt) ⟨by omega,?_⟩;rw[Int.toNat_natCast,oS,hc]
   change gw prog (.func (.func 158) #[] #[]) #[.int .i32 (IntKind.i32.wrap (c.toNat:Int))] w1 _
   refine cI (by kernel_rfl) ?_;rw[wrap32];refine aq (GI w1 (un c)) ?_;rintro v w3 ⟨rfl,rfl⟩;refine⟨_,rfl,rfl,?_⟩
   cases hp:inr (un c) with
   | true=>exact .inl ⟨rfl,c,rfl,hp⟩
   | false=>exact .inr ⟨rfl,.inr ⟨c,rfl,hp⟩⟩
  ·exact cF (by rw[dP]; simpa using hlt) ⟨rfl,.inr ⟨rfl,.inl (by omega)⟩⟩
theorem xP(w:World)(l:List UInt8):CP 114 #[sv l] w (λ r w'=>r=.bool (bq l)/\w' = w):=by
 refine yf ?_;unfold ye
 cases l with
 | nil=>exact cF (by rw[wW]; rfl) ⟨rfl,rfl⟩
 | cons c l =>
  refine cT (by rw[wW,wW]; rfl) ?_
  by_cases h12:(c :: l).length<=12
  ·refine cT (by rw[dP]; exact dT (by omega)) ⟨by omega,?_⟩;rw[show(0:Int).toNat=0 from rfl,oS];show ak (some c) _;rw[ak,wrap32];refine aq (xQ w (un c)) ?_;rintro v w1 ⟨rfl,rfl⟩;refine⟨_,rfl,?_⟩
   cases h1:uv (un c) with
   | false=>exact cF rfl ⟨by simp[bq,h1],rfl⟩
   | true =>
    refine cT rfl (aq (JE w1 (by omega)) ?_);rintro v w2 ⟨k,rfl,hk,rfl⟩;refine⟨_,rfl,?_,rfl⟩;rw[wW,wW,hk];have e:bq (c :: l)=(c :: l).all λ c=>inr (un c):=by
     unfold bq;simp only[List.isEmpty_cons,Bool.not_false,Bool.true_and,List.head?_cons,Option.map_some,Option.getD_some,h1];rw[dT h12]; rfl
    rw[e]
  ·refine cF (by rw[dP]; exact dF (by omega)) ⟨?_,rfl⟩;simp only[bq,dF h12]
   simp
end Go.Proofs.YtpddenfeaadgpaaGreatDoor
namespace Go.Proofs
open Go.Shelf
def Tryz.vJ:Go.Shelf.Ren:=⟨fun|173=>103|246=>145|283=>180|284=>181|285=>182|286=>183|129=>198|317=>197|318=>199|319=>200|320=>201|337=>207|338=>208|n=>n,fun|2=>2|3=>3|9=>9|4=>4|171=>221|0=>0|53=>83|37=>212|5=>5|173=>224|212=>235|51=>236|20=>20|213=>237|46=>238|232=>249|233=>250|n=>n,fun|17=>0|18=>2|19=>3|n=>n⟩
theorem Tryz.Es:Go.Proofs.LaysM.n173 Tryz.prog Tryz.vJ:={
 mixed:=by kernel_rfl
 f129:=Tryz.func198.trans (congrArg some (by kernel_rfl))
 f173:=Tryz.func103.trans (congrArg some (by kernel_rfl))
 f246:=Tryz.func145.trans (congrArg some (by kernel_rfl))
 f283:=Tryz.func180.trans (congrArg some (by kernel_rfl))
 f284:=Tryz.func181.trans (congrArg some (by kernel_rfl))
 f285:=Tryz.func182.trans (congrArg some (by kernel_rfl))
 f286:=Tryz.func183.trans (congrArg some (by kernel_rfl))
 f317:=Tryz.func197.trans (congrArg some (by kernel_rfl))
 f318:=Tryz.func199.trans (congrArg some (by kernel_rfl))
 f319:=Tryz.func200.trans (congrArg some (by kernel_rfl))
 f320:=Tryz.func201.trans (congrArg some (by kernel_rfl))
 f337:=Tryz.func207.trans (congrArg some (by kernel_rfl))
 f338:=Tryz.func208.trans (congrArg some (by kernel_rfl))
 t0:=Tryz.underlying0
 a0:=Tryz.isAgg0
 z0:=Tryz.sizeOf0
 v0:=Tryz.zeroValue0
 t2:=Tryz.underlying2
 a2:=Tryz.isAgg2
 z2:=Tryz.sizeOf2
 v2:=Tryz.zeroValue2
 t3:=Tryz.underlying3
 a3:=Tryz.isAgg3
 z3:=Tryz.sizeOf3
 v3:=Tryz.zeroValue3
 t4:=Tryz.underlying4
 a4:=Tryz.isAgg4
 z4:=Tryz.sizeOf4
 v4:=Tryz.zeroValue4
 t5:=Tryz.underlying5
 a5:=Tryz.isAgg5
 z5:=Tryz.sizeOf5
 v5:=Tryz.zeroValue5
 t9:=Tryz.underlying9
 a9:=Tryz.isAgg9
 z9:=Tryz.sizeOf9
 v9:=Tryz.zeroValue9
 t20:=Tryz.underlying20
 a20:=Tryz.isAgg20
 z20:=Tryz.sizeOf20
 v20:=Tryz.zeroValue20
 t37:=Tryz.underlying212
 a37:=Tryz.isAgg212
 z37:=Tryz.sizeOf212
 v37:=Tryz.zeroValue212
 t46:=Tryz.underlying238
 a46:=Tryz.isAgg238
 z46:=Tryz.sizeOf238
 v46:=Tryz.zeroValue238
 t51:=Tryz.underlying236
 a51:=Tryz.isAgg236
 z51:=Tryz.sizeOf236
 v51:=Tryz.zeroValue236
 t53:=Tryz.underlying83
 a53:=Tryz.isAgg83
 z53:=Tryz.sizeOf83
 v53:=Tryz.zeroValue83
 t171:=Tryz.underlying221
 a171:=Tryz.isAgg221
 z171:=Tryz.sizeOf221
 v171:=Tryz.zeroValue221
 t173:=Tryz.underlying224
 a173:=Tryz.isAgg224
 z173:=Tryz.sizeOf224
 v173:=Tryz.zeroValue224
 t212:=Tryz.underlying235
 a212:=Tryz.isAgg235
 z212:=Tryz.sizeOf235
 v212:=Tryz.zeroValue235
 t213:=Tryz.underlying237
 a213:=Tryz.isAgg237
 z213:=Tryz.sizeOf237
 t232:=Tryz.underlying249
 a232:=Tryz.isAgg249
 z232:=Tryz.sizeOf249
 v232:=Tryz.zeroValue249
 t233:=Tryz.underlying250
 a233:=Tryz.isAgg250
 z233:=Tryz.sizeOf250
 v233:=Tryz.zeroValue250
 g17:=by kernel_rfl
 g18:=by kernel_rfl
 g19:=by kernel_rfl
 i0:=by kernel_rfl
 i2:=by kernel_rfl
 i3:=by kernel_rfl
 i4:=by kernel_rfl
 i5:=by kernel_rfl
 i9:=by kernel_rfl
 i20:=by kernel_rfl
 i37:=by kernel_rfl
 i46:=by kernel_rfl
 i51:=by kernel_rfl
 i53:=by kernel_rfl
 i171:=by kernel_rfl
 i173:=by kernel_rfl
 i212:=by kernel_rfl
 i232:=by kernel_rfl
 i233:=by kernel_rfl
 m17:=by kernel_rfl
 m18:=by kernel_rfl
 m19:=by kernel_rfl }
open Go.RowKit Go.Sort Go.Lib in
theorem Tryz.strconv_FormatInt_10(n:Int)(h0 : -9223372036854775808<=n)(h1:n<=9223372036854775807)(w:World) (htab:Lib.TabIs Tryz.prog w "internal/strconv.uint64pow10" .u64 Lib.pow10Tab) :
  Calls Tryz.prog 103 #[.int .i64 n,.int .i64 10] w λ e w'=>e=.returned (.string ⟨(Lib.itoa n).toArray⟩)/\∃ k os,w' = grow (w.drewN k) os:=Any.strconv_FormatInt_10 Tryz.Es n h0 h1 w htab
def Tryz.vI:Go.Shelf.Ren:=⟨fun|171=>102|243=>144|246=>145|283=>180|284=>181|285=>182|286=>183|129=>198|317=>197|318=>199|319=>200|320=>201|337=>207|338=>208|n=>n,fun|3=>3|9=>9|2=>2|4=>4|171=>221|0=>0|53=>83|37=>212|5=>5|173=>224|212=>235|51=>236|20=>20|213=>237|46=>238|232=>249|233=>250|n=>n,fun|17=>0|18=>2|19=>3|n=>n⟩
theorem Tryz.Er:Go.Proofs.LaysM.n171 Tryz.prog Tryz.vI:={
 mixed:=by kernel_rfl
 f129:=Tryz.func198.trans (congrArg some (by kernel_rfl))
 f171:=Tryz.func102.trans (congrArg some (by kernel_rfl))
 f243:=Tryz.func144.trans (congrArg some (by kernel_rfl))
 f246:=Tryz.func145.trans (congrArg some (by kernel_rfl))
 f283:=Tryz.func180.trans (congrArg some (by kernel_rfl))
 f284:=Tryz.func181.trans (congrArg some (by kernel_rfl))
 f285:=Tryz.func182.trans (congrArg some (by kernel_rfl))
 f286:=Tryz.func183.trans (congrArg some (by kernel_rfl))
 f317:=Tryz.func197.trans (congrArg some (by kernel_rfl))
 f318:=Tryz.func199.trans (congrArg some (by kernel_rfl))
 f319:=Tryz.func200.trans (congrArg some (by kernel_rfl))
 f320:=Tryz.func201.trans (congrArg some (by kernel_rfl))
 f337:=Tryz.func207.trans (congrArg some (by kernel_rfl))
 f338:=Tryz.func208.trans (congrArg some (by kernel_rfl))
 t0:=Tryz.underlying0
 a0:=Tryz.isAgg0
 z0:=Tryz.sizeOf0
 v0:=Tryz.zeroValue0
 t2:=Tryz.underlying2
 a2:=Tryz.isAgg2
 z2:=Tryz.sizeOf2
 v2:=Tryz.zeroValue2
 t3:=Tryz.underlying3
 a3:=Tryz.isAgg3
 z3:=Tryz.sizeOf3
 v3:=Tryz.zeroValue3
 t4:=Tryz.underlying4
 a4:=Tryz.isAgg4
 z4:=Tryz.sizeOf4
 v4:=Tryz.zeroValue4
 t5:=Tryz.underlying5
 a5:=Tryz.isAgg5
 z5:=Tryz.sizeOf5
 v5:=Tryz.zeroValue5
 t9:=Tryz.underlying9
 a9:=Tryz.isAgg9
 z9:=Tryz.sizeOf9
 v9:=Tryz.zeroValue9
 t20:=Tryz.underlying20
 a20:=Tryz.isAgg20
 z20:=Tryz.sizeOf20
 v20:=Tryz.zeroValue20
 t37:=Tryz.underlying212
 a37:=Tryz.isAgg212
 z37:=Tryz.sizeOf212
 v37:=Tryz.zeroValue212
 t46:=Tryz.underlying238
 a46:=Tryz.isAgg238
 z46:=Tryz.sizeOf238
 v46:=Tryz.zeroValue238
 t51:=Tryz.underlying236
 a51:=Tryz.isAgg236
 z51:=Tryz.sizeOf236
 v51:=Tryz.zeroValue236
 t53:=Tryz.underlying83
 a53:=Tryz.isAgg83
 z53:=Tryz.sizeOf83
 v53:=Tryz.zeroValue83
 t171:=Tryz.underlying221
 a171:=Tryz.isAgg221
 z171:=Tryz.sizeOf221
 v171:=Tryz.zeroValue221
 t173:=Tryz.underlying224
 a173:=Tryz.isAgg224
 z173:=Tryz.sizeOf224
 v173:=Tryz.zeroValue224
 t212:=Tryz.underlying235
 a212:=Tryz.isAgg235
 z212:=Tryz.sizeOf235
 v212:=Tryz.zeroValue235
 t213:=Tryz.underlying237
 a213:=Tryz.isAgg237
 z213:=Tryz.sizeOf237
 t232:=Tryz.underlying249
 a232:=Tryz.isAgg249
 z232:=Tryz.sizeOf249
 v232:=Tryz.zeroValue249
 t233:=Tryz.underlying250
 a233:=Tryz.isAgg250
 z233:=Tryz.sizeOf250
 v233:=Tryz.zeroValue250
 g17:=by kernel_rfl
 g18:=by kernel_rfl
 g19:=by kernel_rfl
 i0:=by kernel_rfl
 i2:=by kernel_rfl
 i3:=by kernel_rfl
 i4:=by kernel_rfl
 i5:=by kernel_rfl
 i9:=by kernel_rfl
 i20:=by kernel_rfl
 i37:=by kernel_rfl
 i46:=by kernel_rfl
 i51:=by kernel_rfl
 i53:=by kernel_rfl
 i171:=by kernel_rfl
 i173:=by kernel_rfl
 i212:=by kernel_rfl
 i232:=by kernel_rfl
 i233:=by kernel_rfl
 m17:=by kernel_rfl
 m18:=by kernel_rfl
 m19:=by kernel_rfl }
open Go.RowKit Go.Sort Go.Lib in
theorem Tryz.strconv_Itoa(n:Int)(h0 : -9223372036854775808<=n)(h1:n<=9223372036854775807)(w:World) (htab:Lib.TabIs Tryz.prog w "internal/strconv.uint64pow10" .u64 Lib.pow10Tab) :
  Calls Tryz.prog 102 #[.int .i64 n] w λ e w'=>e=.returned (.string ⟨(Lib.itoa n).toArray⟩)/\∃ k os,w' = grow (w.drewN k) os:=Any.strconv_Itoa Tryz.Er n h0 h1 w htab
def Tryz.p9:Go.Shelf.Ren:=⟨fun|156=>143|165=>177|166=>178|169=>179|240=>195|241=>196|276=>205|277=>206|n=>n,fun|31=>181|9=>9|3=>3|4=>4|0=>0|20=>20|72=>214|76=>218|70=>211|37=>212|75=>217|127=>232|164=>244|5=>5|80=>220|n=>n,fun|n=>n⟩
theorem Tryz.GL:Go.Proofs.Lays.n156 Tryz.prog Tryz.p9:={
 mixed:=by kernel_rfl
 f156:=Tryz.func143.trans (congrArg some (by kernel_rfl))
 f165:=Tryz.func177.trans (congrArg some (by kernel_rfl))
 f166:=Tryz.func178.trans (congrArg some (by kernel_rfl))
 f169:=Tryz.func179.trans (congrArg some (by kernel_rfl))
 f240:=Tryz.func195.trans (congrArg some (by kernel_rfl))
 f241:=Tryz.func196.trans (congrArg some (by kernel_rfl))
 f276:=Tryz.func205.trans (congrArg some (by kernel_rfl))
 f277:=Tryz.func206.trans (congrArg some (by kernel_rfl))
 t0:=Tryz.underlying0
 a0:=Tryz.isAgg0
 z0:=Tryz.sizeOf0
 v0:=Tryz.zeroValue0
 t3:=Tryz.underlying3
 a3:=Tryz.isAgg3
 z3:=Tryz.sizeOf3
 v3:=Tryz.zeroValue3
 t4:=Tryz.underlying4
 a4:=Tryz.isAgg4
 z4:=Tryz.sizeOf4
 v4:=Tryz.zeroValue4
 t9:=Tryz.underlying9
 a9:=Tryz.isAgg9
 z9:=Tryz.sizeOf9
 v9:=Tryz.zeroValue9
 t20:=Tryz.underlying20
 a20:=Tryz.isAgg20
 z20:=Tryz.sizeOf20
 v20:=Tryz.zeroValue20
 t31:=Tryz.underlying181
 a31:=Tryz.isAgg181
 z31:=Tryz.sizeOf181
 v31:=Tryz.zeroValue181
 t37:=Tryz.underlying212
 a37:=Tryz.isAgg212
 z37:=Tryz.sizeOf212
 v37:=Tryz.zeroValue212
 t70:=Tryz.underlying211
 a70:=Tryz.isAgg211
 z70:=Tryz.sizeOf211
 v70:=Tryz.zeroValue211
 t72:=Tryz.underlying214
 a72:=Tryz.isAgg214
 z72:=Tryz.sizeOf214
 v72:=Tryz.zeroValue214
 t75:=Tryz.underlying217
 a75:=Tryz.isAgg217
 z75:=Tryz.sizeOf217
 v75:=Tryz.zeroValue217
 t76:=Tryz.underlying218
 a76:=Tryz.isAgg218
 z76:=Tryz.sizeOf218
 v76:=Tryz.zeroValue218
 t127:=Tryz.underlying232
 a127:=Tryz.isAgg232
 z127:=Tryz.sizeOf232
 v127:=Tryz.zeroValue232
 t164:=Tryz.underlying244
 a164:=Tryz.isAgg244
 z164:=Tryz.sizeOf244
 v164:=Tryz.zeroValue244 }
theorem Tryz.nE:Builder.Extra Tryz.prog Tryz.p9:={
 sizeBuilder:=by kernel_rfl
 liesBuilder:=by kernel_rfl
 t5:=Tryz.underlying5
 a5:=Tryz.isAgg5
 z5:=Tryz.sizeOf5
 v5:=Tryz.zeroValue5
 infoByte:=by kernel_rfl
 cellsByte:=by kernel_rfl
 sizeByte:=by kernel_rfl
 neB5:=by decide }
open Go.RowKit in
theorem Tryz.strings_Join(bk o c:Nat)(xs:List ByteArray)(sep:ByteArray)(w:World)(hcells:∀ (j:Nat) x,xs[j]?=some x->w.cell? ⟨bk,o+j,none⟩=some (.string x))(hbk:bk<w.heap.size)(hN:xs.length<=140737488355328)(hcap:xs.length<=c)(hlen:(Lib.join (xs.map (·.data.toList)) sep.data.toList).length<=140737488355328) :
  Calls Tryz.prog 143 #[.slice (some ⟨bk,o,none⟩) xs.length c,.string sep] w λ e w'=>e=.returned (.string ⟨(Lib.join (xs.map (·.data.toList)) sep.data.toList).toArray⟩)/\Below w.heap.size w w':=Any.strings_Join Tryz.GL Tryz.nE bk o c xs sep w hcells hbk hN hcap hlen
end Go.Proofs
namespace Go.Proofs.YtpddenfeaadgpaaGreatDoor
open Go Go.Vc _root_.Go.Proofs.Tryz
structure Tk where
 k:Int
 t:List UInt8
 v:Int
 a:Int
abbrev pt (b:Nat):Value:=.pointer (some ⟨b,0,none⟩)
section
variable {w0 w:World} {b:Nat} {l:List Tk} {e:Int} {B:aJ}
end
def Bw(i:Nat)(c:UInt8):Bool:=uv (un c)||(decide (i≠0)&&inr (un c))
theorem CO{l:List UInt8}(h1:1<=l.length)(h2:l.length<=12)(h:∀ (i:Nat) (c:UInt8),l[i]?=some c->Bw i c=true):bq l=true:=by
 cases l with
 | nil=>simp at h1
 | cons c l =>
  have h0:uv (un c)=true:=by have:=h 0 c rfl; simpa[Bw] using this
  unfold bq;simp only[List.isEmpty_cons,Bool.not_false,Bool.true_and,List.head?_cons,Option.map_some,Option.getD_some,h0];rw[dT h2,Bool.true_and,List.all_eq_true];intro x hx;obtain⟨i,hi,rfl⟩:=List.mem_iff_getElem.1 hx;have:=h i _ (gE hi);simp only[Bw,Bool.or_eq_true,Bool.and_eq_true] at this;rcases this with h|⟨_,h⟩
  ·simp[inr,h]
  ·exact h
theorem EB{l:List UInt8}(i:Nat)(c:UInt8)(hc:l[i]?=some c)(h:Bw i c=false):bq l=false:=by
 cases hn:bq l with
 | false=>rfl
 | true =>
  cases l with
  | nil=>simp at hc
  | cons x l =>
   unfold bq at hn;simp only[List.isEmpty_cons,Bool.not_false,Bool.true_and,List.head?_cons,Option.map_some,Option.getD_some,Bool.and_eq_true,List.all_eq_true] at hn;obtain⟨_,h0,ha⟩:=hn;have hi:=ha c (List.mem_of_getElem? hc);unfold Bw at h;rw[hi,Bool.and_true,Bool.or_eq_false_iff] at h
   cases i with
   | zero=>simp at hc; subst hc; rw[h0] at h; cases h.1
   | succ i=>simp at h
theorem zZ(w:World)(l:List UInt8):CP 105 #[sv l] w (λ r w'=>r=.bool (bq l)/\w' = w):=by
 refine wh ?_;unfold uP;refine⟨λ b w1=>w1=w/\((b=true/\bq l=false)\/(b=false/\1<=l.length/\l.length<=12)),?_,?_⟩
 ·rintro w1 b ⟨rfl,h⟩ -;rcases h with⟨rfl,hb⟩|⟨rfl,h1,h2⟩
  ·exact cT rfl ⟨by rw[hb],rfl⟩
  ·refine cF rfl ⟨λ n w2 m=>∃ k:Nat,n=k/\k<=l.length/\m=l.length-k/\(∀ (i:Nat) (c:UInt8),i<k->l[i]?=some c->Bw i c=true)/\w2=w1,⟨l.length,0,rfl,by omega,by omega,λ i c hi=>by omega,rfl⟩,?_⟩;rintro w2 m n ⟨k,rfl,hk,hm,ha,rfl⟩ -
   by_cases hlt:(k:Int)<(l.length:Int)
   ·have hc:l[k]?=some (l[k]'(by omega)):=gE (by omega);generalize l[k]'(by omega)=c at hc;have get:∀ {R:UInt8->Prop},R c->ak ((bs l)[((k:Nat):Int).toNat]?) R:=λ {R} h=>by
     rw[Int.toNat_natCast,oS,hc]; exact h
    refine cT (by rw[dP]; simpa using hlt) ⟨λ b w3=>w3=w2/\b=uv (un c),?_,by omega,get ?_⟩
    ·rintro w3 b ⟨rfl,rfl⟩ -;refine⟨λ b w4=>w4=w3/\b = !Bw k c,?_,?_⟩
     ·rintro w4 b ⟨rfl,rfl⟩ -
      cases ho:Bw k c with
      | true =>
       refine cF rfl ⟨l.length-(k+1),by omega,k+1,by rw[ay ⟨by omega,by omega⟩]; rfl,by omega,rfl,λ i x hi hx=>?_,rfl⟩;rcases Nat.lt_or_ge i k with h' | h'
       ·exact ha i x h' hx
       ·obtain rfl:i=k:=by omega
        rw[hc] at hx; cases hx; exact ho
      | false=>exact cT rfl ⟨by rw[EB k c hc ho],rfl⟩
     ·cases hL:uv (un c) with
      | true=>exact cF rfl ⟨rfl,by simp[Bw,hL]⟩
      | false =>
       refine cT rfl ?_
       by_cases h0:k=0
       ·subst h0; exact cT rfl ⟨rfl,by simp[Bw,hL]⟩
       ·refine cF (by simp; omega) ⟨by omega,get ?_⟩
        by_cases h95:un c=95
        ·refine cF (by simp; exact h95) ⟨rfl,by simp[Bw,inr,h95,h0]⟩
        ·refine cT (by simp; exact h95) ⟨by omega,get ?_⟩
         by_cases h48:un c<48
         ·refine cT (dT h48) ⟨rfl,?_⟩;have:zP (un c)=false:=by simp[zP]; omega
          simp[Bw,hL,inr,this,h95]
         ·refine cF (dF h48) ⟨by omega,get ⟨rfl,?_⟩⟩
          by_cases h57:un c>57
          ·have:zP (un c)=false:=by simp[zP]; omega
           rw[dT (show(c.toNat:Int)>57 from h57)];simp[Bw,hL,inr,this,h95]
          ·have:zP (un c)=true:=by simp[zP]; omega
           rw[dF (show ¬ (c.toNat:Int)>57 from h57)];simp[Bw,hL,inr,this,h0]
    ·by_cases h97:un c>=97
     ·refine cT (dT h97) ⟨by omega,get ⟨rfl,?_⟩⟩;have:decide (97<=un c)=true:=dT h97;unfold uv; rw[this]; rfl
     ·refine cF (dF h97) ⟨rfl,?_⟩;have:decide (97<=un c)=false:=dF h97;unfold uv; rw[this]; rfl
   ·refine cF (by rw[dP]; simpa using hlt) ⟨?_,rfl⟩;rw[CO h1 h2 λ i c hc=>ha i c (by have:=(List.getElem?_eq_some_iff.1 hc).1; omega) hc]
 ·by_cases h1:l.length<1
  ·refine cT (by rw[dP]; exact dT (by omega)) ⟨rfl,.inl ⟨rfl,?_⟩⟩;have:l=[]:=List.length_eq_zero_iff.1 (by omega);subst this; rfl
  ·refine cF (by rw[dP]; exact dF (by omega)) ⟨rfl,?_⟩
   by_cases h12:l.length<=12
   ·exact .inr ⟨by rw[dP]; exact dF (by omega),by omega,h12⟩
   ·refine .inl ⟨by rw[dP]; exact dT (by omega),?_⟩;simp[bq,dF h12]
theorem Jv(w:World){c0:UInt8}{t:List UInt8}(hl:(c0 :: t).length<=12)(h0:uv (un c0)=true) :
  CP 148 #[sv (c0 :: t)] w (λ r w'=>∃ k,r=.tuple #[.agg #[iv 1,sv ((c0 :: t).take k),iv 0,iv 0],iv 0]/\((c0 :: t).take k==(c0 :: t))=((c0 :: t).all λ c=>inr (un c))/\ax w w' []):=by
 refine C4 ?_;unfold E5;refine aR ?_;have s1:=(St.start w).one.cm #[(.int .i64 (0:Int)),(.string (bs [])),(.int .i64 (0:Int)),(.int .i64 (0:Int))] 186;generalize hw1:w.alloc _=w1 at s1 ⊢;generalize hr1:w.heap.size=r1 at s1 ⊢;generalize hL:c0 :: t=l at *;have hg0:l[0]?=some c0:=by rw[<- hL]; rfl
 have hp:1<=l.length:=by rw[<- hL]; simp
 have hin0:inr (un c0)=true:=by simp[inr,h0]
 refine⟨by omega,?_⟩;rw[show(0:Int).toNat=0 from rfl,oS,hg0];refine aq (pP w1 (un c0)) ?_;rintro v w2 ⟨rfl,rfl⟩;refine⟨_,rfl,cT h0 ⟨λ n w3 m=>∃ k:Nat,n=k/\1<=k/\k<=l.length/\m=l.length-k/\(l.take k).all (λ c=>inr (un c))=true/\w3=w2,⟨l.length-1,1,rfl,by omega,by omega,rfl,?_,rfl⟩,?_⟩⟩
 ·rw[<- hL]; simp[hin0]
 rintro w3 m n ⟨k,rfl,hk1,hk,hm,ha,rfl⟩ -;refine⟨λ b w4=>w4=w3/\((b=true/\∃ c,l[k]?=some c/\inr (un c)=true)\/(b=false/\(k=l.length\/∃ c,l[k]?=some c/\inr (un c)=false))),?_,?_⟩
 ·rintro w4 b ⟨rfl,h⟩ -;rcases h with⟨rfl,c,hc,hp'⟩|⟨rfl,he⟩
  ·have hlt:=(List.getElem?_eq_some_iff.1 hc).1;exact cT rfl ⟨l.length-(k+1),by omega,k+1,by rw[ay ⟨by omega,by omega⟩]; rfl,by omega,by omega,rfl,xh (p:=λ c=>inr (un c)) ha hc hp',rfl⟩
  ·refine cF rfl (cF (by simp; omega) ⟨by omega,by rw[dP]; omega,?_⟩);rw[Int.toNat_natCast,Hu];refine s1.az 0 rfl [iv 1,sv (l.take k),iv 0,iv 0] rfl (by intro v hv; simp at hv; rcases hv with rfl|rfl|rfl<;>rfl) λ w6 s6=>?_;exact⟨_,_,_,_,s6.cellsIn 0 rfl,k,rfl,zv ha hk he,s6.an⟩
 ·by_cases hlt:(k:Int)<(l.length:Int)
  ·have hc:l[k]?=some (l[k]'(by omega)):=gE (by omega);generalize l[k]'(by omega)=c at hc;have get:∀ {R:UInt8->Prop},R c->ak ((bs l)[((k:Nat):Int).toNat]?) R:=λ {R} h=>by
    rw[Int.toNat_natCast,oS,hc]; exact h
   refine cT (by rw[dP]; simpa using hlt) ⟨by omega,get (aq (pP w3 (un c)) ?_)⟩;rintro v w7 ⟨rfl,rfl⟩;refine⟨_,rfl,?_⟩
   cases h1:uv (un c) with
   | true=>exact cT rfl ⟨rfl,.inl ⟨rfl,c,hc,by simp[inr,h1]⟩⟩
   | false =>
    refine cF rfl ⟨by omega,get (aq (E9 w7 (un c)) ?_)⟩;rintro v w8 ⟨rfl,rfl⟩;refine⟨_,rfl,?_⟩
    cases h2:zP (un c) with
    | true=>exact cT rfl ⟨rfl,.inl ⟨rfl,c,hc,by simp[inr,h1,h2]⟩⟩
    | false =>
     refine cF rfl ⟨by omega,get ⟨rfl,?_⟩⟩;have e:inr (un c)=(un c==95):=by simp[inr,h1,h2]
     by_cases h95:un c=95
     ·exact .inl ⟨by simp; exact h95,c,hc,by rw[e,h95]; rfl⟩
     ·exact .inr ⟨by simp; exact h95,.inr ⟨c,hc,by rw[e]; simpa using h95⟩⟩
  ·exact cF (by rw[dP]; simpa using hlt) ⟨rfl,.inr ⟨rfl,.inl (by omega)⟩⟩
theorem zY(w:World)(l:List UInt8):CP 106 #[sv l] w (λ r w'=>r=.bool (bq l)/\ax w w' []):=by
 refine wg ?_;unfold uO;refine⟨λ b w1=>w1=w/\((b=true/\bq l=false)\/(b=false/\∃ c t,l=c :: t/\l.length<=12/\uv (un c)=true)),?_,?_⟩
 ·rintro w1 b ⟨rfl,h⟩ -;rcases h with⟨rfl,hb⟩|⟨rfl,c,t,rfl,h12,hc⟩
  ·exact cT rfl ⟨by rw[hb],ax.refl _ _⟩
  ·refine cF rfl (aq (Jv w1 h12 hc) ?_);rintro v w2 ⟨k,rfl,hk,c2⟩;refine⟨_,_,_,_,_,rfl,aR ?_⟩;refine((St.start' c2).one.cm _ 186).az 0 rfl [iv 1,sv ((c :: t).take k),iv 0,iv 0] rfl (by intro v hv; simp at hv; rcases hv with rfl|rfl|rfl<;>rfl) λ w4 s4=>?_;refine cT rfl ⟨_,by rw[s4.ag 0 rfl]; rfl,?_,s4.an⟩;rw[wW,wW,hk];unfold bq;simp only[List.isEmpty_cons,Bool.not_false,Bool.true_and,List.head?_cons,Option.map_some,Option.getD_some,hc];rw[dT h12]; rfl
 ·cases l with
  | nil=>exact cT (by rw[wW]; rfl) ⟨rfl,.inl ⟨rfl,rfl⟩⟩
  | cons c t =>
   refine cF (by rw[wW,wW]; rfl) ?_
   by_cases h12:(c :: t).length<=12
   ·refine cF (by rw[dP]; exact dF (by omega)) ⟨by omega,?_⟩;rw[show(0:Int).toNat=0 from rfl,oS]
    change ak (some c) _
    refine aq (R:=_) (pP w (un c)) ?_;rintro v w5 ⟨rfl,rfl⟩;refine⟨_,rfl,rfl,?_⟩
    cases h:uv (un c) with
    | true=>exact .inr ⟨rfl,c,t,rfl,h12,h⟩
    | false=>exact .inl ⟨rfl,by simp[bq,h]⟩
   ·refine cT (by rw[dP]; exact dT (by omega)) ⟨rfl,.inl ⟨rfl,?_⟩⟩;simp only[bq,dF h12]
    simp
def dD(n:Int):Bool:=decide (0<=n)&&decide (n<=4)
def pr(l:List Int):Int:=l.foldl (λ n s=>n*(s+1)) 1
theorem rz(l:List Int)(s:Int):pr (l++[s])=pr l*(s+1):=by simp[pr]
theorem cN{l:List Int}{p:Int->Bool}{k:Nat}{c:Int}(h:(l.take k).all p=true)(hc:l[k]?=some c)(hp:p c=true):(l.take (k+1)).all p=true:=by
 rw[aQ hc,List.all_append,h]; simp[hp]
theorem dO{l:List Int}{p:Int->Bool}{k:Nat}{c:Int}(hc:l[k]?=some c)(hp:p c=false):l.all p=false:=by
 rw[List.all_eq_false]; exact⟨c,List.mem_of_getElem? hc,by simp[hp]⟩
theorem dr(w:World)(u:I6):CP 73 #[.agg u.vs.toArray] w (λ r w'=>r=iv (if u.l.all dD then 0 else 4)/\ax w w' []):=by
 refine Ai ?_;unfold BA;refine aR ?_;have s1:=(St.start w).one.cm u.vs.toArray 35;generalize hw1:w.alloc _=w1 at s1 ⊢;generalize hr1:w.heap.size=r1 at s1 ⊢;refine⟨_,s1.cellsIn 0 rfl,λ n w2 m=>∃ k:Nat,n=k/\k<=6/\m=6-k/\(u.l.take k).all dD=true/\w2=w1,⟨6,0,rfl,by omega,by omega,rfl,rfl⟩,?_⟩;rintro w2 m n ⟨k,rfl,hk,hm,ha,rfl⟩ -
 by_cases hlt:(k:Int)<6
 ·have hk' : k<6:=by omega
  have g1:=u.get k hk';have g2:=u.ia k hk';generalize u.at' k=x at g1 g2;refine cT (by simpa using hlt) ⟨by omega,by omega,x,g1,λ b w3=>w3=w2/\b = !dD x,?_,?_⟩
  ·rintro w3 b ⟨rfl,rfl⟩ -
   cases hx:dD x with
   | true=>exact cF rfl ⟨6-(k+1),by omega,k+1,inc (by decide) hk',by omega,rfl,cN ha g2 hx,rfl⟩
   | false=>exact cT rfl ⟨by rw[dO g2 hx]; rfl,s1.an⟩
  ·by_cases h0:x<0
   ·exact cT (by simpa using h0) ⟨rfl,by simp[dD]; omega⟩
   ·refine cF (by simpa using h0) ⟨rfl,?_⟩;have:decide (0<=x)=true:=dT (by omega);unfold dD;rw[this,Bool.true_and]
    by_cases h4:x<=4
    ·rw[dT h4,dF (by omega)]; rfl
    ·rw[dF h4,dT (by omega)]; rfl
 ·obtain rfl:k=6:=by omega
  refine cF (by simp) ⟨?_,s1.an⟩;rw[show u.l.all dD=true from ha]; rfl
theorem kz{l:List Int}(h:l.all dD=true):1<=pr l/\pr l<=5 ^ l.length:=by
 suffices H:∀ (l:List Int) (a:Int),l.all dD=true->1<=a->1<=l.foldl (λ n s=>n*(s+1)) a/\l.foldl (λ n s=>n*(s+1)) a<=a*5 ^ l.length by
  have:=H l 1 h (by omega);unfold pr; omega
 intro l
 induction l with
 | nil=>intro a _ h1; simp; exact h1
 | cons x l ih =>
  intro a ha h1;simp only[List.all_cons,Bool.and_eq_true] at ha;have hx:=ha.1;simp only[dD,Bool.and_eq_true,decide_eq_true_eq] at hx;have h2:1<=a*(x+1):=by
   have:a*1<=a*(x+1):=Int.mul_le_mul_of_nonneg_left (by omega) (by omega);omega
  obtain⟨h3,h4⟩:=ih (a*(x+1)) ha.2 h2;refine⟨h3,?_⟩;simp only[List.foldl_cons,List.length_cons,Int.pow_succ];have h5:a*(x+1)<=a*5:=Int.mul_le_mul_of_nonneg_left (by omega) (by omega);have h6:(a*(x+1))*5 ^ l.length<=(a*5)*5 ^ l.length:=Int.mul_le_mul_of_nonneg_right h5 (Int.pow_nonneg (by omega));have h7:a*5*5 ^ l.length=a*(5 ^ l.length*5):=by rw[Int.mul_assoc,Int.mul_comm 5 (5 ^ l.length)]
  rw[<- h7];omega
theorem Ba(w:World)(u:I6):CP 76 #[.agg u.vs.toArray] w (λ r w'=>r=iv (if u.l.all dD=true/\pr u.l<=1024 then pr u.l else 0)/\ax w w' []):=by
 refine Am ?_;unfold BE;refine aR ?_;have s1:=(St.start w).one.cm u.vs.toArray 35;generalize hw1:w.alloc _=w1 at s1 ⊢;generalize hr1:w.heap.size=r1 at s1 ⊢;refine⟨_,s1.cellsIn 0 rfl,aq (dr w1 u) ?_⟩;rintro v w2 ⟨rfl,c2⟩;refine⟨_,rfl,?_⟩;have s2:=s1.quiet c2
 by_cases hall:u.l.all dD=true
 ·rw[if_pos hall];refine cF rfl ⟨_,s2.cellsIn 0 rfl,λ p n w3 m=>∃ k:Nat,n=k/\k<=6/\m=6-k/\p=pr (u.l.take k)/\w3=w2,⟨6,0,rfl,by omega,by omega,rfl,rfl⟩,?_⟩;rintro w3 m p n ⟨k,rfl,hk,hm,rfl,rfl⟩ -;have hb:1<=pr (u.l.take k)/\pr (u.l.take k)<=15625:=by
   have h1:(u.l.take k).all dD=true:=by
    rw[List.all_eq_true] at hall ⊢;exact λ x hx=>hall x (List.mem_of_mem_take hx)
   obtain⟨h2,h3⟩:=kz h1;refine⟨h2,Int.le_trans h3 ?_⟩;have h4:(u.l.take k).length=k:=by simp[I6.len]; omega
   rw[h4]
   match k,hk with
   | 0,_|1,_|2,_|3,_|4,_|5,_|6,_=>decide
  by_cases hlt:(k:Int)<6
  ·have hk' : k<6:=by omega
   have g1:=u.get k hk';have g2:=u.ia k hk';generalize u.at' k=x at g1 g2;have hx:0<=x/\x<=4:=by
    have:=List.all_eq_true.1 hall x (List.mem_of_getElem? g2);simpa[dD] using this
   have hm1:pr (u.l.take k)*(x+1)<=15625*5:=Int.le_trans (Int.mul_le_mul_of_nonneg_left (show x+1<=5 by omega) (by omega)) (Int.mul_le_mul_of_nonneg_right hb.2 (by omega));have hm0:0<=pr (u.l.take k)*(x+1):=Int.mul_nonneg (by omega) (by omega);refine cT (by simpa using hlt) ⟨by omega,by omega,x,g1,6-(k+1),by omega,k+1,inc (by decide) hk',by omega,rfl,?_,rfl⟩;rw[ay (n:=x+1) ⟨by omega,by omega⟩,ay ⟨by omega,by omega⟩,aQ g2,rz]
  ·obtain rfl:k=6:=by omega
   refine cF (by simp) ?_;have e:u.l.take 6=u.l:=rfl;rw[e] at hb ⊢
   by_cases hp:pr u.l<=1024
   ·refine cF (dF (by omega)) ⟨?_,s2.an⟩;rw[if_pos ⟨hall,hp⟩]
   ·refine cT (dT (by omega)) ⟨?_,s2.an⟩;rw[if_neg λ h=>hp h.2]
 ·rw[if_neg hall];refine cT rfl ⟨?_,s2.an⟩;rw[if_neg λ h=>hall h.1]
