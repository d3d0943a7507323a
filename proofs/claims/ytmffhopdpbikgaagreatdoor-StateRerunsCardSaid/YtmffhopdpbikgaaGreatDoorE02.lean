import Derived.KernelRfl
import Derived.Test.YtmffhopdpbikgaaGreatDoorE01
set_option linter.unusedVariables false
set_option maxRecDepth 100000
namespace Go.Vc
open Go
theorem CY{P:Program}{w:World}{t ty e:TypeId}{z:Value}{sz by_:Nat}(hT:hU P t e z sz by_){a:OA}{n c c' : Nat}(hnc:n<=c):(Builtin.append_ #[t,t] ty #[.slice a n c,.slice none 0 c']).run P w=.ok (.slice a n c) w:=by
 obtain⟨i,hi,hz,hs,hby⟩:=hT.i;simp[Builtin.append_,run_underlying hT.u,sizeOf,typeInfo,hi,Builtin.lenOf,hnc,Builtin.firstCells]
 cases a<;>simp[storeCells]
abbrev bM {α:Type} (e:TypeId) (sz:Nat) (f:α->List Value) (a:OA) (c:Nat) (l:List α):aD:=nI e sz (.slice a l.length c) l.length (l.flatMap f)
section
variable {α:Type} {e:TypeId} {sz:Nat} {f:α->List Value} {w0 w:World} {B:aD} {a:OA} {c:Nat} {l:List α}
theorem bD(hf:∀ x,(f x).length=sz):gR (bM e sz f a c l) λ w=>cW sz f w a l:=λ _ _ h=>KY hf h.1
theorem St.rd(hf:∀ x,(f x).length=sz)(h:St w0 w (star (bM e sz f a c l) B)):cW sz f w a l:=KY hf h.rowOf
theorem St.mU(h:St w0 w (star (bM e sz f a c l) B)):l.length<=c/\(a=none->c=0):=zk h.rowOf
theorem St.mg(h:St w0 w (star (bM e sz f a c l) B))(hl:0<l.length):∃ g,a=some ⟨g,0,none⟩:=let ⟨g,hg,_⟩:=He h.rowOf hl; ⟨g,hg⟩
theorem St.cv(h:St w0 w B):St w0 w (star (bM e sz f none 0 []) B):=h.Kv e sz |>.swap
theorem Dx(hf:∀ x,(f x).length=sz):∀ (l:List α) (i:Nat) (x:α),i<l.length->(l.set i x).flatMap f=(l.flatMap f).take (i*sz)++f x++(l.flatMap f).drop (i*sz+sz)
 | [],_,_,h=>absurd h (by simp)
 | y :: l,0,x,_=>by
  have h0:(f y).length=sz:=hf y;simp[List.flatMap_cons,<- h0]
 | y :: l,i+1,x,h=>by
  have ih:=Dx hf l i x (by simpa using h);have h0:(f y).length=sz:=hf y;rw[List.set_cons_succ,List.flatMap_cons,ih,List.flatMap_cons];have e1:(i+1)*sz=(f y).length+i*sz:=by rw[h0,Nat.add_mul]; omega
  rw[e1,List.take_length_add_append,Nat.add_assoc,List.drop_length_add_append]
  simp
theorem St.Bi(hf:∀ x,(f x).length=sz){x:α}(h1:∀ v∈f x,v.oneCell' = true){g:Nat}(h:St w0 w (star (bM e sz f (some ⟨g,0,none⟩) c l) B)){i:Nat}(hi:i<l.length){R:World->Prop}(k:∀ w',St w0 w' (star (bM e sz f (some ⟨g,0,none⟩) c (l.set i x)) B)->R w'):aK (Addr.add ⟨g,0,none⟩ (i*sz)) 0 (f x) w R:=by
 obtain⟨F,⟨own,rfl⟩,use⟩:=h.use;rcases own.2 with⟨hv,_⟩|⟨g',cap,cur,hv,hb,hg,hnc,hcm,hcs,htake⟩
 ·cases hv
 ·cases hv
  have hx:=hf x;have hfl:=bx hf l;have hlen:(cur.toList.take (l.length*sz)).length=l.length*sz:=by rw[htake,hfl]
  have hcur:l.length*sz<=cur.size:=by rw[List.length_take] at hlen; simp at hlen; omega
  have h4:i*sz+sz<=l.length*sz:=by
   have:=Nat.mul_le_mul_right sz (show i+1<=l.length by omega);rw[Nat.add_mul] at this; omega
  rw[p8];refine Cw (f x) 0 w cur hg (by omega) h1 λ w' hb' hc' _=>k w' (use w' _ ⟨[g],⟨⟨?_,.inr ⟨g,c,_,?_,hb,hb',?_,hcm,?_,?_⟩⟩,rfl⟩,hc',λ j hj=>.inl hj⟩)
  ·rw[bx hf,List.length_set]
  ·rw[List.length_set]
  ·rw[List.length_set]; exact hnc
  ·simp only[List.size_toArray,List.length_append,List.length_take,List.length_drop,Array.length_toList]; omega
  ·rw[List.length_set,Dx hf l i x hi,<- htake];simp only[Nat.add_zero,List.append_assoc];rw[List.take_append,List.take_append,List.take_take,List.take_take,Nat.min_eq_right (by omega),Nat.min_eq_left (by omega),hx,List.drop_take];have e1:(List.take (i*sz) cur.toList).length=i*sz:=by rw[List.length_take]; simp; omega
   rw[e1,List.take_of_length_le (by omega:(f x).length<=l.length*sz-i*sz)]
   congr 3
   omega
theorem St.iV{v:α->Value}{x:α}(h1:(v x).oneCell' = true){g:Nat}(h:St w0 w (star (bM e 1 (λ x=>[v x]) (some ⟨g,0,none⟩) c l) B)){i:Nat}(hi:i<l.length){R:World->Prop}(k:∀ w',St w0 w' (star (bM e 1 (λ x=>[v x]) (some ⟨g,0,none⟩) c (l.set i x)) B)->R w'):aM w (Addr.add ⟨g,0,none⟩ (i*1)) (v x) R:=by
 have:=St.Bi (f:=λ x=>[v x]) (λ _=>rfl) (x:=x) (by simpa using h1) h hi (R:=R) k;have e0:(Addr.add ⟨g,0,none⟩ (i*1)).add 0=Addr.add ⟨g,0,none⟩ (i*1):=by rw[Addr.add_add]; simp
 simpa only[aK,e0] using this
end
section
variable {α:Type} {P:Program} {t ty e:TypeId} {z:Value} {sz by_:Nat} {f:α->List Value} {w0 w:World} {B:aD} {a:OA} {c:Nat} {l:List α}
theorem cW.cell(hf:∀ x,(f x).length=sz)(h:cW sz f w a l):∀ (j:Nat) (u:Value),(l.flatMap f)[j]?=some u->∃ q,a=some q/\w.cell? (q.add j)=some u:=by
 suffices H:∀ (l:List α) (j:Nat) (u:Value),(l.flatMap f)[j]?=some u->∃ i r x,j=i*sz+r/\l[i]?=some x/\(f x)[r]?=some u by
  intro j u hj;obtain⟨i,r,x,rfl,hi,hr⟩:=H l j u hj;obtain⟨q,hq,hc⟩:=h.at hi;refine⟨q,hq,?_⟩;have:=aL hc r u hr;rw[Nat.zero_add,Addr.add_add] at this;exact this
 intro l
 induction l with
 | nil=>intro j u h; simp at h
 | cons x l ih =>
  intro j u h;rw[List.flatMap_cons] at h
  by_cases hj:j<sz
  ·rw[List.getElem?_append_left (by rw[hf]; exact hj)] at h;exact⟨0,j,x,by omega,rfl,h⟩
  ·rw[List.getElem?_append_right (by rw[hf]; omega),hf] at h;obtain⟨i,r,y,e1,h1,h2⟩:=ih _ _ h;exact⟨i+1,r,y,by rw[Nat.add_mul]; omega,by simpa using h1,h2⟩
theorem dD(hT:hU P t e z sz by_)(hf:∀ x,(f x).length=sz)(h1:∀ x,∀ v∈f x,v.oneCell' = true)(h:St w0 w (star (bM e sz f a c l) B)){a2:OA}{c2:Nat}{l2:List α}(hr:cW sz f w a2 l2)(hb:(l.length+l2.length)*by_<=140737488355328)(hm:l.length+l2.length<=9223372036854775807){R:Option Addr->Nat->Nat->World->Prop}(k:∀ a' c' w',St w0 w' (star (bM e sz f a' c' (l++l2)) B)->R a' (l++l2).length c' w') :
  aP P (Builtin.append_ #[t,t] ty #[.slice a l.length c,.slice a2 l2.length c2]) w λ e w1=>∃ a l c,e=.slice a l c/\R a l c w1:=by
 have one:∀ u∈l2.flatMap f,u.oneCell' = true:=λ u hu=>by
  obtain⟨x,_,hx⟩:=List.mem_flatMap.1 hu;exact h1 x u hx
 cases a2 with
 | some q =>
  refine ER hT h (bx hf l2) (λ j u hj=>?_) one hb hm λ v' w' h''=>?_
  ·obtain⟨q',hq,hc⟩:=hr.cell hf j u hj
   cases hq; exact hc
  ·obtain⟨a',c',rfl⟩:=pV h''.rowOf;refine⟨a',_,c',rfl,?_⟩;have h3:St w0 w' (star (bM e sz f a' c' (l++l2)) B):=by
    show St w0 w' (star (nI e sz (.slice a' (l++l2).length c') (l++l2).length ((l++l2).flatMap f)) B);rw[List.length_append,List.flatMap_append]; exact h''
   have:=k a' c' w' h3
   rwa [List.length_append] at this
 | none =>
  have hn:l2=[]:=by
   cases l2 with
   | nil=>rfl
   | cons x l2=>obtain⟨q,_,hq,_⟩:=hr 0 x rfl; cases hq
  subst hn;rw[List.length_nil];refine⟨_,w,CY hT (zk h.rowOf).1,a,_,c,rfl,?_⟩;rw[List.append_nil] at k;exact k a c w h
theorem cK(hT:hU P t e z sz by_)(hf:∀ x,(f x).length=sz){x:α}(h1:∀ v∈f x,v.oneCell' = true)(h:St w0 w (star (bM e sz f a c l) B))(hb:(l.length+1)*by_<=140737488355328)(hm:l.length+1<=9223372036854775807){R:Option Addr->Nat->Nat->World->Prop}(k:∀ a' c' w',St w0 w' (star (bM e sz f a' c' (l++[x])) B)->R a' (l++[x]).length c' w'){cs:Array Value}(hcs:cs=(f x).toArray) :
  an w (.cells cs e) λ r w1=>aP P (Builtin.append_ #[t,t] ty #[.slice a l.length c,.slice (some ⟨r,0,none⟩) 1 1]) w1 λ e w2=>∃ a l c,e=.slice a l c/\R a l c w2:=by
 refine By hT h (hf x) h1 hb hm (λ a' c' w' h'=>?_) hcs;have h3:St w0 w' (star (bM e sz f a' c' (l++[x])) B):=by
  show St w0 w' (star (nI e sz (.slice a' (l++[x]).length c') (l++[x]).length ((l++[x]).flatMap f)) B);rw[List.length_append,List.flatMap_append,List.flatMap_singleton]; exact h'
 have:=k a' c' w' h3
 rwa [List.length_append] at this
theorem y6{g:Nat}{cs:Array Value}(hf:∀ x,(f x).length=sz)(hg:w.heap[g]?=some (.cells cs e (0,0)))(hc:cs.toList=l.flatMap f)(hm:l.length<=maxLen) :
  w.ownsRow 0 e sz (.slice (some ⟨g,0,none⟩) l.length l.length) l.length (l.flatMap f):=by
 have hl:cs.size=l.length*sz:=by rw[<- Array.length_toList,hc,bx hf]
 refine⟨bx hf l,.inr ⟨g,l.length,cs,rfl,Nat.zero_le _,hg,Nat.le_refl _,hm,hl,?_⟩⟩;rw[hc];exact List.take_of_length_le (by rw[bx hf]; exact Nat.le_refl _)
theorem H7{cs:Array Value}{x:α}(hx:cs.toList=f x)(h0:0<cs.size):∀ n,(madeCells cs (n*cs.size)).toList=(List.replicate n x).flatMap f:=by
 have get:∀ m j,j<m->(madeCells cs m)[j]?=cs[j%cs.size]?:=λ m j hj=>by
  have:j%cs.size<cs.size:=Nat.mod_lt _ h0;simp[madeCells,hj,this]
 intro n;apply List.ext_getElem?;intro j;rw[Array.getElem?_toList];have hsz:∀ y:α,y=x->(f y).length=cs.size:=λ y hy=>by rw[hy,<- hx]; simp
 by_cases hj:j<n*cs.size
 ·rw[get _ _ hj];have hq:j / cs.size<n:=Nat.div_lt_of_lt_mul (by rw[Nat.mul_comm]; exact hj);have e1:((List.replicate n x).flatMap f)[j / cs.size*cs.size+j%cs.size]?=cs[j%cs.size]?:=by
   suffices H:∀ n q r,q<n->r<cs.size->((List.replicate n x).flatMap f)[q*cs.size+r]?=cs[r]? from H n _ _ hq (Nat.mod_lt _ h0)
   intro n
   induction n with
   | zero=>intro q r h; omega
   | succ n ih =>
    intro q r h hr;rw[List.replicate_succ,List.flatMap_cons]
    cases q with
    | zero =>
     rw[Nat.zero_mul,Nat.zero_add,List.getElem?_append_left (by rw[hsz x rfl]; exact hr),<- hx,Array.getElem?_toList]
    | succ q =>
     rw[List.getElem?_append_right (by rw[hsz x rfl,Nat.add_mul]; omega),hsz x rfl];rw[show(q+1)*cs.size+r-cs.size=q*cs.size+r by rw[Nat.add_mul]; omega];exact ih q r (by omega) hr
  rw[Nat.div_add_mod' j cs.size] at e1;rw[e1]
 ·rw[Array.getElem?_eq_none (by rw[size_madeCells]; omega),List.getElem?_eq_none];have:∀ n,((List.replicate n x).flatMap f).length=n*cs.size:=λ n=>by
   induction n with
   | zero=>simp
   | succ n ih=>rw[List.replicate_succ,List.flatMap_cons,List.length_append,ih,hsz x rfl,Nat.add_mul]; omega
  rw[this]; omega
theorem cH(hT:hU P t e z sz by_)(hf:∀ x,(f x).length=sz){x:α}(hz:z.cells.toList=f x)(h:St w0 w B){n:Nat}(hn:by_*n<=281474976710656)(h63:n<=9223372036854775807){R:Option Addr->Nat->Nat->World->Prop}(k:∀ g w',aA w w' []->St w0 w' (star (bM e sz f (some ⟨g,0,none⟩) n (List.replicate n x)) B)->R (some ⟨g,0,none⟩) n n w') :
  aP P (Instr.makeSlice t (iv n) (iv n)) w λ e w1=>∃ a l c,e=.slice a l c/\R a l c w1:=by
 obtain⟨i,hi,hzz,hs,hby⟩:=hT.i;have hb' : (i.bytes:Int)*(n:Int)<=281474976710656:=by
  have h:((i.bytes*n:Nat):Int)<=281474976710656:=by rw[hby]; omega
  rwa [Int.natCast_mul] at h
 have hr:=run_make (P:=P) w t e i z hT.u hi hzz .i64 .i64 (n:Int) (n:Int) (by omega) (Int.le_refl _) hb' (by omega);rw[Int.toNat_natCast,hs,<- hT.zc] at hr;refine⟨_,_,hr,_,_,_,rfl,k _ _ (aA.new _ _ _) ?_⟩;have own:(w.alloc (.cells (madeCells z.cells (n*z.cells.size)) e)).ownsRow 0 e sz (.slice (some ⟨w.heap.size,0,none⟩) (List.replicate n x).length (List.replicate n x).length) (List.replicate n x).length ((List.replicate n x).flatMap f) :=
  y6 hf (by rw[iG,if_pos rfl]) (H7 hz (by rw[hT.zc]; exact hT.pos) n) (by rw[List.length_replicate]; unfold maxLen; exact h63)
 have s:=h.add (aA.new w (.cells (madeCells z.cells (n*z.cells.size)) e) []) (B:=nI e sz _ _ _) (G:=[w.heap.size]) ⟨own,rfl⟩ (by simp);have s2:=s.swap;rw[List.length_replicate] at s2;unfold bM;rw[List.length_replicate];exact s2
theorem zl(w:World)(dT sT ty elem:TypeId)(g n dCap:Nat)(ad:Addr)(sCap:Nat)(cur:Array Value)(t:TypeId)(cs:List Value){sz:Nat}(hu:P.underlying dT=some (.slice elem))(hs:(P.info? elem).map (·.size)=some sz)(hg:w.heap[g]?=some (.cells cur t (0,0)))(hn:cs.length=n*sz)(hsrc:∀ j v,cs[j]?=some v->w.cell? (ad.add j)=some v)(hfit:cs.length<=cur.size)(h1:∀ v∈cs,v.oneCell' = true) :
  (Builtin.copy_ #[dT,sT] ty #[.slice (some ⟨g,0,none⟩) n dCap,.slice (some ad) n sCap]).run P w =
   .ok (goInt n) (w.setRow g (cs++cur.toList.drop cs.length).toArray):=by
 have hl:=run_loadCells_list (P:=P) w ad cs hsrc;have hst:=run_storeCells_at P g 0 t cs 0 cur w hg (by simpa using hfit) h1
 cases hq:P.info? elem with
 | none=>simp[hq] at hs
 | some i =>
  have hi:i.size=sz:=by simpa[hq] using hs
  rw[Nat.zero_add,List.take_zero,List.nil_append] at hst;simp[Builtin.copy_,run_underlying hu,Builtin.lenOf,Builtin.firstCells,sizeOf,typeInfo,hq,hi,<- hn,hl,hst]
theorem Gq(hT:hU P t e z sz by_)(hf:∀ x,(f x).length=sz)(h1:∀ x,∀ v∈f x,v.oneCell' = true){g n:Nat}(hn:l.length=n)(h:St w0 w (star (bM e sz f (some ⟨g,0,none⟩) c l) B)){a2:OA}{c2:Nat}{l2:List α}(hl:l2.length=n)(hr:cW sz f w a2 l2){K:KP}(k:∀ v w',St w0 w' (star (bM e sz f (some ⟨g,0,none⟩) c l2) B)->K v w') :
  aP P (Builtin.copy_ #[t,t] ty #[.slice (some ⟨g,0,none⟩) n c,.slice a2 n c2]) w K:=by
 obtain⟨i,hi,hzz,hs,hby⟩:=hT.i;have hsz:(P.info? e).map (·.size)=some sz:=by simp[hi,hs]
 subst hn;have one:∀ u∈l2.flatMap f,u.oneCell' = true:=λ u hu=>by
  obtain⟨x,_,hx⟩:=List.mem_flatMap.1 hu;exact h1 x u hx
 have hfl:=bx hf l2;have hfl1:=bx hf l;obtain⟨F,⟨own,rfl⟩,use⟩:=h.use;rcases own.2 with⟨hv,_⟩|⟨g',cap,cur,hv,hb,hg,hnc,hcm,hcs,htake⟩
 ·cases hv
 ·cases hv
  have hcur:l.length*sz<=cur.size:=by
   have:=congrArg List.length htake;rw[List.length_take,hfl1] at this; simp at this; omega
  by_cases h0:l.length=0
  ·obtain rfl:l=[]:=List.eq_nil_of_length_eq_zero h0;obtain rfl:l2=[]:=List.eq_nil_of_length_eq_zero hl
   cases a2 with
   | some ad =>
    have hr2:=zl (P:=P) w t t ty e g 0 c ad c2 cur e [] hT.u hsz hg (by simp) (by simp) (by simp) (by simp);refine⟨_,_,hr2,k _ _ ?_⟩;have:w.setRow g ([]++cur.toList.drop ([]:List Value).length).toArray=w.setRow g cur:=by simp
    rw[this];refine h.quiet ⟨by simp[World.setRow],λ j _ _=>?_,⟨rfl,rfl,rfl⟩⟩
    by_cases hj:j=g
    ·subst hj; rw[setRow_heap w j cur _ e _ hg,hg]
    ·exact setRow_other w g j _ hj
   | none =>
    refine⟨goInt 0,w,?_,k _ _ h⟩;simp[Builtin.copy_,run_underlying hT.u,Builtin.lenOf,Builtin.firstCells,sizeOf,typeInfo,hi,storeCells]
  ·obtain⟨x,hx⟩:∃ x,l2[0]?=some x:=by
    cases l2 with
    | nil=>simp at hl; omega
    | cons x l2=>exact⟨x,rfl⟩
   obtain⟨ad,rfl,_⟩:=hr.at hx;have hr2:=zl (P:=P) w t t ty e g l.length c ad c2 cur e (l2.flatMap f) hT.u hsz hg (by rw[hfl,hl]) (λ j v hj=>by obtain⟨q,hq,hc⟩:=hr.cell hf j v hj; cases hq; exact hc) (by rw[hfl,hl]; exact hcur) one;refine⟨_,_,hr2,k _ _ (use _ _ ⟨[g],⟨⟨hfl,.inr ⟨g,c,_,by rw[hl],hb,setRow_heap w g cur _ e _ hg,by rw[hl]; exact hnc,hcm,?_,?_⟩⟩,rfl⟩,⟨by simp[World.setRow],λ j _ hj=>setRow_other w g j _ (by simp[Value.ownBlock] at hj; exact hj),⟨rfl,rfl,rfl⟩⟩,λ j hj=>.inl (by simpa[Value.ownBlock] using hj)⟩)⟩
   ·rw[<- hcs];simp only[List.size_toArray,List.length_append,List.length_drop,Array.length_toList,hfl,hl];omega
   ·rw[List.take_append_of_le_length (by rw[hfl,hl]; exact Nat.le_refl _)];exact List.take_of_length_le (by rw[hfl,hl]; exact Nat.le_refl _)
theorem HG(hT:hU P t e z sz by_)(hf:∀ x,(f x).length=sz){x:α}(h1:∀ v∈f x,v.oneCell' = true)(s:St w0 w B)(h:cW sz f w a l){r:Nat}(hx:∀ j u,(f x)[j]?=some u->w.cell? ⟨r,j,none⟩=some u)(hb:(l.length+1)*by_<=140737488355328)(hm:l.length+1<=9223372036854775807){R:Option Addr->Nat->Nat->World->Prop}(k:∀ a' c' w',St w0 w' (star (bM e sz f a' c' (l++[x])) B)->R a' (l++[x]).length c' w') :
  aP P (Builtin.append_ #[t,t] ty #[.slice a l.length l.length,.slice (some ⟨r,0,none⟩) 1 1]) w λ e w2=>∃ a l c,e=.slice a l c/\R a l c w2:=by
 cases a with
 | none =>
  have hn:l=[]:=by
   cases l with
   | nil=>rfl
   | cons x l=>obtain⟨q,_,hq,_⟩:=h 0 x rfl; cases hq
  subst hn;refine ER hT (s.cv (e:=e) (sz:=sz) (f:=f)) (m:=1) (news:=f x) (by rw[hf]; omega) (λ j u hj=>by rw[p8]; exact hx j u hj) h1 (by simpa using hb) (by simp) λ v' w' h'=>?_;obtain⟨a',c',rfl⟩:=pV h'.rowOf;have h2:St w0 w' (star (bM e sz f a' c' ([]++[x])) B):=by
   show St w0 w' (star (nI e sz (.slice a' 1 c') 1 ([x].flatMap f)) B);rw[List.flatMap_singleton]; simpa using h'
  exact⟨a',_,c',rfl,k a' c' w' h2⟩
 | some q =>
  obtain⟨i,hi,hz,hs,hby⟩:=hT.i;have hfl:=bx hf l;have hr:=run_append_grow (P:=P) w t ty e i z hT.u hi hz q l.length l.length (l.flatMap f) (by rw[hfl,hs]) (λ j u hj=>by obtain⟨q',hq,hc⟩:=h.cell hf j u hj; cases hq; exact hc)
   ⟨r,0,none⟩ 1 1 (f x) (by rw[hf,hs]; omega) (λ j u hj=>by rw[p8]; exact hx j u hj) (by omega) (by omega) (growslice_fits (by omega) (by rw[hby]; exact hb))
  have hge:=grownCap_ge w (l.length+1) l.length e;have hcm:grownCap w (l.length+1) l.length e<=maxLen:=grownCap_le_maxLen w (l.length+1) l.length e (by unfold maxLen; omega);generalize grownCap w (l.length+1) l.length e=cap at hr hge hcm;refine⟨_,_,hr,_,_,_,rfl,?_⟩;have c0:aA w w.drew []:=aA.drew w [];have c1:aA w (w.drew.alloc (.cells ((l.flatMap f).toArray++(f x).toArray++Builtin.zeroCells z.cells (cap-(l.length+1))) e)) []:=c0.trans (aA.new _ _ []) (by simp);have own:(w.drew.alloc (.cells ((l.flatMap f).toArray++(f x).toArray++Builtin.zeroCells z.cells (cap-(l.length+1))) e)).ownsRow 0 e sz (.slice (some ⟨w.heap.size,0,none⟩) (l++[x]).length cap) (l++[x]).length ((l++[x]).flatMap f):=by
   have hx1:=hf x;refine⟨bx hf _,.inr ⟨w.heap.size,cap,_,by simp,Nat.zero_le _,by rw[iG,if_pos (show w.heap.size=w.drew.heap.size from rfl)],by simpa using hge,hcm,?_,?_⟩⟩
   ·have hzs:z.cells.size=sz:=hT.zc;simp only[Array.size_append,List.size_toArray,size_zeroCells,hzs,hfl,hx1];rw[show l.length*sz+sz=(l.length+1)*sz by rw[Nat.add_mul]; omega,<- Nat.add_mul]
    congr 1; omega
   ·rw[List.length_append,List.length_singleton,List.flatMap_append,List.flatMap_singleton];simp only[Array.toList_append,List.append_assoc];rw[<- List.append_assoc];have:(l.length+1)*sz=(l.flatMap f++f x).length:=by rw[List.length_append,hfl,hx1,Nat.add_mul]; omega
    rw[this,List.take_left]
  have s2:=s.add c1 (B:=nI e sz _ _ _) (G:=[w.heap.size]) ⟨own,rfl⟩ (by simp);have:=k _ _ _ s2.swap
  rwa [List.length_append] at this
theorem om(hT:hU P t e z sz by_)(hf:∀ x,(f x).length=sz)(h1:∀ x,∀ v∈f x,v.oneCell' = true)(s:St w0 w B)(h:cW sz f w a l)(hb:l.length*by_<=140737488355328)(hm:l.length<=9223372036854775807){K:KP}(k:∀ a' c' w',St w0 w' (star (bM e sz f a' c' l) B)->K (.slice a' l.length c') w') :
  cond (a).isNone (K (.slice none 0 0) w) (an w (.cells #[] e) λ r1 w1=>aP P (Builtin.append_ #[t,t] ty #[.slice (some ⟨r1,0,none⟩) 0 0,.slice a l.length c]) w1 λ e1 w2=>∃ (a2:OA) (l2 c2:Nat),e1=(.slice a2 l2 c2)/\K (.slice a2 l2 c2) w2):=by
 cases a with
 | none =>
  have hn:l=[]:=by
   cases l with
   | nil=>rfl
   | cons x l=>obtain⟨q,_,hq,_⟩:=h 0 x rfl; cases hq
  subst hn;exact cT rfl (k none 0 w s.cv)
 | some q =>
  refine cF rfl (aI ?_);have s1:=s.box #[] e;have c1:=aA.new w (.cells #[] e) [];generalize w.alloc _=w1 at s1 c1 ⊢;generalize w.heap.size=r1 at s1 ⊢;have s2:St w0 w1 (star (bM e sz f (some ⟨r1,0,none⟩) 0 []) B):=s1.swap.weak (bG.left (by
   rintro w F ⟨h,rfl⟩;exact⟨[r1],⟨y6 (f:=f) hf h rfl (by simp),by simp[Value.ownBlock]⟩,by simp⟩))
  exact dD (a2:=some q) (c2:=c) (l2:=l) hT hf h1 s2 (h.av c1) (by simp; omega) (by simp; omega) (R:=λ a' n c' w'=>K (.slice a' n c') w') (λ a' c' w' h'=>by rw[List.nil_append] at h' ⊢; exact k a' c' w' h')
theorem uJ(hT:hU P t e z sz by_)(hf:∀ x,(f x).length=sz)(h1:∀ x,∀ v∈f x,v.oneCell' = true){x0:α}(hz:z.cells.toList=f x0)(s:St w0 w B)(h:cW sz f w a l)(hb:by_*l.length<=140737488355328)(hm:l.length<=9223372036854775807){K:KP}(k:∀ g w',St w0 w' (star (bM e sz f (some ⟨g,0,none⟩) l.length l) B)->K (.slice (some ⟨g,0,none⟩) l.length l.length) w') :
  aP P (Instr.makeSlice t (iv l.length) (iv l.length)) w λ e1 w1=>∃ (a2:OA) (l2 c2:Nat),e1=(.slice a2 l2 c2) /\
   aP P (Builtin.copy_ #[t,t] ty #[.slice a2 l2 c2,.slice a l.length c]) w1 λ _ w2=>K (.slice a2 l2 c2) w2:=by
 exact cH hT hf hz s (n:=l.length) (by omega) hm λ g w' hc s'=>Gq hT hf h1 (by simp) s' rfl (h.av hc) λ _ w2 s2=>k g w2 s2
end
theorem St.and{w0 w w' : World}{A B:aD}(h:St w0 w A)(k:St w w' B):St w0 w' (star B A) :=
 let ⟨_,hB,hc,hG⟩:=k
 (h.add hc hB hG).swap
theorem cB{b:Bool}{A B:Prop}(h:A)(k:B):cond b A B:=by cases b; exact k; exact h
theorem St.open{w0 w:World}{B:aD}{l:List aD}(h:St w0 w (star (Sep l) B)):St w0 w (Sep (l++[B])):=St.cat (h.eqv (aT.right (aT.unit B)))
theorem St.shut{w0 w:World}{B:aD}{l:List aD}(h:St w0 w (Sep (l++[B]))):St w0 w (star (Sep l) B):=(h.split l).eqv (aT.right (aT.unit' B))
theorem gR.nil:gR (Sep []) λ _=>True:=λ _ _ _=>trivial
theorem gR.cons{A:aD}{l:List aD}{Q R:World->Prop}(h:gR A Q)(k:gR (Sep l) R):gR (Sep (A :: l)) λ w=>Q w/\R w:=h.star k
theorem St.aF{w0 w:World}{l:List aD}{r:Nat}{cs:Array Value}{T:TypeId}(h:St w0 w (Sep l))(i j:Nat)(e:l[i]?=some (ai r cs T)){vs:List Value}(hv:(cs.toList.drop j).take vs.length=vs):af w ⟨r,j,none⟩ 0 vs :=
 aY _ 0 λ k v hk=>by
  have hl:k<vs.length:=(List.getElem?_eq_some_iff.1 hk).1;have ha:(⟨r,j,none⟩:Addr).add (0+k)=⟨r,j+k,none⟩:=by unfold Addr.add; split<;>simp_all
  have h2:((cs.toList.drop j).take vs.length)[k]?=vs[k]?:=by rw[hv]
  rw[List.getElem?_take,if_pos hl,List.getElem?_drop,hk] at h2;rw[ha,h.ag i e]; simpa using h2
theorem St.j7{w0 w:World}{l:List aD}{x:Nat}{cs:Array Value}{T:TypeId}{R:World->Prop}(h:St w0 w (Sep l))(i j:Nat)(e:l[i]?=some (ai x cs T)){vs:List Value}(cs' : Array Value)(hn:j+vs.length<=cs.size)(h1:∀ v∈vs,v.oneCell' = true)(hc:(cs.toList.take j++vs++cs.toList.drop (j+vs.length)).toArray=cs')(k:∀ w',St w0 w' (Sep (l.set i (ai x cs' T)))->R w'):aK ⟨x,j,none⟩ 0 vs w R:=by
 obtain⟨F,⟨ho,rfl⟩,use⟩:=(h.out i e).use;refine Cw vs 0 w cs ho (by omega) h1 λ w' hb hc' _=>k w' ((use w' (ai x cs' T) ⟨[x],⟨?_,rfl⟩,hc',λ j hj=>.inl hj⟩).back (dJ e));rw[hb,<- hc]; simp
theorem St.vT{w0 w:World}{l:List aD}{Q:World->Prop}(h:St w0 w (Sep l))(hq:∀ w',Q w'):St w0 w (Sep (Vc.held Q :: l)) :=
 (h.add (aA.refl w []) (B:=Vc.held Q) (G:=[]) ⟨λ _ _ _ _=>hq _,by simp⟩ (by simp)).swap
theorem St.DB{w0 w:World}{A:aD}{l:List aD}{Q:World->Prop}(h:St w0 w (Sep (A :: l)))(k:gR A Q):St w0 w (Sep (Vc.held Q :: l)):=h.weak (bG.left k.weak)
theorem St.qQ{w0 w:World}{A B:aD}{l:List aD}{Q R S:World->Prop}(h:St w0 w (Sep (A :: B :: l)))(hA:gR A Q)(hB:gR B R)(k:∀ w,Q w->R w->S w):St w0 w (Sep (Vc.held S :: l)) :=
 h.join.DB ((hA.star hB).mono λ w ⟨h1,h2⟩=>k w h1 h2)
theorem Dd{w:World}{a:Addr}{vs us:List Value}(h:af w a 0 vs)(hv:vs.take us.length=us):af w a 0 us :=
 aY _ 0 λ k v hk=>aL h k v (by
  have h2:(vs.take us.length)[k]?=us[k]?:=by rw[hv]
  rwa [List.getElem?_take,if_pos (List.getElem?_eq_some_iff.1 hk).1,hk] at h2)
theorem St.Oz{w0 w:World}{A B:aD}{m:List aD}(h:St w0 w (Sep (A :: B :: m))):St w0 w (Sep [A,B,Sep m]):=h.eqv (aT.right (aT.right (aT.unit _)))
theorem St.dw{w0 w:World}{m:List aD}(l:List aD)(h:St w0 w (Sep (l++[Sep m]))):St w0 w (Sep (l++m)):=St.cat ((h.split l).eqv (aT.right (aT.unit' _)))
def rS{α:Type}(a b:List α)(k:Nat):List α:=a.take k++b.drop k
section
variable {α:Type} {a b:List α}
theorem DT(h:a.length=b.length){k:Nat}(hk:k<=a.length):(rS a b k).length=b.length:=by
 rw[rS,List.length_append,List.length_take,List.length_drop]; omega
theorem tB(h:a.length=b.length){k:Nat}(hk:k<=a.length)(i:Nat):(rS a b k)[i]?=if i<k then a[i]? else b[i]?:=by
 have e:(a.take k).length=k:=by rw[List.length_take]; omega
 split
 ·rename_i hi;rw[rS,List.getElem?_append_left (by omega),List.getElem?_take,if_pos hi]
 ·rename_i hi;rw[rS,List.getElem?_append_right (by omega),e,List.getElem?_drop,show k+(i-k)=i by omega]
theorem Kq(h:a.length=b.length){k:Nat}{v:α}(hv:a[k]?=some v):(rS a b k).set k v=rS a b (k+1):=by
 have hk:k<a.length:=(List.getElem?_eq_some_iff.1 hv).1;refine List.ext_getElem? λ i=>?_;rw[tB h (by omega),List.getElem?_set,tB h (by omega),DT h (by omega)]
 by_cases e:k=i
 ·subst e; rw[if_pos rfl,if_pos (by omega),if_pos (by omega),hv]
 ·rw[if_neg e]
  by_cases e2:i<k
  ·rw[if_pos e2,if_pos (by omega)]
  ·rw[if_neg e2,if_neg (by omega)]
theorem Ic(h:a.length=b.length){k:Nat}(hk:k<a.length)(hv:a[k]?=b[k]?):rS a b k=rS a b (k+1):=by
 refine List.ext_getElem? λ i=>?_;rw[tB h (by omega),tB h (by omega)]
 by_cases e:k=i
 ·subst e; rw[if_neg (by omega),if_pos (by omega),hv]
 ·by_cases e2:i<k
  ·rw[if_pos e2,if_pos (by omega)]
  ·rw[if_neg e2,if_neg (by omega)]
theorem Ie:rS a b 0=b:=by simp[rS]
theorem Ib(h:a.length=b.length):rS a b b.length=a:=by
 rw[rS,<- h,List.take_length,h,List.drop_length,List.append_nil]
end
theorem Q8{a:OA}{n k:Nat}:(if n=0 then a else Option.map (λ x=>Addr.add x (0*k)) a)=a:=by
 cases a with
 | none=>simp
 | some q=>simp[Addr.add]
end Go.Vc
namespace Go.Proofs.YtmffhopdpbikgaaGreatDoor
open Go Go.Vc _root_.Go.Proofs.Tryz
def Bj(a b c d:Int)(w:World)(K:KP):=an w (.cells #[iv a,iv b,iv c,iv d] 23) λ a b=>∃ c d e f,af b (qd a 0) 0 [iv c,iv d,iv e,iv f]/\an b (.cells #[iv c,iv d,iv e,iv f,qz,qn,qn,qn,qn,.pointer none,qz,qz,qz,qz,qz,qz,qz,qz,qn,.bool false,.bool false,qz,qz,qz,qz,qz,qz,qz,qz,qn,.bool false,.bool false,qz,qz,qz,qz,qz,qz,qz,qz,qn,.bool false,.bool false,qz,qz,qz,qz,qz,qz,qz,qz,qn,.bool false,.bool false,qz,qz,qz,qz,qz,qz,qz,qz,qn,.bool false,.bool false,qz,qz,qz,qz,qz,qz,qz,qz,qn,.bool false,.bool false,qz,qz,qz,qz,qz,qz,qz,qz,qn,.bool false,.bool false,qz,qz,qz,qz,qz,qz,qz,qz,qn,.bool false,.bool false,.int .u64 0,qz,.int .u64 0] 80) λ a b=>K (qp a) b
theorem Cz{n1 n2 n3 n4 w K}(h:Bj n1 n2 n3 n4 w K):CP 8 #[.agg #[iv n1,iv n2,iv n3,iv n4]] w K:=ah (az []) func8 (by kernel_rfl) (by kernel_rfl) h
def jO(a:Nat)(b c d:Int)(e:I6)(f:ByteArray)(g:Int)(w:World)(K:KP):=an w (.cells #[qp a] 27) λ a h=>an h (.cells (iv b :: iv c :: iv d :: e.on [.string f,.int .u64 g]:List Value).toArray 36) λ b c=>an c (.cells #[qz] 31) λ c d=>∃ e,d.cell? (qd a 0)=some (.pointer e)/\cond (e).isNone (aM d (qd c 0) (iv 6) λ e=>∃ f,e.cell? (qd c 0)=some (iv f)/\K (iv f) e) (∃ e f g,∃ h:I6,∃ i j,af d (qd b 0) 0 (iv e :: iv f :: iv g :: h.on [.string i,.int .u64 j])/\CC 24 #[.agg (iv e :: iv f :: iv g :: h.on [.string i,.int .u64 j]:List Value).toArray] d λ d e=>∃ f,d=.returned (iv f)/\cond (f !=0) (aM e (qd c 0) (iv f) λ d=>∃ f,d.cell? (qd c 0)=some (iv f)/\K (iv f) d) (∃ d,e.cell? (qd a 0)=some (.pointer d)/\aq d λ d=>∃ f,e.cell? (Addr.add d 99)=some (iv f)/\cond (decide (f>=600)) (aM e (qd c 0) (iv 18) λ d=>∃ f,d.cell? (qd c 0)=some (iv f)/\K (iv f) d) (∃ d,e.drew.cell? (qd b 0)=some (iv d)/\∃ f,e.drew.cell? (qd a 0)=some (.pointer f)/\aq f λ f=>∃ g,e.drew.cell? (Addr.add f 4)=some (iv g)/\CC 25 #[iv d,iv g] e.drew λ d e=>∃ f,d=.returned (.bool f)/\cond (!f) (aM e (qd c 0) (iv 10) λ d=>∃ f,d.cell? (qd c 0)=some (iv f)/\K (iv f) d) (∃ d:Bool->qW,(∀ f g,d g f->∀ h:qv,cond g (aM f (qd c 0) (iv 6) λ g=>∃ h,g.cell? (qd c 0)=some (iv h)/\K (iv h) g) (∃ g:Bool->qW,(∀ h i,g i h->∀ j:qv,cond i (aM h (qd c 0) (iv 10) λ i=>∃ j,i.cell? (qd c 0)=some (iv j)/\K (iv j) i) (∃ i,h.cell? (qd a 0)=some (.pointer i)/\aq i λ i=>∃ j k l m n o p q r s t u v x y z A B C,∃ D:I6,∃ E F G H I J L,∃ M:I6,∃ N O P Q R S T,∃ U:I6,∃ V W X Y Z a1 a2,∃ a3:I6,∃ a4 a5 a6 a7 a8 a9 b1,∃ b2:I6,∃ b3 b4 b5 b6 b7 b8 b9,∃ c1:I6,∃ c2 c3 c4 c5 c6 c7 c8,∃ c9:I6,∃ d1 d2 d3 d4 d5 d6 d7,∃ d8:I6,∃ d9 e1 e2 e3 e4 e5 e6 e7 e8,af h i 0 (iv j :: iv k :: iv l :: iv m :: iv n :: .slice o p q :: .slice r s t :: .slice u v x :: .slice y z A :: .pointer B :: iv C :: D.on (iv E :: .slice F G H :: .bool I :: .bool J :: iv L :: M.on (iv N :: .slice O P Q :: .bool R :: .bool S :: iv T :: U.on (iv V :: .slice W X Y :: .bool Z :: .bool a1 :: iv a2 :: a3.on (iv a4 :: .slice a5 a6 a7 :: .bool a8 :: .bool a9 :: iv b1 :: b2.on (iv b3 :: .slice b4 b5 b6 :: .bool b7 :: .bool b8 :: iv b9 :: c1.on (iv c2 :: .slice c3 c4 c5 :: .bool c6 :: .bool c7 :: iv c8 :: c9.on (iv d1 :: .slice d2 d3 d4 :: .bool d5 :: .bool d6 :: iv d7 :: d8.on [iv d9,.slice e1 e2 e3,.bool e4,.bool e5,.int .u64 e6,iv e7,.int .u64 e8]))))))))/\an h (.cells #[qz,qz,qz,qz,qz,qn,qn,qn,qn,.pointer none,qz,qz,qz,qz,qz,qz,qz,qz,qn,.bool false,.bool false,qz,qz,qz,qz,qz,qz,qz,qz,qn,.bool false,.bool false,qz,qz,qz,qz,qz,qz,qz,qz,qn,.bool false,.bool false,qz,qz,qz,qz,qz,qz,qz,qz,qn,.bool false,.bool false,qz,qz,qz,qz,qz,qz,qz,qz,qn,.bool false,.bool false,qz,qz,qz,qz,qz,qz,qz,qz,qn,.bool false,.bool false,qz,qz,qz,qz,qz,qz,qz,qz,qn,.bool false,.bool false,qz,qz,qz,qz,qz,qz,qz,qz,qn,.bool false,.bool false,.int .u64 0,qz,.int .u64 0] 80) λ h i=>aK (qd h 0) 0 (iv j :: iv k :: iv l :: iv m :: iv n :: .slice o p q :: .slice r s t :: .slice u v x :: .slice y z A :: .pointer B :: iv C :: D.on (iv E :: .slice F G H :: .bool I :: .bool J :: iv L :: M.on (iv N :: .slice O P Q :: .bool R :: .bool S :: iv T :: U.on (iv V :: .slice W X Y :: .bool Z :: .bool a1 :: iv a2 :: a3.on (iv a4 :: .slice a5 a6 a7 :: .bool a8 :: .bool a9 :: iv b1 :: b2.on (iv b3 :: .slice b4 b5 b6 :: .bool b7 :: .bool b8 :: iv b9 :: c1.on (iv c2 :: .slice c3 c4 c5 :: .bool c6 :: .bool c7 :: iv c8 :: c9.on (iv d1 :: .slice d2 d3 d4 :: .bool d5 :: .bool d6 :: iv d7 :: d8.on [iv d9,.slice e1 e2 e3,.bool e4,.bool e5,.int .u64 e6,iv e7,.int .u64 e8])))))))) i λ i=>∃ j,i.drew.cell? (qd a 0)=some (.pointer j)/\∃ k,i.drew.cell? (qd a 0)=some (.pointer k)/\aq k λ k=>∃ l,i.drew.cell? (Addr.add k 9)=some (.pointer l)/\CC 28 #[.pointer l] i.drew λ i k=>∃ l,i=.returned (.pointer l)/\k.cell? (qd a 0)=some (.pointer j)/\aq j λ i=>aM k (Addr.add i 9) (.pointer l) λ i=>∃ j,i.cell? (qd a 0)=some (.pointer j)/\∃ k,i.cell? (qd b 0)=some (iv k)/\CC 29 #[.pointer j,iv k] i λ i j=>∃ k:Value,i=.returned k/\∃ i,j.cell? (qd a 0)=some (.pointer i)/\∃ l m n,∃ o:I6,∃ p q,af j (qd b 0) 0 (iv l :: iv m :: iv n :: o.on [.string p,.int .u64 q])/\cr prog k #[.pointer i,.agg (iv l :: iv m :: iv n :: o.on [.string p,.int .u64 q]:List Value).toArray] j λ i j=>∃ k,i=.returned (iv k)/\aM j (qd c 0) (iv k) λ i=>∃ j,i.cell? (qd c 0)=some (iv j)/\cond (j !=0) (∃ j,i.cell? (qd c 0)=some (iv j)/\aM i (qd c 0) (iv j) λ j=>EK prog 27 #[qp c,qp h,qp a] j λ j=>∃ k,j.cell? (qd c 0)=some (iv k)/\K (iv k) j) (∃ j k l,∃ m:I6,∃ n o,af i (qd b 0) 0 (iv j :: iv k :: iv l :: m.on [.string n,.int .u64 o])/\CC 11 #[.agg (iv j :: iv k :: iv l :: m.on [.string n,.int .u64 o]:List Value).toArray] i λ i j=>∃ k l,i=.returned (.tuple #[.string k,iv l])/\∃ i,j.cell? (qd a 0)=some (.pointer i)/\aq i λ m=>∃ n,j.cell? (Addr.add m 99)=some (iv n)/\aq i λ i=>aM j (Addr.add i 99) (iv (IntKind.i64.wrap (n+1))) λ i=>∃ j,i.drew.cell? (qd a 0)=some (.pointer j)/\∃ m,i.drew.cell? (qd a 0)=some (.pointer m)/\aq m λ m=>∃ n,i.drew.cell? (Addr.add m 100)=some (.int .u64 n)/\CC 12 #[.int .u64 n,.string k] i.drew λ i k=>∃ m,i=.returned (.int .u64 m)/\k.cell? (qd a 0)=some (.pointer j)/\aq j λ i=>aM k (Addr.add i 100) (.int .u64 m) λ i=>aM i (qd c 0) (iv l) λ i=>EK prog 27 #[qp c,qp h,qp a] i λ h=>∃ i,h.cell? (qd c 0)=some (iv i)/\K (iv i) h)))/\∃ c,f.drew.cell? (qd b 0)=some (iv c)/\CC 26 #[iv c] f.drew λ c f=>∃ h,c=.returned (.bool h)/\cond h (∃ c,f.cell? (qd a 0)=some (.pointer c)/\∃ h,f.cell? (qd b 1)=some (iv h)/\aq c λ c=>0<=h/\h<8/\∃ i,f.cell? (Addr.add (Addr.add (Addr.add c 10) ((h).toNat*11)) 10)=some (.bool i)/\g i f) (g false f)))/\∃ c,e.drew.cell? (qd b 0)=some (iv c)/\CC 26 #[iv c] e.drew λ c e=>∃ f,c=.returned (.bool f)/\cond f (∃ c,e.cell? (qd b 1)=some (iv c)/\∃ b,e.cell? (qd a 0)=some (.pointer b)/\aq b λ a=>∃ b f g,e.cell? (Addr.add (Addr.add a 5) 1)=some (.slice b f g)/\d (decide (c>=(f:Int))) e) (d false e)))))
theorem o7{b1 n1 n2 n3 u1 s1 n4 w K}(h:jO b1 n1 n2 n3 u1 s1 n4 w K):CP 10 #[.pointer (some ⟨b1,0,none⟩),.agg (iv n1 :: iv n2 :: iv n3 :: u1.on [.string s1,.int .u64 n4]:List Value).toArray] w K:=ah (az [(975,[(32,.s .bool)]),(3903,[(47,.s .bool)])]) func10 (by kernel_rfl) (by kernel_rfl) h
def jQ(a:Nat)(w:World)(K:KP):=∃ b,w.cell? (qd a 4)=some (iv b)/\K (iv b) w
theorem o9{b1 w K}(h:jQ b1 w K):CP 16 #[.pointer (some ⟨b1,0,none⟩)] w K:=ah (az []) func16 (by kernel_rfl) (by kernel_rfl) h
def jP(a:Nat)(w:World)(K:KP):=∃ b,w.cell? (qd a 9)=some (.pointer b)/\CC 28 #[.pointer b] w λ a b=>∃ c,a=.returned (.pointer c)/\K (.pointer c) b
theorem o8{b1 w K}(h:jP b1 w K):CP 15 #[.pointer (some ⟨b1,0,none⟩)] w K:=ah (az []) func15 (by kernel_rfl) (by kernel_rfl) h
def pq(a b:Int)(w:World)(K:KP):=cond (a==1) (K (.bool (b==0)) w) (∃ c:Bool->qW,(∀ d e,c e d->∀ f:qv,cond e (K (.bool (b==1)) d) (∃ e:Bool->qW,(∀ f g,e g f->∀ h:qv,cond g (K (.bool (b==2)) f) (cond (a==7) (cond (decide (b>=1)) (K (.bool (decide (b<=3))) f) (K (.bool false) f)) (cond (a==8) (cond (b==1) (K (.bool true) f) (K (.bool (b==2)) f)) (K (.bool (b==3)) f))))/\cond (a==5) (e (a==5) d) (cond (a==6) (e (a==6) d) (e (a==9) d))))/\cond (a==2) (c (a==2) w) (cond (a==3) (c (a==3) w) (c (a==4) w)))
theorem tW{n1 n2 w K}(h:pq n1 n2 w K):CP 25 #[iv n1,iv n2] w K:=ah (az [(107,[(10,.s .bool)]),(431,[(16,.s .bool)])]) func25 (by kernel_rfl) (by kernel_rfl) h
def wu(a:Int)(w:World)(K:KP):=cond (a==2) (K (.bool true) w) (cond (a==5) (K (.bool true) w) (cond (a==6) (K (.bool true) w) (K (.bool (a==7)) w)))
theorem zC{n1 w K}(h:wu n1 w K):CP 26 #[iv n1] w K:=ah (az []) func26 (by kernel_rfl) (by kernel_rfl) h
def gP(a b c:Nat)(w:World)(R:qW):Prop:=∃ d,w.cell? (qd a 0)=some (iv d)/\cond (d !=0) (∃ a,w.cell? (qd c 0)=some (.pointer a)/\∃ c d e f g h i j k l m n o p q r s t u,∃ v:I6,∃ x y z A B C D,∃ E:I6,∃ F G H I J L M,∃ N:I6,∃ O P Q S T U V,∃ W:I6,∃ X Y Z a1 a2 a3 a4,∃ a5:I6,∃ a6 a7 a8 a9 b1 b2 b3,∃ b4:I6,∃ b5 b6 b7 b8 b9 c1 c2,∃ c3:I6,∃ c4 c5 c6 c7 c8 c9 d1,∃ d2:I6,∃ d3 d4 d5 d6 d7 d8 d9 e1 e2,af w (qd b 0) 0 (iv c :: iv d :: iv e :: iv f :: iv g :: .slice h i j :: .slice k l m :: .slice n o p :: .slice q r s :: .pointer t :: iv u :: v.on (iv x :: .slice y z A :: .bool B :: .bool C :: iv D :: E.on (iv F :: .slice G H I :: .bool J :: .bool L :: iv M :: N.on (iv O :: .slice P Q S :: .bool T :: .bool U :: iv V :: W.on (iv X :: .slice Y Z a1 :: .bool a2 :: .bool a3 :: iv a4 :: a5.on (iv a6 :: .slice a7 a8 a9 :: .bool b1 :: .bool b2 :: iv b3 :: b4.on (iv b5 :: .slice b6 b7 b8 :: .bool b9 :: .bool c1 :: iv c2 :: c3.on (iv c4 :: .slice c5 c6 c7 :: .bool c8 :: .bool c9 :: iv d1 :: d2.on [iv d3,.slice d4 d5 d6,.bool d7,.bool d8,.int .u64 d9,iv e1,.int .u64 e2]))))))))/\aq a λ a=>aK a 0 (iv c :: iv d :: iv e :: iv f :: iv g :: .slice h i j :: .slice k l m :: .slice n o p :: .slice q r s :: .pointer t :: iv u :: v.on (iv x :: .slice y z A :: .bool B :: .bool C :: iv D :: E.on (iv F :: .slice G H I :: .bool J :: .bool L :: iv M :: N.on (iv O :: .slice P Q S :: .bool T :: .bool U :: iv V :: W.on (iv X :: .slice Y Z a1 :: .bool a2 :: .bool a3 :: iv a4 :: a5.on (iv a6 :: .slice a7 a8 a9 :: .bool b1 :: .bool b2 :: iv b3 :: b4.on (iv b5 :: .slice b6 b7 b8 :: .bool b9 :: .bool c1 :: iv c2 :: c3.on (iv c4 :: .slice c5 c6 c7 :: .bool c8 :: .bool c9 :: iv d1 :: d2.on [iv d3,.slice d4 d5 d6,.bool d7,.bool d8,.int .u64 d9,iv e1,.int .u64 e2])))))))) w λ a=>([]:Df)=[]/\R a) (([]:Df)=[]/\R w)
theorem mw{b1 b2 b3:Nat}{w:World}{R:World->Prop}(h:gP b1 b2 b3 w R):EK prog 27 #[.pointer (some ⟨b1,0,none⟩),.pointer (some ⟨b2,0,none⟩),.pointer (some ⟨b3,0,none⟩)] w R:=Mk (az []) func27 (by kernel_rfl) (by kernel_rfl) (args:=[.pointer (some ⟨b1,0,none⟩),.pointer (some ⟨b2,0,none⟩),.pointer (some ⟨b3,0,none⟩)]) (by kernel_rfl) h
def ja(a:Nat)(b:Int)(w:World)(K:KP):=cond (b==1) (K (.func (.func 51) #[] #[]) w) (cond (b==2) (K (.func (.func 52) #[] #[]) w) (∃ a:Bool->qW,(∀ c d,a d c->∀ e:qv,cond d (K (.func (.func 53) #[] #[]) c) (cond (b==5) (K (.func (.func 54) #[] #[]) c) (cond (b==6) (K (.func (.func 55) #[] #[]) c) (cond (b==7) (K (.func (.func 56) #[] #[]) c) (cond (b==8) (K (.func (.func 57) #[] #[]) c) (K (.func (.func 58) #[] #[]) c))))))/\cond (b==3) (a (b==3) w) (a (b==4) w)))
theorem nN{b1 n1 w K}(h:ja b1 n1 w K):CP 29 #[.pointer (some ⟨b1,0,none⟩),iv n1] w K:=ah (az [(431,[(10,.s .bool)])]) func29 (by kernel_rfl) (by kernel_rfl) h
def lz(a:Nat)(b c d:Int)(e:I6)(f:ByteArray)(g:Int)(w:World)(K:KP):=an w (.cells (iv b :: iv c :: iv d :: e.on [.string f,.int .u64 g]:List Value).toArray 36) λ b c=>∃ d e f g,af c (qd a 0) 0 [iv d,iv e,iv f,iv g]/\CC 86 #[.agg #[iv d,iv e,iv f,iv g]] c λ c d=>∃ e,c=.returned (iv e)/\cond (e !=0) (K (iv e) d) (∃ c,d.cell? (qd b 9)=some (.string c)/\CC 87 #[.string c] d λ b c=>∃ d e f g h i j k l m n o p q,b=.returned (.tuple #[.agg #[.slice d e f,.slice g h i,.slice j k l,.slice m n o],iv p,iv q])/\an c (.cells #[qn,qn,qn,qn] 75) λ b c=>aK (qd b 0) 0 [.slice d e f,.slice g h i,.slice j k l,.slice m n o] c λ c=>cond (q !=0) (K (iv q) c) (∃ d e f g h i j k l m n o,af c.drew (qd b 0) 0 [.slice d e f,.slice g h i,.slice j k l,.slice m n o]/\∃ p q r s,af c.drew (qd a 0) 0 [iv p,iv q,iv r,iv s]/\CC 88 #[.agg #[.slice d e f,.slice g h i,.slice j k l,.slice m n o],.agg #[iv p,iv q,iv r,iv s]] c.drew λ c d=>∃ e f,c=.returned (.tuple #[.pointer e,iv f])/\cond (f !=0) (K (iv f) d) (∃ c f g h i j k l m n o p,af d (qd b 0) 0 [.slice c f g,.slice h i j,.slice k l m,.slice n o p]/\aK (qd a 5) 0 [.slice c f g,.slice h i j,.slice k l m,.slice n o p] d λ b=>aM b (qd a 9) (.pointer e) λ b=>aM b (qd a 4) (iv 1) λ a=>K qz a)))
theorem qE{b1 n1 n2 n3 u1 s1 n4 w K}(h:lz b1 n1 n2 n3 u1 s1 n4 w K):CP 51 #[.pointer (some ⟨b1,0,none⟩),.agg (iv n1 :: iv n2 :: iv n3 :: u1.on [.string s1,.int .u64 n4]:List Value).toArray] w K:=ah (az []) func51 (by kernel_rfl) (by kernel_rfl) h
def iZ(a:Nat)(b c d:Int)(e:I6)(f:ByteArray)(g:Int)(w:World)(K:KP):=an w (.cells (iv b :: iv c :: iv d :: e.on [.string f,.int .u64 g]:List Value).toArray 36) λ b c=>∃ d,c.drew.cell? (qd a 9)=some (.pointer d)/\∃ a,c.drew.cell? (qd b 1)=some (iv a)/\∃ e:I6,af c.drew (qd b 3) 0 e.vs/\CC 89 #[.pointer d,iv a,.agg e.vs.toArray] c.drew λ a b=>∃ c,a=.returned (iv c)/\K (iv c) b
theorem nM{b1 n1 n2 n3 u1 s1 n4 w K}(h:iZ b1 n1 n2 n3 u1 s1 n4 w K):CP 52 #[.pointer (some ⟨b1,0,none⟩),.agg (iv n1 :: iv n2 :: iv n3 :: u1.on [.string s1,.int .u64 n4]:List Value).toArray] w K:=ah (az []) func52 (by kernel_rfl) (by kernel_rfl) h
def jS(a:Nat)(b c d:Int)(e:I6)(f:ByteArray)(g:Int)(w:World)(K:KP):=an w (.cells (iv b :: iv c :: iv d :: e.on [.string f,.int .u64 g]:List Value).toArray 36) λ b c=>∃ d:Bool->Int->qW,(∀ e f g,d f g e->∀ h:qv,∃ h:qW,(∀ i,h i->∀ j:qv,K (iv g) i)/\cond f (aM e (qd a 4) (iv 2) λ f=>h f) (h e))/\∃ e,c.cell? (qd b 0)=some (iv e)/\cond (e==3) (∃ b,c.cell? (qd a 9)=some (.pointer b)/\CC 90 #[.pointer b] c λ b e=>∃ f g,b=.returned (.tuple #[.bool f,iv g])/\d f g e) (∃ b,c.cell? (qd a 9)=some (.pointer b)/\CC 91 #[.pointer b] c λ a b=>∃ c,a=.returned (iv c)/\d true c b)
theorem pn{b1 n1 n2 n3 u1 s1 n4 w K}(h:jS b1 n1 n2 n3 u1 s1 n4 w K):CP 53 #[.pointer (some ⟨b1,0,none⟩),.agg (iv n1 :: iv n2 :: iv n3 :: u1.on [.string s1,.int .u64 n4]:List Value).toArray] w K:=ah (az [(7,[(5,.s .bool),(6,.s (.int .i64))]),(15,[])]) func53 (by kernel_rfl) (by kernel_rfl) h
def mW(a:Nat)(b c d:Int)(e:I6)(f:ByteArray)(g:Int)(w:World)(K:KP):=an w (.cells (iv b :: iv c :: iv d :: e.on [.string f,.int .u64 g]:List Value).toArray 36) λ b c=>∃ d,c.cell? (qd b 1)=some (iv d)/\∃ e,c.cell? (qd b 9)=some (.string e)/\CC 92 #[qp a,iv d,.string e] c λ c d=>∃ e,∃ f:I6,∃ g h i j k,c=.returned (.tuple #[.agg (iv e :: f.on [iv g,.slice h i j]:List Value).toArray,iv k])/\an d (.cells #[qz,qz,qz,qz,qz,qz,qz,qz,qn] 60) λ c d=>aK (qd c 0) 0 (iv e :: f.on [iv g,.slice h i j]) d λ d=>∃ e:qW,(∀ f,e f->∀ g:qv,K (iv k) f)/\cond (k==0) (∃ f,d.drew.cell? (qd b 1)=some (iv f)/\∃ g,d.drew.cell? (qd b 1)=some (iv g)/\∃ h,∃ i:I6,∃ j k l m,af d.drew (qd c 0) 0 (iv h :: i.on [iv j,.slice k l m])/\0<=f/\f<8/\aK (Addr.add (qd a 10) ((f).toNat*11)) 0 (iv h :: i.on [iv j,.slice k l m]) d.drew λ c=>c.cell? (qd b 1)=some (iv g)/\0<=g/\g<8/\aM c (Addr.add (Addr.add (qd a 10) ((g).toNat*11)) 9) (.bool true) λ a=>e a) (e d)
theorem sg{b1 n1 n2 n3 u1 s1 n4 w K}(h:mW b1 n1 n2 n3 u1 s1 n4 w K):CP 54 #[.pointer (some ⟨b1,0,none⟩),.agg (iv n1 :: iv n2 :: iv n3 :: u1.on [.string s1,.int .u64 n4]:List Value).toArray] w K:=ah (az [(7,[])]) func54 (by kernel_rfl) (by kernel_rfl) h
def gy(a:Nat)(b c d:Int)(e:I6)(f:ByteArray)(g:Int)(w:World)(K:KP):=an w (.cells (iv b :: iv c :: iv d :: e.on [.string f,.int .u64 g]:List Value).toArray 36) λ b c=>∃ d,c.drew.cell? (qd b 1)=some (iv d)/\0<=d/\d<8/\∃ e,c.drew.cell? (Addr.add (Addr.add (qd a 10) ((d).toNat*11)) 9)=some (.bool e)/\cond (!e) (K (iv 6) c.drew) (∃ d,c.drew.cell? (qd b 1)=some (iv d)/\CC 93 #[qp a,iv d] c.drew λ a b=>a=.returned (.tuple #[])/\K qz b)
theorem lB{b1 n1 n2 n3 u1 s1 n4 w K}(h:gy b1 n1 n2 n3 u1 s1 n4 w K):CP 55 #[.pointer (some ⟨b1,0,none⟩),.agg (iv n1 :: iv n2 :: iv n3 :: u1.on [.string s1,.int .u64 n4]:List Value).toArray] w K:=ah (az []) func55 (by kernel_rfl) (by kernel_rfl) h
def eU(a:Nat)(b c d:Int)(e:I6)(f:ByteArray)(g:Int)(w:World)(K:KP):=an w (.cells (iv b :: iv c :: iv d :: e.on [.string f,.int .u64 g]:List Value).toArray 36) λ b c=>∃ d,c.drew.cell? (qd b 1)=some (iv d)/\0<=d/\d<8/\aM c.drew (Addr.add (Addr.add (qd a 10) ((d).toNat*11)) 10) (.bool true) λ c=>∃ d,c.cell? (qd b 1)=some (iv d)/\CC 93 #[qp a,iv d] c λ c d=>c=.returned (.tuple #[])/\∃ c,d.drew.cell? (qd a 9)=some (.pointer c)/\∃ a,d.drew.cell? (qd b 1)=some (iv a)/\CC 94 #[.pointer c,iv a] d.drew λ a b=>∃ c,a=.returned (iv c)/\K (iv c) b
theorem jj{b1 n1 n2 n3 u1 s1 n4 w K}(h:eU b1 n1 n2 n3 u1 s1 n4 w K):CP 56 #[.pointer (some ⟨b1,0,none⟩),.agg (iv n1 :: iv n2 :: iv n3 :: u1.on [.string s1,.int .u64 n4]:List Value).toArray] w K:=ah (az []) func56 (by kernel_rfl) (by kernel_rfl) h
def jR(a:Nat)(b c d:Int)(e:I6)(f:ByteArray)(g:Int)(w:World)(K:KP):=an w (.cells (iv b :: iv c :: iv d :: e.on [.string f,.int .u64 g]:List Value).toArray 36) λ b c=>∃ d,c.drew.cell? (qd a 9)=some (.pointer d)/\∃ e,c.drew.cell? (qd b 2)=some (iv e)/\CC 95 #[.pointer d,iv e] c.drew λ b c=>∃ d,b=.returned (iv d)/\cond (d !=0) (K (iv d) c) (∃ b:Int->qN,(∃ d,b 0 c d)/\∀ c d e,b e c d->∀ f:qv,cond (decide (e<8)) (CC 93 #[qp a,iv e] c λ f g=>f=.returned (.tuple #[])/\∃ f,f<d/\b (IntKind.i64.wrap (e+1)) g f) (aM c (qd a 4) (iv 1) λ a=>K qz a))
theorem pg{b1 n1 n2 n3 u1 s1 n4 w K}(h:jR b1 n1 n2 n3 u1 s1 n4 w K):CP 57 #[.pointer (some ⟨b1,0,none⟩),.agg (iv n1 :: iv n2 :: iv n3 :: u1.on [.string s1,.int .u64 n4]:List Value).toArray] w K:=ah (az [(58,[(17,.s (.int .i64))])]) func57 (by kernel_rfl) (by kernel_rfl) h
def jb(a:Nat)(b c d:Int)(e:I6)(f:ByteArray)(g:Int)(w:World)(K:KP):=an w (.cells (iv b :: iv c :: iv d :: e.on [.string f,.int .u64 g]:List Value).toArray 36) λ b c=>aM c (qd a 4) (iv 3) λ c=>∃ d:qW,(∀ e,d e->∀ f:qv,K qz e)/\∃ e,c.cell? (qd b 0)=some (iv e)/\cond (e==10) (∃ e,c.drew.cell? (qd b 10)=some (.int .u64 e)/\aM c.drew (qd a 4) (iv 4) λ f=>f.cell? (qd b 10)=some (.int .u64 e)/\aM f (qd a 98) (.int .u64 e) λ a=>d a) (d c)
theorem nO{b1 n1 n2 n3 u1 s1 n4 w K}(h:jb b1 n1 n2 n3 u1 s1 n4 w K):CP 58 #[.pointer (some ⟨b1,0,none⟩),.agg (iv n1 :: iv n2 :: iv n3 :: u1.on [.string s1,.int .u64 n4]:List Value).toArray] w K:=ah (az [(7,[])]) func58 (by kernel_rfl) (by kernel_rfl) h
def jc(a:Nat)(b:Int)(c:ByteArray)(w:World)(K:KP):=an w (.cells #[qz,qz,qz,qz,qz,qz,qz,qz,qn] 60) λ d e=>∃ f g h,e.cell? (qd a 5)=some (.slice f g h)/\CC 126 #[.slice f g h,.string c] e λ c e=>∃ f,∃ g:I6,∃ h i j k l,c=.returned (.tuple #[.agg (iv f :: g.on [iv h,.slice i j k]:List Value).toArray,iv l])/\an e (.cells #[qz,qz,qz,qz,qz,qz,qz,qz,qn] 60) λ c e=>aK (qd c 0) 0 (iv f :: g.on [iv h,.slice i j k]) e λ e=>cond (l !=0) (aK (qd d 0) 0 [qz,qz,qz,qz,qz,qz,qz,qz,qn] e λ f=>∃ g,∃ h:I6,∃ i j k m,af f (qd d 0) 0 (iv g :: h.on [iv i,.slice j k m])/\K (.tuple #[.agg (iv g :: h.on [iv i,.slice j k m]:List Value).toArray,iv l]) f) (∃ f,∃ g:I6,∃ h i j k,af e.drew (qd c 0) 0 (iv f :: g.on [iv h,.slice i j k])/\∃ l m n,e.drew.cell? (qd a 5)=some (.slice l m n)/\CC 34 #[.slice l m n] e.drew λ e l=>∃ m:I6,e=.returned (.agg m.vs.toArray)/\af l (qd c 0) 0 (iv f :: g.on [iv h,.slice i j k])/\CC 37 #[.agg (iv f :: g.on [iv h,.slice i j k]:List Value).toArray,.agg m.vs.toArray] l λ e f=>∃ g h i j,e=.returned (.tuple #[.slice g h i,iv j])/\cond (j !=0) (aK (qd d 0) 0 [qz,qz,qz,qz,qz,qz,qz,qz,qn] f λ e=>∃ k,∃ l:I6,∃ m n o p,af e (qd d 0) 0 (iv k :: l.on [iv m,.slice n o p])/\K (.tuple #[.agg (iv k :: l.on [iv m,.slice n o p]:List Value).toArray,iv j]) e) (∃ e j k,f.cell? (qd a 6)=some (.slice e j k)/\aq e λ e=>0<=b/\b<(j:Int)/\∃ j,f.cell? (Addr.add (Addr.add e ((b).toNat*4)) 2)=some (iv j)/\∃ e:Int->qN,(∃ k,e 0 f k)/\∀ f k l,e l f k->∀ m:qv,cond (decide (l<(h:Int))) (aq g λ m=>0<=l/\l<(h:Int)/\∃ n,∃ o:I6,∃ p,af f (Addr.add m ((l).toNat*8)) 0 (iv n :: o.on [iv p])/\an f (.cells #[qz,qz,qz,qz,qz,qz,qz,qz] 44) λ m q=>aK (qd m 0) 0 (iv n :: o.on [iv p]) q λ n=>∃ o p q r s t u v x y z A,af n.drew (qd a 5) 0 [.slice o p q,.slice r s t,.slice u v x,.slice y z A]/\∃ B:I6,af n.drew (qd m 1) 0 B.vs/\CC 75 #[.agg #[.slice o p q,.slice r s t,.slice u v x,.slice y z A],iv b,.agg B.vs.toArray] n.drew λ n o=>∃ p,n=.returned (iv p)/\cond (p !=0) (aK (qd d 0) 0 [qz,qz,qz,qz,qz,qz,qz,qz,qn] o λ n=>∃ q,∃ r:I6,∃ s t u v,af n (qd d 0) 0 (iv q :: r.on [iv s,.slice t u v])/\K (.tuple #[.agg (iv q :: r.on [iv s,.slice t u v]:List Value).toArray,iv p]) n) (∃ n:Bool->qW,(∀ p q,n q p->∀ r:qv,cond q (aK (qd d 0) 0 [qz,qz,qz,qz,qz,qz,qz,qz,qn] p λ q=>∃ r,∃ s:I6,∃ t u v x,af q (qd d 0) 0 (iv r :: s.on [iv t,.slice u v x])/\K (.tuple #[.agg (iv r :: s.on [iv t,.slice u v x]:List Value).toArray,iv 17]) q) (∃ q,q<k/\e (IntKind.i64.wrap (l+1)) p q))/\cond (j !=0) (∃ e,o.cell? (qd m 7)=some (iv e)/\n (decide (j<e)) o) (n false o))) (∃ e,f.cell? (qd a 9)=some (.pointer e)/\CC 36 #[.pointer e,iv b] f λ a b=>∃ e f j,a=.returned (.slice e f j)/\CC 127 #[.slice e f j,.slice g h i] b λ a b=>∃ e f,a=.returned (.tuple #[iv e,iv f])/\∃ a,∃ e:I6,∃ g h i j,af b (qd c 0) 0 (iv a :: e.on [iv g,.slice h i j])/\aK (qd d 0) 0 (iv a :: e.on [iv g,.slice h i j]) b λ a=>∃ b,∃ c:I6,∃ e g h i,af a (qd d 0) 0 (iv b :: c.on [iv e,.slice g h i])/\K (.tuple #[.agg (iv b :: c.on [iv e,.slice g h i]:List Value).toArray,iv f]) a)))
theorem nP{b1 n1 s1 w K}(h:jc b1 n1 s1 w K):CP 92 #[.pointer (some ⟨b1,0,none⟩),iv n1,.string s1] w K:=ah (az [(1018,[(55,.s (.int .i64))]),(130355,[(78,.s .bool)])]) func92 (by kernel_rfl) (by kernel_rfl) h
def lu(a:Nat)(b:Int)(w:World)(K:KP):=0<=b/\b<8/\aK (Addr.add (qd a 10) ((b).toNat*11)) 0 [qz,qz,qz,qz,qz,qz,qz,qz,qn] w.drew λ c=>0<=b/\b<8/\aM c (Addr.add (Addr.add (qd a 10) ((b).toNat*11)) 9) (.bool false) λ a=>K (.tuple #[]) a
theorem qD{b1 n1 w K}(h:lu b1 n1 w K):CP 93 #[.pointer (some ⟨b1,0,none⟩),iv n1] w K:=ah (az []) func93 (by kernel_rfl) (by kernel_rfl) h
def dB(k p:Int):Bool :=
 if k=1 then p==0 else if k=2\/k=3\/k=4 then p==1 else if k=5\/k=6\/k=9 then p==2
 else if k=7 then decide (1<=p)&&decide (p<=3) else if k=8 then p==1||p==2 else p==3
def br(k:Int):Bool:=decide (k=2\/k=5\/k=6\/k=7)
theorem Fz(w:World)(k p:Int):CP 25 #[iv k,iv p] w (λ r w'=>r=.bool (dB k p)/\w' = w):=by
 refine tW ?_;unfold pq
 by_cases h1:k=1
 ·exact cT (by simpa using h1) ⟨by rw[dB,if_pos h1],rfl⟩
 refine cF (by simpa using h1) ⟨λ b w1=>b=decide (k=2\/k=3\/k=4)/\w1=w,?_,?_⟩
 ·rintro w1 _ ⟨rfl,rfl⟩ -
  by_cases h2:k=2\/k=3\/k=4
  ·exact cT (dT h2) ⟨by rw[dB,if_neg h1,if_pos h2],rfl⟩
  refine cF (dF h2) ⟨λ b w2=>b=decide (k=5\/k=6\/k=9)/\w2=w1,?_,?_⟩
  ·rintro w2 _ ⟨rfl,rfl⟩ -
   by_cases h3:k=5\/k=6\/k=9
   ·exact cT (dT h3) ⟨by rw[dB,if_neg h1,if_neg h2,if_pos h3],rfl⟩
   refine cF (dF h3) ?_
   by_cases h7:k=7
   ·have e:dB k p=(decide (1<=p)&&decide (p<=3)):=by rw[dB,if_neg h1,if_neg h2,if_neg h3,if_pos h7]
    refine cT (by simpa using h7) ?_
    by_cases g:1<=p
    ·exact cT (dT g) ⟨by rw[e,dT g,Bool.true_and],rfl⟩
    ·exact cF (dF g) ⟨by rw[e,dF g,Bool.false_and],rfl⟩
   refine cF (by simpa using h7) ?_
   by_cases h8:k=8
   ·have e:dB k p=(p==1||p==2):=by rw[dB,if_neg h1,if_neg h2,if_neg h3,if_neg h7,if_pos h8]
    refine cT (by simpa using h8) ?_
    by_cases g:p=1
    ·exact cT (by simpa using g) ⟨by rw[e,g]; rfl,rfl⟩
    ·exact cF (by simpa using g) ⟨by rw[e,beq_eq_false_iff_ne.2 g,Bool.false_or],rfl⟩
   ·exact cF (by simpa using h8) ⟨by rw[dB,if_neg h1,if_neg h2,if_neg h3,if_neg h7,if_neg h8],rfl⟩
  ·by_cases g5:k=5
   ·exact cT (by simpa using g5) ⟨by rw[dT (Or.inl g5)]; simpa using g5,rfl⟩
   refine cF (by simpa using g5) ?_
   by_cases g6:k=6
   ·exact cT (by simpa using g6) ⟨by rw[dT (Or.inr (Or.inl g6))]; simpa using g6,rfl⟩
   refine cF (by simpa using g6) ⟨?_,rfl⟩
   by_cases g9:k=9
   ·rw[dT (Or.inr (Or.inr g9))]; simpa using g9
   ·rw[dF (by omega)]; simpa using g9
 ·by_cases g2:k=2
  ·exact cT (by simpa using g2) ⟨by rw[dT (Or.inl g2)]; simpa using g2,rfl⟩
  refine cF (by simpa using g2) ?_
  by_cases g3:k=3
  ·exact cT (by simpa using g3) ⟨by rw[dT (Or.inr (Or.inl g3))]; simpa using g3,rfl⟩
  refine cF (by simpa using g3) ⟨?_,rfl⟩
  by_cases g4:k=4
  ·rw[dT (Or.inr (Or.inr g4))]; simpa using g4
  ·rw[dF (by omega)]; simpa using g4
theorem GL(w:World)(k:Int):CP 26 #[iv k] w (λ r w'=>r=.bool (br k)/\w' = w):=by
 refine zC ?_;unfold wu
 by_cases g2:k=2
 ·exact cT (by simpa using g2) ⟨by rw[br,dT (Or.inl g2)],rfl⟩
 refine cF (by simpa using g2) ?_
 by_cases g5:k=5
 ·exact cT (by simpa using g5) ⟨by rw[br,dT (Or.inr (Or.inl g5))],rfl⟩
 refine cF (by simpa using g5) ?_
 by_cases g6:k=6
 ·exact cT (by simpa using g6) ⟨by rw[br,dT (Or.inr (Or.inr (Or.inl g6)))],rfl⟩
 refine cF (by simpa using g6) ⟨?_,rfl⟩
 by_cases g7:k=7
 ·rw[br,dT (Or.inr (Or.inr (Or.inr g7)))]; simpa using g7
 ·rw[br,dF (by omega)]; simpa using g7
end Go.Proofs.YtmffhopdpbikgaaGreatDoor
namespace Go.Vc
open Go
section
variable {P:Program} {w0 w:World} {l:List aD}
theorem Ee{t:TypeId}(ht:P.underlying t=some .string)(s:St w0 w (Sep l))(b:ByteArray){R:Nat->World->Prop}(k:∀ r w',St w0 w' (Sep (bg r (.stringIter b 0) :: l))->R r w') :
  aP P (Instr.range t (.string b)) w λ e w'=>∃ r:Nat,e=.pointer (some ⟨r,0,none⟩)/\R r w':=by
 have hr:(Instr.range t (.string b)).run P w=.ok (.pointer (some ⟨w.heap.size,0,none⟩)) (w.alloc (.stringIter b 0)):=by
  simp[Instr.range,aC ht]
 exact⟨_,_,hr,_,rfl,k _ _ (s.PR _)⟩
theorem Fl{t:TypeId}{r pos:Nat}{b:ByteArray}(s:St w0 w (Sep l))(i:Nat)(e:l[i]?=some (bg r (.stringIter b pos))){K:World->Prop}{F:Int->Int->World->Prop}(h0:b.size<=pos->K w)(h1:pos<b.size->∀ w',St w0 w' (Sep (l.set i (bg r (.stringIter b (pos+(Utf8.decode b pos).2)))))->F pos ((Utf8.decode b pos).1:Int) w') :
  aP P (Instr.next (.pointer (some ⟨r,0,none⟩)) true t) w λ e w'=>(e=.tuple #[.bool false]/\K w')\/∃ n c:Int,e=.tuple #[.bool true,iv n,.int .i32 c]/\F n c w':=by
 have ho:=s.oL i e
 by_cases hp:pos<b.size
 ·refine⟨_,_,?_,.inr ⟨_,_,rfl,h1 hp _ (s.putAt i e _)⟩⟩;simp[Instr.next,ho,hp,getObj,setObj,Sem.run,goInt];rfl
 ·refine⟨_,w,?_,.inl ⟨rfl,h0 (by omega)⟩⟩;simp[Instr.next,ho,hp,getObj,Sem.run]
end
end Go.Vc
namespace Go.Proofs.YtmffhopdpbikgaaGreatDoor
open Go Go.Vc _root_.Go.Proofs.Tryz
def G0(a:Int)(w:World)(K:KP):=cond (decide (a>=48)) (K (.bool (decide (a<=57))) w) (K (.bool false) w)
theorem Fv{n1 w K}(h:G0 n1 w K):CP 228 #[.int .i32 n1] w K:=ah (az []) func228 (by kernel_rfl) (by kernel_rfl) h
def D3(a:Int)(w:World)(K:KP):=cond (decide (a>=97)) (K (.bool (decide (a<=122))) w) (K (.bool false) w)
theorem D4{n1 w K}(h:D3 n1 w K):CP 191 #[.int .i32 n1] w K:=ah (az []) func191 (by kernel_rfl) (by kernel_rfl) h
def G3(a:Int)(w:World)(K:KP):=CC 191 #[.int .i32 a] w λ b c=>∃ d,b=.returned (.bool d)/\cond d (K (.bool true) c) (CC 228 #[.int .i32 a] c λ b c=>∃ d,b=.returned (.bool d)/\cond d (K (.bool true) c) (K (.bool (a==95)) c))
theorem Fy{n1 w K}(h:G3 n1 w K):CP 193 #[.int .i32 n1] w K:=ah (az []) func193 (by kernel_rfl) (by kernel_rfl) h
def KF(a:ByteArray)(b:Int)(c:Value)(w:World)(K:KP):=∃ d:Int->qN,(∃ e,d b w e)/\∀ f e g,d g f e->∀ h:qv,∃ h:Bool->qW,(∀ i j,h j i->∀ k:qv,cond j (∃ j,j<e/\d (IntKind.i64.wrap (g+1)) i j) (0<=g/\g<=((a.size:Nat):Int)/\0<=b/\b<=(((g).toNat:Nat):Int)/\K (.string (a.extract ((b).toNat) ((g).toNat))) i))/\cond (decide (g<((a.size:Nat):Int))) (0<=g/\aq a[(g).toNat]? λ a=>cr prog c #[.int .i32 (IntKind.i32.wrap (a.toNat:Int))] f λ a b=>∃ c,a=.returned (.bool c)/\h c b) (h false f)
theorem D5{s1 n1 v1 w K}(h:KF s1 n1 v1 w K):CP 192 #[.string s1,iv n1,v1] w K:=ah (az [(28,[(7,.s (.int .i64))]),(112,[(20,.s .bool)])]) func192 (by kernel_rfl) (by kernel_rfl) h
def D1(a:ByteArray)(w:World)(K:KP):=cond (!(a.toList==(bs []).toList)) (cond (decide (((a.size:Nat):Int)<=(12:Int))) (0<=(0:Int)/\aq a[((0:Int)).toNat]? λ b=>CC 191 #[.int .i32 (IntKind.i32.wrap (b.toNat:Int))] w λ b c=>∃ d,b=.returned (.bool d)/\cond d (CC 192 #[.string a,qz,.func (.func 193) #[] #[]] c λ b d=>∃ e,b=.returned (.string e)/\K (.bool (e.toList==a.toList)) d) (K (.bool false) c)) (K (.bool false) w)) (K (.bool false) w)
theorem D2{s1 w K}(h:D1 s1 w K):CP 129 #[.string s1] w K:=ah (az []) func129 (by kernel_rfl) (by kernel_rfl) h
def GZ(a:I6)(w:World)(K:KP):=an w (.cells a.vs.toArray 34) λ a b=>∃ c:I6,af b (qd a 0) 0 c.vs/\CC 47 #[.agg c.vs.toArray] b λ b c=>∃ d,b=.returned (iv d)/\cond (d !=0) (K qz c) (∃ b:I6,af c (qd a 0) 0 b.vs/\∃ a:Int->Int->qN,(∃ d,a 1 (0:Int) c d)/\∀ c d e f,a e f c d->∀ g:qv,cond (decide (f<6)) (0<=f/\f<6/\∃ g,(b.vs.toArray:Array Value)[(f).toNat*1]?=some (iv g)/\∃ b,b<d/\a (IntKind.i64.wrap (e*(IntKind.i64.wrap (g+1)))) (IntKind.i64.wrap (f+1)) c b) (cond (decide (e>1024)) (K qz c) (K (iv e) c)))
theorem Fu{u1 w K}(h:GZ u1 w K):CP 105 #[.agg u1.vs.toArray] w K:=ah (az [(122,[(3,.s (.int .i64)),(10,.s (.int .i64))])]) func105 (by kernel_rfl) (by kernel_rfl) h
def GV(a:I6)(w:World)(K:KP):=an w (.cells a.vs.toArray 34) λ a b=>∃ c:I6,af b (qd a 0) 0 c.vs/\∃ a:Int->qN,(∃ d,a 0 b d)/\∀ b d e,a e b d->∀ f:qv,cond (decide (e<6)) (0<=e/\e<6/\∃ f,(c.vs.toArray:Array Value)[(e).toNat*1]?=some (iv f)/\∃ c:Bool->qW,(∀ g h,c h g->∀ i:qv,cond h (K (iv 4) g) (∃ h,h<d/\a (IntKind.i64.wrap (e+1)) g h))/\cond (decide (f<0)) (c true b) (c (decide (f>4)) b)) (K qz b)
theorem Fp{u1 w K}(h:GV u1 w K):CP 47 #[.agg u1.vs.toArray] w K:=ah (az [(26,[(6,.s (.int .i64))]),(1689,[(14,.s .bool)])]) func47 (by kernel_rfl) (by kernel_rfl) h
def AW(a b c:Int)(w:World)(K:KP):=cond (decide (a>=b)) (K (.bool (decide (a<=c))) w) (K (.bool false) w)
theorem Cc{n1 n2 n3 w K}(h:AW n1 n2 n3 w K):CP 131 #[iv n1,iv n2,iv n3] w K:=ah (az []) func131 (by kernel_rfl) (by kernel_rfl) h
def Fw(a:OA)(b c:Nat)(d:ByteArray)(w:World)(K:KP):=∃ c:Int->qN,(∃ e,c 0 w e)/\∀ f e g,c g f e->∀ h:qv,cond (decide (g<(b:Int))) (aq a λ a=>0<=g/\g<(b:Int)/\∃ b h i j k,af f (Addr.add a ((g).toNat*5)) 0 [.string b,iv h,iv i,iv j,iv k]/\an f (.cells #[.string (bs []),qz,qz,qz,qz] 120) λ a l=>aK (qd a 0) 0 [.string b,iv h,iv i,iv j,iv k] l λ b=>∃ h,b.cell? (qd a 0)=some (.string h)/\cond (h.toList==d.toList) (K (.tuple #[iv g,.bool true]) b) (∃ a,a<e/\c (IntKind.i64.wrap (g+1)) b a)) (K (.tuple #[qz,.bool false]) f)
theorem AX{a1 l1 c1 s1 w K}(h:Fw a1 l1 c1 s1 w K):CP 130 #[.slice a1 l1 c1,.string s1] w K:=ah (az [(26,[(10,.s (.int .i64))])]) func130 (by kernel_rfl) (by kernel_rfl) h
def D6(a:OA)(b c:Nat)(w:World)(K:KP):=an w (.cells z6.vs.toArray 34) λ c d=>an d (.cells z6.vs.toArray 34) λ d e=>∃ f:Int->qN,(∃ g,f 0 e g)/\∀ e g h,f h e g->∀ i:qv,cond (decide (h<(b:Int))) (∃ i:qW,(∀ j,i j->∀ k:qv,∃ k,k<g/\f (IntKind.i64.wrap (h+1)) j k)/\aq a λ a=>0<=h/\h<(b:Int)/\∃ b f g j k,af e (Addr.add a ((h).toNat*5)) 0 [.string b,iv f,iv g,iv j,iv k]/\an e (.cells #[.string (bs []),qz,qz,qz,qz] 120) λ a l=>aK (qd a 0) 0 [.string b,iv f,iv g,iv j,iv k] l λ b=>cond (decide (h<6)) (∃ f,b.cell? (qd a 1)=some (iv f)/\0<=h/\h<6/\aM b (Addr.add (qd d 0) ((h).toNat*1)) (iv f) λ a=>i a) (i b)) (∃ a:I6,af e (qd d 0) 0 a.vs/\aK (qd c 0) 0 a.vs e λ a=>∃ b:I6,af a (qd c 0) 0 b.vs/\K (.agg b.vs.toArray) a)
theorem D7{a1 l1 c1 w K}(h:D6 a1 l1 c1 w K):CP 34 #[.slice a1 l1 c1] w K:=ah (az [(58,[(8,.s (.int .i64))]),(467,[])]) func34 (by kernel_rfl) (by kernel_rfl) h
def GW(a:OA)(b c:Nat)(w:World)(K:KP):=cond ((b:Int)==(0:Int)) (K (iv 1) w) (cond (decide ((b:Int)>(6:Int))) (K (iv 3) w) (∃ d:Int->qN,(∃ e,d 0 w e)/\∀ f e g,d g f e->∀ h:qv,cond (decide (g<(b:Int))) (aq a λ h=>0<=g/\g<(b:Int)/\∃ i j k l m,af f (Addr.add h ((g).toNat*5)) 0 [.string i,iv j,iv k,iv l,iv m]/\an f (.cells #[.string (bs []),qz,qz,qz,qz] 120) λ h n=>aK (qd h 0) 0 [.string i,iv j,iv k,iv l,iv m] n λ i=>∃ j,i.cell? (qd h 0)=some (.string j)/\CC 129 #[.string j] i λ i j=>∃ k,i=.returned (.bool k)/\cond (!k) (K (iv 5) j) (0<=g/\g<=(c:Int)/\∃ i,j.drew.cell? (qd h 0)=some (.string i)/\CC 130 #[.slice (if c=0 then a else Option.map (λ x=>Addr.add x (0*5)) a) ((g).toNat-0) (c-0),.string i] j.drew λ i j=>∃ k l,i=.returned (.tuple #[iv k,.bool l])/\cond l (K (iv 7) j) (∃ i:Bool->qW,(∀ k l,i l k->∀ m:qv,cond l (K (iv 4) k) (∃ l,l<e/\d (IntKind.i64.wrap (g+1)) k l))/\∃ d,j.cell? (qd h 1)=some (iv d)/\CC 131 #[iv d,iv 1,iv 4] j λ d e=>∃ g,d=.returned (.bool g)/\cond (!g) (i true e) (∃ d,e.cell? (qd h 2)=some (iv d)/\CC 131 #[iv d,qz,iv 1000000] e λ d e=>∃ g,d=.returned (.bool g)/\cond (!g) (i true e) (∃ d,e.cell? (qd h 3)=some (iv d)/\CC 131 #[iv d,qz,iv 1000] e λ d e=>∃ g,d=.returned (.bool g)/\cond (!g) (i true e) (∃ d,e.cell? (qd h 4)=some (iv d)/\CC 131 #[iv d,qz,iv 4] e λ d e=>∃ g,d=.returned (.bool g)/\i (!g) e)))))) (CC 34 #[.slice a b c] f λ a b=>∃ c:I6,a=.returned (.agg c.vs.toArray)/\CC 105 #[.agg c.vs.toArray] b λ a b=>∃ c,a=.returned (iv c)/\cond (c==0) (K (iv 12) b) (K qz b))))
theorem Fq{a1 l1 c1 w K}(h:GW a1 l1 c1 w K):CP 96 #[.slice a1 l1 c1] w K:=ah (az [(58,[(17,.s (.int .i64))]),(14951,[(57,.s .bool)])]) func96 (by kernel_rfl) (by kernel_rfl) h
def Fx(a:OA)(b c:Nat)(d:ByteArray)(w:World)(K:KP):=∃ c:Int->qN,(∃ e,c 0 w e)/\∀ f e g,c g f e->∀ h:qv,cond (decide (g<(b:Int))) (aq a λ a=>0<=g/\g<(b:Int)/\∃ b h i j,af f (Addr.add a ((g).toNat*4)) 0 [.string b,iv h,iv i,iv j]/\an f (.cells #[.string (bs []),qz,qz,qz] 137) λ a k=>aK (qd a 0) 0 [.string b,iv h,iv i,iv j] k λ b=>∃ h,b.cell? (qd a 0)=some (.string h)/\cond (h.toList==d.toList) (K (.tuple #[iv g,.bool true]) b) (∃ a,a<e/\c (IntKind.i64.wrap (g+1)) b a)) (K (.tuple #[qz,.bool false]) f)
theorem AY{a1 l1 c1 s1 w K}(h:Fx a1 l1 c1 s1 w K):CP 132 #[.slice a1 l1 c1,.string s1] w K:=ah (az [(26,[(10,.s (.int .i64))])]) func132 (by kernel_rfl) (by kernel_rfl) h
def GX(a:OA)(b c:Nat)(w:World)(K:KP):=cond ((b:Int)==(0:Int)) (K (iv 1) w) (cond (decide ((b:Int)>(8:Int))) (K (iv 3) w) (∃ d:Int->qN,(∃ e,d 0 w e)/\∀ f e g,d g f e->∀ h:qv,cond (decide (g<(b:Int))) (aq a λ h=>0<=g/\g<(b:Int)/\∃ b i j k,af f (Addr.add h ((g).toNat*4)) 0 [.string b,iv i,iv j,iv k]/\an f (.cells #[.string (bs []),qz,qz,qz] 137) λ h l=>aK (qd h 0) 0 [.string b,iv i,iv j,iv k] l λ b=>∃ i,b.cell? (qd h 0)=some (.string i)/\CC 129 #[.string i] b λ b i=>∃ j,b=.returned (.bool j)/\cond (!j) (K (iv 5) i) (0<=g/\g<=(c:Int)/\∃ b,i.drew.cell? (qd h 0)=some (.string b)/\CC 132 #[.slice (if c=0 then a else Option.map (λ x=>Addr.add x (0*4)) a) ((g).toNat-0) (c-0),.string b] i.drew λ a b=>∃ c i,a=.returned (.tuple #[iv c,.bool i])/\cond i (K (iv 7) b) (∃ a:Bool->qW,(∀ c i,a i c->∀ j:qv,cond i (K (iv 4) c) (∃ i,i<e/\d (IntKind.i64.wrap (g+1)) c i))/\∃ c,b.cell? (qd h 1)=some (iv c)/\cond (decide (c<0)) (a true b) (∃ c,b.cell? (qd h 1)=some (iv c)/\cond (decide (c>4)) (a true b) (∃ c,b.cell? (qd h 2)=some (iv c)/\cond (decide (c<0)) (a true b) (∃ c,b.cell? (qd h 2)=some (iv c)/\cond (decide (c>1000000)) (a true b) (∃ c,b.cell? (qd h 3)=some (iv c)/\cond (decide (c<0)) (a true b) (∃ c,b.cell? (qd h 3)=some (iv c)/\a (decide (c>24000)) b)))))))) (K qz f)))
theorem Fs{a1 l1 c1 w K}(h:GX a1 l1 c1 w K):CP 97 #[.slice a1 l1 c1] w K:=ah (az [(58,[(17,.s (.int .i64))]),(14951,[(63,.s .bool)])]) func97 (by kernel_rfl) (by kernel_rfl) h
def vZ(a:OA)(b c:Nat)(d:OA)(e f:Nat)(g:OA)(h i:Nat)(j:OA)(k l:Nat)(w:World)(K:KP):=an w (.cells #[.slice a b c,.slice d e f,.slice g h i,.slice j k l] 75) λ a b=>∃ c d e,b.cell? (qd a 2)=some (.slice c d e)/\cond (decide ((d:Int)>(16:Int))) (K (iv 3) b) (∃ c d e,b.cell? (qd a 2)=some (.slice c d e)/\∃ e:Int->qN,(∃ f,e 0 b f)/\∀ b f g,e g b f->∀ h:qv,cond (decide (g<(d:Int))) (aq c λ c=>0<=g/\g<(d:Int)/\∃ d h i,af b (Addr.add c ((g).toNat*3)) 0 [iv d,iv h,iv i]/\an b (.cells #[qz,qz,qz] 153) λ c j=>aK (qd c 0) 0 [iv d,iv h,iv i] j λ d=>∃ h:Bool->qW,(∀ i j,h j i->∀ k:qv,cond j (K (iv 6) i) (∃ j:Bool->qW,(∀ k l,j l k->∀ m:qv,cond l (K (iv 4) k) (∃ l m n,k.cell? (qd a 2)=some (.slice l m n)/\0<=g/\g<=(n:Int)/\∃ m:Int->qN,(∃ o,m 0 k o)/\∀ k o p,m p k o->∀ q:qv,cond (decide (p<((((g).toNat-0):Nat):Int))) (aq (if n=0 then l else Option.map (λ x=>Addr.add x (0*3)) l) λ l=>0<=p/\p<((((g).toNat-0):Nat):Int)/\∃ n q r,af k (Addr.add l ((p).toNat*3)) 0 [iv n,iv q,iv r]/\an k (.cells #[qz,qz,qz] 153) λ l s=>aK (qd l 0) 0 [iv n,iv q,iv r] s λ n=>∃ q:Bool->qW,(∀ r s,q s r->∀ t:qv,cond s (K (iv 7) r) (∃ s,s<o/\m (IntKind.i64.wrap (p+1)) r s))/\∃ m,n.cell? (qd l 0)=some (iv m)/\∃ o,n.cell? (qd c 0)=some (iv o)/\cond (m==o) (∃ m,n.cell? (qd l 1)=some (iv m)/\∃ l,n.cell? (qd c 1)=some (iv l)/\q (m==l) n) (q false n)) (∃ l,l<f/\e (IntKind.i64.wrap (g+1)) k l)))/\∃ e,i.cell? (qd c 1)=some (iv e)/\cond (decide (e<0)) (j true i) (∃ e,i.cell? (qd c 1)=some (iv e)/\cond (decide (e>4)) (j true i) (∃ e,i.cell? (qd c 2)=some (iv e)/\cond (decide (e<0)) (j true i) (∃ e,i.cell? (qd c 2)=some (iv e)/\j (decide (e>24)) i)))))/\∃ e,d.cell? (qd c 0)=some (iv e)/\cond (decide (e<(-1:Int))) (h true d) (∃ e,d.cell? (qd c 0)=some (iv e)/\∃ c f g,d.cell? (qd a 1)=some (.slice c f g)/\h (decide (e>=(f:Int))) d)) (K qz b))
theorem y7{a1 l1 c1 a2 l2 c2 a3 l3 c3 a4 l4 c4 w K}(h:vZ a1 l1 c1 a2 l2 c2 a3 l3 c3 a4 l4 c4 w K):CP 98 #[.agg #[.slice a1 l1 c1,.slice a2 l2 c2,.slice a3 l3 c3,.slice a4 l4 c4]] w K:=ah (az [(58,[(14,.s (.int .i64))]),(7474,[(29,.s .bool)]),(14950,[(47,.s .bool)]),(59806,[(53,.s (.int .i64))]),(3827609,[(68,.s .bool)])]) func98 (by kernel_rfl) (by kernel_rfl) h
def qT(a:OA)(b c:Nat)(d:OA)(e f:Nat)(g:OA)(h i:Nat)(j:OA)(k l:Nat)(w:World)(K:KP):=an w (.cells #[.slice a b c,.slice d e f,.slice g h i,.slice j k l] 75) λ a b=>∃ c d e,b.cell? (qd a 3)=some (.slice c d e)/\cond (decide ((d:Int)>(6:Int))) (K (iv 3) b) (∃ c d e,b.cell? (qd a 3)=some (.slice c d e)/\∃ e:Int->qN,(∃ f,e 0 b f)/\∀ b f g,e g b f->∀ h:qv,cond (decide (g<(d:Int))) (aq c λ c=>0<=g/\g<(d:Int)/\∃ d h i,af b (Addr.add c ((g).toNat*3)) 0 [iv d,iv h,iv i]/\an b (.cells #[qz,qz,qz] 156) λ c j=>aK (qd c 0) 0 [iv d,iv h,iv i] j λ d=>∃ h:Bool->qW,(∀ i j,h j i->∀ k:qv,cond j (K (iv 6) i) (∃ j:Bool->qW,(∀ k l,j l k->∀ m:qv,cond l (K (iv 4) k) (∃ l m n,k.cell? (qd a 3)=some (.slice l m n)/\0<=g/\g<=(n:Int)/\∃ m:Int->qN,(∃ o,m 0 k o)/\∀ k o p,m p k o->∀ q:qv,cond (decide (p<((((g).toNat-0):Nat):Int))) (aq (if n=0 then l else Option.map (λ x=>Addr.add x (0*3)) l) λ l=>0<=p/\p<((((g).toNat-0):Nat):Int)/\∃ n q r,af k (Addr.add l ((p).toNat*3)) 0 [iv n,iv q,iv r]/\an k (.cells #[qz,qz,qz] 156) λ l s=>aK (qd l 0) 0 [iv n,iv q,iv r] s λ n=>∃ q,n.cell? (qd l 0)=some (iv q)/\∃ l,n.cell? (qd c 0)=some (iv l)/\cond (q==l) (K (iv 7) n) (∃ l,l<o/\m (IntKind.i64.wrap (p+1)) n l)) (∃ l,l<f/\e (IntKind.i64.wrap (g+1)) k l)))/\∃ e,i.drew.cell? (qd c 1)=some (iv e)/\cond (decide (e<1)) (j true i.drew) (∃ e,i.drew.cell? (qd c 1)=some (iv e)/\cond (decide (e>4)) (j true i.drew) (∃ e,i.drew.cell? (qd c 2)=some (iv e)/\cond (decide (e<1)) (j true i.drew) (∃ e,i.drew.cell? (qd c 2)=some (iv e)/\∃ f g k,i.drew.cell? (qd a 0)=some (.slice f g k)/\∃ k,i.drew.cell? (qd c 0)=some (iv k)/\aq f λ f=>0<=k/\k<(g:Int)/\∃ g,i.drew.cell? (Addr.add (Addr.add f ((k).toNat*5)) 1)=some (iv g)/\j (decide (e>g)) i.drew)))))/\∃ e,d.cell? (qd c 0)=some (iv e)/\cond (decide (e<0)) (h true d) (∃ e,d.cell? (qd c 0)=some (iv e)/\∃ c f g,d.cell? (qd a 0)=some (.slice c f g)/\h (decide (e>=(f:Int))) d)) (K qz b))
theorem uZ{a1 l1 c1 a2 l2 c2 a3 l3 c3 a4 l4 c4 w K}(h:qT a1 l1 c1 a2 l2 c2 a3 l3 c3 a4 l4 c4 w K):CP 99 #[.agg #[.slice a1 l1 c1,.slice a2 l2 c2,.slice a3 l3 c3,.slice a4 l4 c4]] w K:=ah (az [(58,[(14,.s (.int .i64))]),(7474,[(29,.s .bool)]),(14950,[(54,.s .bool)]),(59806,[(60,.s (.int .i64))])]) func99 (by kernel_rfl) (by kernel_rfl) h
def GY(a:OA)(b c:Nat)(d:OA)(e f:Nat)(g:OA)(h i:Nat)(j:OA)(k l:Nat)(w:World)(K:KP):=an w (.cells #[.slice a b c,.slice d e f,.slice g h i,.slice j k l] 75) λ a b=>∃ c d e,b.cell? (qd a 0)=some (.slice c d e)/\CC 96 #[.slice c d e] b λ b c=>∃ d,b=.returned (iv d)/\cond (d !=0) (K (iv d) c) (∃ b d e,c.cell? (qd a 1)=some (.slice b d e)/\CC 97 #[.slice b d e] c λ b c=>∃ d,b=.returned (iv d)/\cond (d !=0) (K (iv d) c) (∃ b d e f g h i j k l m n,af c (qd a 0) 0 [.slice b d e,.slice f g h,.slice i j k,.slice l m n]/\CC 98 #[.agg #[.slice b d e,.slice f g h,.slice i j k,.slice l m n]] c λ b c=>∃ d,b=.returned (iv d)/\cond (d !=0) (K (iv d) c) (∃ b d e f g h i j k l m n,af c (qd a 0) 0 [.slice b d e,.slice f g h,.slice i j k,.slice l m n]/\CC 99 #[.agg #[.slice b d e,.slice f g h,.slice i j k,.slice l m n]] c λ a b=>∃ c,a=.returned (iv c)/\K (iv c) b)))
theorem Ft{a1 l1 c1 a2 l2 c2 a3 l3 c3 a4 l4 c4 w K}(h:GY a1 l1 c1 a2 l2 c2 a3 l3 c3 a4 l4 c4 w K):CP 62 #[.agg #[.slice a1 l1 c1,.slice a2 l2 c2,.slice a3 l3 c3,.slice a4 l4 c4]] w K:=ah (az []) func62 (by kernel_rfl) (by kernel_rfl) h
def MR(n:Int):Bool:=decide (97<=n)&&decide (n<=122)
def wK(n:Int):Bool:=decide (48<=n)&&decide (n<=57)
def inr(n:Int):Bool:=MR n||(wK n||(n==95))
def un(c:UInt8):Int:=(c.toNat:Int)
def ei(l:List UInt8):Bool:=!l.isEmpty&&(decide (l.length<=12)&&((l.head?.map λ c=>MR (un c)).getD false&&l.all λ c=>inr (un c)))
theorem wrap32(c:UInt8):IntKind.i32.wrap (c.toNat:Int)=un c:=by
 have:=c.toNat_lt;simp only[IntKind.wrap,IntKind.signed,IntKind.bits,un]
 simp
 omega
theorem yS(w:World)(n:Int):CP 191 #[.int .i32 n] w (λ r w'=>r=.bool (MR n)/\w' = w):=by
 refine D4 ?_;unfold D3
 by_cases h:97<=n
 ·exact cT (by simpa using h) ⟨by simp[MR,h],rfl⟩
 ·exact cF (by simpa using h) ⟨by simp[MR,h],rfl⟩
theorem BM(w:World)(n:Int):CP 228 #[.int .i32 n] w (λ r w'=>r=.bool (wK n)/\w' = w):=by
 refine Fv ?_;unfold G0
 by_cases h:48<=n
 ·exact cT (by simpa using h) ⟨by simp[wK,h],rfl⟩
 ·exact cF (by simpa using h) ⟨by simp[wK,h],rfl⟩
theorem GC(w:World)(n:Int):CP 193 #[.int .i32 n] w (λ r w'=>r=.bool (inr n)/\w' = w):=by
 refine Fy ?_;unfold G3;refine aj (yS w n) ?_;rintro v w1 ⟨rfl,rfl⟩;refine⟨_,rfl,?_⟩
 cases h1:MR n with
 | true=>exact cT rfl ⟨by simp[inr,h1],rfl⟩
 | false =>
  refine cF rfl (aj (BM w1 n) ?_);rintro v w2 ⟨rfl,rfl⟩;refine⟨_,rfl,?_⟩
  cases h2:wK n with
  | true=>exact cT rfl ⟨by simp[inr,h1,h2],rfl⟩
  | false=>exact cF rfl ⟨by simp[inr,h1,h2],rfl⟩
theorem Lv{l:List UInt8}{p:UInt8->Bool}{k:Nat}(h:(l.take k).all p=true)(hk:k<=l.length)(he:k=l.length\/∃ c,l[k]?=some c/\p c=false):(l.take k==l)=l.all p:=by
 rcases he with rfl|⟨c,hc,hp⟩
 ·rw[List.take_length] at h ⊢; rw[h]; simp
 ·have hlt:=(List.getElem?_eq_some_iff.1 hc).1;have h1:l.all p=false:=by
   rw[List.all_eq_false];exact⟨c,List.mem_of_getElem? hc,by simp[hp]⟩
  rw[h1];simp only[beq_eq_false_iff_ne,ne_eq];intro e;have:=congrArg List.length e;rw[List.length_take] at this;omega
theorem CV{l:List UInt8}{p:UInt8->Bool}{k:Nat}{c:UInt8}(h:(l.take k).all p=true)(hc:l[k]?=some c)(hp:p c=true):(l.take (k+1)).all p=true:=by
 rw[aG hc,List.all_append,h]; simp[hp]
theorem Rt(w:World){l:List UInt8}(hl:l.length<=9223372036854775806):CP 192 #[sv l,iv 0,.func (.func 193) #[] #[]] w (λ r w'=>∃ k,r=sv (l.take k)/\(l.take k==l)=(l.all λ c=>inr (un c))/\w' = w):=by
 refine D5 ?_;unfold KF;refine⟨λ n w1 m=>∃ k:Nat,n=k/\k<=l.length/\m=l.length-k/\(l.take k).all (λ c=>inr (un c))=true/\w1=w,⟨l.length,0,rfl,by omega,by omega,by simp,rfl⟩,?_⟩;rintro w1 m n ⟨k,rfl,hk,hm,ha,rfl⟩ -;refine⟨λ b w2=>w2=w1/\((b=true/\∃ c,l[k]?=some c/\inr (un c)=true)\/(b=false/\(k=l.length\/∃ c,l[k]?=some c/\inr (un c)=false))),?_,?_⟩
 ·rintro w2 b ⟨rfl,h⟩ -;rcases h with⟨rfl,c,hc,hp⟩|⟨rfl,he⟩
  ·have hlt:=(List.getElem?_eq_some_iff.1 hc).1;exact cT rfl ⟨l.length-(k+1),by omega,k+1,by rw[aB ⟨by omega,by omega⟩]; rfl,by omega,rfl,CV (p:=λ c=>inr (un c)) ha hc hp,rfl⟩
  ·refine cF rfl ⟨by omega,by rw[gC]; omega,by omega,by omega,k,?_,Lv ha hk he,rfl⟩;show Value.string ((bs l).extract (0:Int).toNat ((k:Int)).toNat)=_;rw[show(0:Int).toNat=0 from rfl,Int.toNat_natCast,Q7]
 ·by_cases hlt:(k:Int)<(l.length:Int)
  ·have hc:l[k]?=some (l[k]'(by omega)):=gE (by omega);generalize l[k]'(by omega)=c at hc;refine cT (by rw[gC]; simpa using hlt) ⟨by omega,?_⟩;rw[Int.toNat_natCast,lR,hc]
   change cr prog (.func (.func 193) #[] #[]) #[.int .i32 (IntKind.i32.wrap (c.toNat:Int))] w1 _
   refine bn (by kernel_rfl) ?_;rw[wrap32];refine aj (GC w1 (un c)) ?_;rintro v w3 ⟨rfl,rfl⟩;refine⟨_,rfl,rfl,?_⟩
   cases hp:inr (un c) with
   | true=>exact .inl ⟨rfl,c,rfl,hp⟩
   | false=>exact .inr ⟨rfl,.inr ⟨c,rfl,hp⟩⟩
  ·exact cF (by rw[gC]; simpa using hlt) ⟨rfl,.inr ⟨rfl,.inl (by omega)⟩⟩
theorem yN(w:World)(l:List UInt8):CP 129 #[sv l] w (λ r w'=>r=.bool (ei l)/\w' = w):=by
 refine D2 ?_;unfold D1
 cases l with
 | nil=>exact cF (by rw[iw]; rfl) ⟨rfl,rfl⟩
 | cons c l =>
  refine cT (by rw[iw,iw]; rfl) ?_
  by_cases h12:(c :: l).length<=12
  ·refine cT (by rw[gC]; exact dT (by omega)) ⟨by omega,?_⟩;rw[show(0:Int).toNat=0 from rfl,lR];show aq (some c) _;rw[aq,wrap32];refine aj (yS w (un c)) ?_;rintro v w1 ⟨rfl,rfl⟩;refine⟨_,rfl,?_⟩
   cases h1:MR (un c) with
   | false=>exact cF rfl ⟨by simp[ei,h1],rfl⟩
   | true =>
    refine cT rfl (aj (Rt w1 (by omega)) ?_);rintro v w2 ⟨k,rfl,hk,rfl⟩;refine⟨_,rfl,?_,rfl⟩;rw[iw,iw,hk];have e:ei (c :: l)=(c :: l).all λ c=>inr (un c):=by
     unfold ei;simp only[List.isEmpty_cons,Bool.not_false,Bool.true_and,List.head?_cons,Option.map_some,Option.getD_some,h1];rw[dT h12]; rfl
    rw[e]
  ·refine cF (by rw[gC]; exact dF (by omega)) ⟨?_,rfl⟩;simp only[ei,dF h12]
   simp
def tq(a:ByteArray)(w:World)(K:KP):=cond (decide (((a.size:Nat):Int)>(4000:Int))) (K (.tuple #[qn,iv 3]) w) (∃ b:OA->Nat->Nat->Int->qN,(∃ c,b none 0 0 0 w c)/\∀ d c e f g h,b e f g h d c->∀ i:qv,cond (decide (h<((a.size:Nat):Int))) (0<=h/\aq a[(h).toNat]? λ i=>cond ((i.toNat:Int)==(32:Int)) (∃ i,i<c/\b e f g (IntKind.i64.wrap (h+1)) d i) (CC 216 #[.string a,iv h] d λ a j=>∃ k l m n o,a=.returned (.tuple #[.agg #[iv k,.string l,iv m,iv n],iv o])/\an j (.cells #[qz,.string (bs []),qz,qz] 287) λ a j=>aK (qd a 0) 0 [iv k,.string l,iv m,iv n] j λ j=>cond (o !=0) (K (.tuple #[qn,iv o]) j) (∃ k l m n,af j (qd a 0) 0 [iv k,.string l,iv m,iv n]/\an j (.cells #[iv k,.string l,iv m,iv n] 287) λ j k=>aP prog (Builtin.append_ #[259,259] 259 #[.slice e f g,.slice (some (qd j 0)) 1 1]) k λ j k=>∃ l m n,j=(.slice l m n)/\∃ j,k.cell? (qd a 1)=some (.string j)/\∃ i,i<c/\b l m n (IntKind.i64.wrap (h+((j.size:Nat):Int))) k i))) (K (.tuple #[.slice e f g,qz]) d))
theorem wU{s1 w K}(h:tq s1 w K):CP 184 #[.string s1] w K:=ah (az [(122,[(4,.s .slice),(5,.s (.int .i64))])]) func184 (by kernel_rfl) (by kernel_rfl) h
def kO(a:OA)(b c:Nat)(w:World)(K:KP):=aP prog (Builtin.append_ #[259,259] 259 #[qn,.slice a b c]) w λ a b=>∃ c d e,a=(.slice c d e)/\an b (.cells #[.slice c d e,qz] 291) λ a b=>K (qp a) b
theorem qw{a1 l1 c1 w K}(h:kO a1 l1 c1 w K):CP 185 #[.slice a1 l1 c1] w K:=ah (az []) func185 (by kernel_rfl) (by kernel_rfl) h
def jF(a:Nat)(w:World)(K:KP):=∃ b:Bool->qW,(∀ c d,b d c->∀ e:qv,cond d (K (iv 3) c) (CC 226 #[qp a] c λ c d=>∃ e,c=.returned (iv e)/\K (iv e) d))/\∃ c,w.cell? (qd a 1)=some (iv c)/\cond (c==0) (∃ c d e,w.cell? (qd a 0)=some (.slice c d e)/\b (decide ((d:Int)>(0:Int))) w) (b false w)
theorem oF{b1 w K}(h:jF b1 w K):CP 187 #[.pointer (some ⟨b1,0,none⟩)] w K:=ah (az [(6,[(19,.s .bool)])]) func187 (by kernel_rfl) (by kernel_rfl) h
def AO(a:ByteArray)(b:Int)(w:World)(K:KP):=an w (.cells #[qz,.string (bs []),qz,qz] 287) λ c d=>an d (.cells #[qz,.string (bs []),qz,qz] 287) λ d e=>aK (qd d 0) 0 [qz,.string (bs []),qz,iv b] e λ e=>∃ f:qW,(∀ g,f g->∀ h:qv,∃ h i j k,af g (qd d 0) 0 [iv h,.string i,iv j,iv k]/\aK (qd c 0) 0 [iv h,.string i,iv j,iv k] g λ g=>∃ h i j k,af g (qd c 0) 0 [iv h,.string i,iv j,iv k]/\K (.tuple #[.agg #[iv h,.string i,iv j,iv k],qz]) g)/\0<=b/\aq a[(b).toNat]? λ g=>CC 191 #[.int .i32 (IntKind.i32.wrap (g.toNat:Int))] e λ e h=>∃ i,e=.returned (.bool i)/\cond i (CC 192 #[.string a,iv b,.func (.func 193) #[] #[]] h λ e i=>∃ j,e=.returned (.string j)/\aM i (qd d 0) (iv 1) λ e=>aM e (qd d 1) (.string j) λ e=>∃ i,e.cell? (qd d 1)=some (.string i)/\cond (decide (((i.size:Nat):Int)>(12:Int))) (aK (qd c 0) 0 [qz,.string (bs []),qz,qz] e λ i=>∃ j k l m,af i (qd c 0) 0 [iv j,.string k,iv l,iv m]/\K (.tuple #[.agg #[iv j,.string k,iv l,iv m],iv 3]) i) (f e)) (CC 228 #[.int .i32 (IntKind.i32.wrap (g.toNat:Int))] h λ e h=>∃ i,e=.returned (.bool i)/\cond i (CC 192 #[.string a,iv b,.func (.func 228) #[] #[]] h λ e i=>∃ j,e=.returned (.string j)/\aM i (qd d 0) (iv 2) λ e=>aM e (qd d 1) (.string j) λ e=>∃ i,e.cell? (qd d 1)=some (.string i)/\CC 238 #[.string i] e λ e i=>∃ j k,e=.returned (.tuple #[iv j,iv k])/\cond (k !=0) (aK (qd c 0) 0 [qz,.string (bs []),qz,qz] i λ e=>∃ l m n o,af e (qd c 0) 0 [iv l,.string m,iv n,iv o]/\K (.tuple #[.agg #[iv l,.string m,iv n,iv o],iv k]) e) (aM i (qd d 2) (iv j) λ e=>f e)) (CC 239 #[.string (bs [123,125,40,41,44,58,64,43,45,61]),.int .i32 (IntKind.i32.wrap (g.toNat:Int))] h λ e g=>∃ h,e=.returned (.bool h)/\cond h (0<=(IntKind.i64.wrap (b+1))/\(IntKind.i64.wrap (b+1))<=((a.size:Nat):Int)/\0<=b/\b<=((((IntKind.i64.wrap (b+1))).toNat:Nat):Int)/\aM g.drew (qd d 0) (iv 3) λ e=>aM e (qd d 1) (.string (a.extract ((b).toNat) (((IntKind.i64.wrap (b+1))).toNat))) λ a=>f a) (aK (qd c 0) 0 [qz,.string (bs []),qz,qz] g λ a=>∃ b d e f,af a (qd c 0) 0 [iv b,.string d,iv e,iv f]/\K (.tuple #[.agg #[iv b,.string d,iv e,iv f],iv 2]) a)))
theorem B3{s1 n1 w K}(h:AO s1 n1 w K):CP 216 #[.string s1,iv n1] w K:=ah (az [(7,[])]) func216 (by kernel_rfl) (by kernel_rfl) h
def iN(a:Nat)(w:World)(K:KP):=an w (.cells #[qz,.string (bs []),qz,qz] 287) λ b c=>∃ d:Bool->qW,(∀ e f,d f e->∀ g:qv,cond f (aK (qd b 0) 0 [qz,.string (bs []),qz,qz] e λ f=>∃ g h i j,af f (qd b 0) 0 [iv g,.string h,iv i,iv j]/\K (.agg #[iv g,.string h,iv i,iv j]) f) (∃ f g h,e.cell? (qd a 0)=some (.slice f g h)/\aq f λ f=>0<=(0:Int)/\(0:Int)<(g:Int)/\∃ g h i j,af e (Addr.add f (((0:Int)).toNat*4)) 0 [iv g,.string h,iv i,iv j]/\aK (qd b 0) 0 [iv g,.string h,iv i,iv j] e λ e=>∃ f g h i,af e (qd b 0) 0 [iv f,.string g,iv h,iv i]/\K (.agg #[iv f,.string g,iv h,iv i]) e))/\∃ b,c.cell? (qd a 1)=some (iv b)/\cond (b !=0) (d true c) (∃ b e f,c.cell? (qd a 0)=some (.slice b e f)/\d ((e:Int)==(0:Int)) c)
theorem nC{b1 w K}(h:iN b1 w K):CP 217 #[.pointer (some ⟨b1,0,none⟩)] w K:=ah (az [(6,[(19,.s .bool)])]) func217 (by kernel_rfl) (by kernel_rfl) h
def iK(a:Nat)(b:Int)(w:World)(K:KP):=∃ c:Bool->qW,(∀ d e,c e d->∀ f:qv,cond e (aM d (qd a 1) (iv b) λ b=>K (.tuple #[]) b) (K (.tuple #[]) d))/\∃ b,w.cell? (qd a 1)=some (iv b)/\c (b==0) w
theorem nw{b1 n1 w K}(h:iK b1 n1 w K):CP 219 #[.pointer (some ⟨b1,0,none⟩),iv n1] w K:=ah (az [(1,[(12,.s .bool)])]) func219 (by kernel_rfl) (by kernel_rfl) h
def iM(a:Nat)(w:World)(K:KP):=an w (.cells #[qz,.string (bs []),qz,qz] 287) λ b c=>CC 217 #[qp a] c λ c d=>∃ e f g h,c=.returned (.agg #[iv e,.string f,iv g,iv h])/\an d (.cells #[qz,.string (bs []),qz,qz] 287) λ c d=>aK (qd c 0) 0 [iv e,.string f,iv g,iv h] d λ d=>∃ e:qW,(∀ f,e f->∀ g:qv,∃ g h i j,af f (qd c 0) 0 [iv g,.string h,iv i,iv j]/\aK (qd b 0) 0 [iv g,.string h,iv i,iv j] f λ c=>∃ f g h i,af c (qd b 0) 0 [iv f,.string g,iv h,iv i]/\K (.agg #[iv f,.string g,iv h,iv i]) c)/\∃ b:Bool->qW,(∀ c f,b f c->∀ g:qv,cond f (∃ f g h,c.cell? (qd a 0)=some (.slice f g h)/\0<=(1:Int)/\(1:Int)<=(g:Int)/\aM c (qd a 0) (.slice (if h=((1:Int)).toNat then f else Option.map (λ x=>Addr.add x (((1:Int)).toNat*4)) f) (g-((1:Int)).toNat) (h-((1:Int)).toNat)) λ f=>e f) (e c))/\∃ c,d.cell? (qd a 1)=some (iv c)/\cond (c==0) (∃ c e f,d.cell? (qd a 0)=some (.slice c e f)/\b (decide ((e:Int)>(0:Int))) d) (b false d)
theorem nA{b1 w K}(h:iM b1 w K):CP 221 #[.pointer (some ⟨b1,0,none⟩)] w K:=ah (az [(7,[]),(14,[(22,.s .bool)])]) func221 (by kernel_rfl) (by kernel_rfl) h
def gj(a:Nat)(b:ByteArray)(w:World)(K:KP):=CC 224 #[qp a,.string b] w λ b c=>∃ d,b=.returned (.bool d)/\cond (!d) (CC 241 #[qp a] c λ a b=>a=.returned (.tuple #[])/\K (.tuple #[]) b) (K (.tuple #[]) c)
theorem kR{b1 s1 w K}(h:gj b1 s1 w K):CP 222 #[.pointer (some ⟨b1,0,none⟩),.string s1] w K:=ah (az []) func222 (by kernel_rfl) (by kernel_rfl) h
def gh(a:Nat)(b:ByteArray)(w:World)(K:KP):=CC 217 #[qp a] w λ c d=>∃ e f g h,c=.returned (.agg #[iv e,.string f,iv g,iv h])/\an d (.cells #[qz,.string (bs []),qz,qz] 287) λ c d=>aK (qd c 0) 0 [iv e,.string f,iv g,iv h] d λ d=>∃ e:Bool->qW,(∀ f g,e g f->∀ h:qv,cond g (K (.bool false) f) (CC 221 #[qp a] f λ a f=>∃ g h i j,a=.returned (.agg #[iv g,.string h,iv i,iv j])/\K (.bool true) f))/\∃ a,d.cell? (qd c 0)=some (iv a)/\cond (a !=3) (e true d) (∃ a,d.cell? (qd c 1)=some (.string a)/\e (!(a.toList==b.toList)) d)
theorem kP{b1 s1 w K}(h:gh b1 s1 w K):CP 224 #[.pointer (some ⟨b1,0,none⟩),.string s1] w K:=ah (az [(13,[(16,.s .bool)])]) func224 (by kernel_rfl) (by kernel_rfl) h
def gi(a:Nat)(b:Int)(w:World)(K:KP):=CC 217 #[qp a] w λ c d=>∃ e f g h,c=.returned (.agg #[iv e,.string f,iv g,iv h])/\an d (.cells #[qz,.string (bs []),qz,qz] 287) λ c d=>aK (qd c 0) 0 [iv e,.string f,iv g,iv h] d λ d=>∃ e,d.cell? (qd c 0)=some (iv e)/\cond (e !=2) (CC 241 #[qp a] d λ e f=>e=.returned (.tuple #[])/\K qz f) (∃ e:Bool->qW,(∀ f g,e g f->∀ h:qv,cond g (CC 219 #[qp a,iv 4] f λ g h=>g=.returned (.tuple #[])/\K qz h) (CC 221 #[qp a] f λ a f=>∃ g h i j,a=.returned (.agg #[iv g,.string h,iv i,iv j])/\∃ a,f.cell? (qd c 2)=some (iv a)/\K (iv a) f))/\∃ a,d.cell? (qd c 2)=some (iv a)/\cond (decide (a<0)) (e true d) (∃ a,d.cell? (qd c 2)=some (iv a)/\e (decide (a>b)) d))
theorem kQ{b1 n1 w K}(h:gi b1 n1 w K):CP 225 #[.pointer (some ⟨b1,0,none⟩),iv n1] w K:=ah (az [(115,[(14,.s .bool)])]) func225 (by kernel_rfl) (by kernel_rfl) h
def jG(a:Nat)(w:World)(K:KP):=∃ b,w.cell? (qd a 1)=some (iv b)/\K (iv b) w
theorem oG{b1 w K}(h:jG b1 w K):CP 226 #[.pointer (some ⟨b1,0,none⟩)] w K:=ah (az []) func226 (by kernel_rfl) (by kernel_rfl) h
def tr(a:ByteArray)(w:World)(K:KP):=∃ b:Bool->qW,(∀ c d,b d c->∀ e:qv,cond d (K (.tuple #[qz,iv 2]) c) (cond (decide (((a.size:Nat):Int)>(9:Int))) (K (.tuple #[qz,iv 4]) c) (∃ d:Int->Int->qN,(∃ e,d 0 (0:Int) c e)/\∀ c e f g,d f g c e->∀ h:qv,cond (decide (g<((a.size:Nat):Int))) (0<=g/\aq a[(g).toNat]? λ h=>∃ i,i<e/\d (IntKind.i64.wrap ((IntKind.i64.wrap ((10:Int)*f))+(IntKind.i64.wrap (IntKind.u8.wrap ((h.toNat:Int)-(48:Int)))))) (IntKind.i64.wrap (g+1)) c i) (K (.tuple #[iv f,qz]) c))))/\cond (decide (((a.size:Nat):Int)>(1:Int))) (0<=(0:Int)/\aq a[((0:Int)).toNat]? λ a=>b ((a.toNat:Int)==(48:Int)) w) (b false w)
theorem wV{s1 w K}(h:tr s1 w K):CP 238 #[.string s1] w K:=ah (az [(12,[(6,.s .bool)]),(122,[(4,.s (.int .i64)),(21,.s (.int .i64))])]) func238 (by kernel_rfl) (by kernel_rfl) h
def gK(a:Nat)(w:World)(K:KP):=∃ b:qW,(∀ c,b c->∀ d:qv,CC 219 #[qp a,iv 2] c λ c d=>c=.returned (.tuple #[])/\K (.tuple #[]) d)/\∃ c d e,w.cell? (qd a 0)=some (.slice c d e)/\cond ((d:Int)==(0:Int)) (CC 219 #[qp a,iv 1] w λ a c=>a=.returned (.tuple #[])/\b c) (b w)
theorem mc{b1 w K}(h:gK b1 w K):CP 241 #[.pointer (some ⟨b1,0,none⟩)] w K:=ah (az [(3,[])]) func241 (by kernel_rfl) (by kernel_rfl) h
def iL(a:Nat)(w:World)(K:KP):=CC 217 #[qp a] w λ b c=>∃ d e f g,b=.returned (.agg #[iv d,.string e,iv f,iv g])/\an c (.cells #[qz,.string (bs []),qz,qz] 287) λ b c=>aK (qd b 0) 0 [iv d,.string e,iv f,iv g] c λ c=>∃ d,c.cell? (qd b 0)=some (iv d)/\cond (d !=1) (CC 241 #[qp a] c λ d e=>d=.returned (.tuple #[])/\K (.string (bs [])) e) (CC 221 #[qp a] c λ a c=>∃ d e f g,a=.returned (.agg #[iv d,.string e,iv f,iv g])/\∃ a,c.cell? (qd b 1)=some (.string a)/\K (.string a) c)
theorem ny{b1 w K}(h:iL b1 w K):CP 262 #[.pointer (some ⟨b1,0,none⟩)] w K:=ah (az []) func262 (by kernel_rfl) (by kernel_rfl) h
theorem OB{p:UInt8->Bool}:∀ {l:List UInt8} {k:Nat},(l.take k).all p=true->k<=l.length->(k=l.length\/∃ c,l[k]?=some c/\p c=false)->l.take k=l.takeWhile p
 | [],k,_,hk,_=>by simp
 | c :: l,0,_,_,he=>by
  rcases he with h|⟨d,hd,hp⟩
  ·simp at h
  ·simp at hd; subst hd; simp[hp]
 | c :: l,k+1,h,hk,he=>by
  simp only[List.take_succ_cons,List.all_cons,Bool.and_eq_true] at h;rw[List.take_succ_cons,List.takeWhile_cons,if_pos h.1,OB h.2 (by simpa using hk) (he.imp (λ h=>by simpa using h) (λ h=>by simpa using h))]
theorem KZ(w:World){l:List UInt8}(hl:l.length<=9223372036854775806){v:Value}{p:UInt8->Bool}(hv:∀ (w' : World) (c:UInt8) (R:Ending->World->Prop),R (.returned (.bool (p c))) w'->cr prog v #[.int .i32 (un c)] w' R){n:Nat}(hn:n<=l.length) :
  CP 192 #[sv l,iv n,v] w (λ r w'=>r=sv ((l.drop n).takeWhile p)/\w' = w):=by
 refine D5 ?_;unfold KF;refine⟨λ i w1 m=>∃ k:Nat,i=((n+k:Nat):Int)/\k<=(l.drop n).length/\m=(l.drop n).length-k/\((l.drop n).take k).all p=true/\w1=w,⟨(l.drop n).length,0,rfl,by omega,by omega,by simp,rfl⟩,?_⟩;rintro w1 m i ⟨k,rfl,hk,hm,ha,rfl⟩ -;have hd:(l.drop n).length=l.length-n:=List.length_drop;refine⟨λ b w2=>w2=w1/\((b=true/\∃ c,(l.drop n)[k]?=some c/\p c=true)\/(b=false/\(k=(l.drop n).length\/∃ c,(l.drop n)[k]?=some c/\p c=false))),?_,?_⟩
 ·rintro w2 b ⟨rfl,h⟩ -;rcases h with⟨rfl,c,hc,hp⟩|⟨rfl,he⟩
  ·have hlt:=(List.getElem?_eq_some_iff.1 hc).1;exact cT rfl ⟨(l.drop n).length-(k+1),by omega,k+1,by rw[aB ⟨by omega,by omega⟩]; omega,by omega,rfl,CV (p:=p) ha hc hp,rfl⟩
  ·refine cF rfl ⟨by omega,by rw[gC]; omega,by omega,by omega,?_,rfl⟩;show Value.string ((bs l).extract ((n:Int)).toNat (((n+k:Nat):Int)).toNat)=_;rw[Int.toNat_natCast,Int.toNat_natCast,BD,Nat.add_sub_cancel_left,OB ha hk he]
 ·by_cases hlt:k<(l.drop n).length
  ·have hc:(l.drop n)[k]?=some ((l.drop n)[k]'hlt):=gE hlt;generalize(l.drop n)[k]'hlt=c at hc;refine cT (by rw[gC]; exact dT (by omega)) ⟨by omega,?_⟩;rw[Int.toNat_natCast,lR,<- List.getElem?_drop,hc];show aq (some c) _;rw[aq,wrap32];refine hv _ _ _ ⟨_,rfl,rfl,?_⟩
   cases hp:p c with
   | true=>exact .inl ⟨rfl,c,rfl,hp⟩
   | false=>exact .inr ⟨rfl,.inr ⟨c,rfl,hp⟩⟩
  ·exact cF (by rw[gC]; exact dF (by omega)) ⟨rfl,.inr ⟨rfl,.inl (by omega)⟩⟩
theorem ME(w' : World)(c:UInt8)(R:Ending->World->Prop)(h:R (.returned (.bool (inr (un c)))) w'):cr prog (.func (.func 193) #[] #[]) #[.int .i32 (un c)] w' R:=by
 refine bn (by kernel_rfl) (aj (GC w' (un c)) ?_);rintro v w3 ⟨rfl,rfl⟩; exact h
theorem Mn(w' : World)(c:UInt8)(R:Ending->World->Prop)(h:R (.returned (.bool (wK (un c)))) w'):cr prog (.func (.func 228) #[] #[]) #[.int .i32 (un c)] w' R:=by
 refine bn (by kernel_rfl) (aj (BM w' (un c)) ?_);rintro v w3 ⟨rfl,rfl⟩; exact h
def DV(l:List UInt8):Int:=l.foldl (λ n c=>10*n+(un c-48)) 0
theorem AT(l:List UInt8)(c:UInt8):DV (l++[c])=10*DV l+(un c-48):=by simp[DV]
theorem MZ:∀ (k:Nat) (l:List UInt8),l.length<=k->(l.all λ c=>wK (un c))=true->0<=DV l/\DV l<10 ^ k:=by
 intro k
 induction k with
 | zero=>intro l hl _; obtain rfl:=List.length_eq_zero_iff.1 (by omega:l.length=0); exact⟨by decide,by decide⟩
 | succ k ih =>
  intro l hl ha;rcases List.eq_nil_or_concat l with rfl|⟨l',c,rfl⟩
  ·refine⟨by decide,?_⟩;show(0:Int)<10 ^ (k+1);exact Int.pow_pos (by decide)
  ·rw[List.concat_eq_append] at hl ha ⊢;rw[List.all_append,Bool.and_eq_true] at ha;rw[List.length_append,List.length_singleton] at hl;have h1:=ih l' (by omega) ha.1;have h2:wK (un c)=true:=by simpa using ha.2
   simp only[wK,Bool.and_eq_true,decide_eq_true_eq] at h2;rw[AT,Int.pow_succ];omega
def wW(l:List UInt8):Int×Int:=if 1<l.length/\l.head? = some 48 then (0,2) else if 9<l.length then (0,4) else (DV l,0)
theorem Kw(w:World){l:List UInt8}(hd:(l.all λ c=>wK (un c))=true)(hl:l.length<=10000):CP 238 #[sv l] w (λ r w'=>r=.tuple #[iv (wW l).1,iv (wW l).2]/\w' = w):=by
 refine wV ?_;unfold tr;refine⟨λ b w1=>b=decide (1<l.length/\l.head? = some 48)/\w1=w,?_,?_⟩
 ·rintro w1 b ⟨rfl,rfl⟩ -
  by_cases h:1<l.length/\l.head? = some 48
  ·exact cT (dT h) ⟨by rw[wW,if_pos h],rfl⟩
  refine cF (dF h) ?_
  by_cases h9:9<l.length
  ·exact cT (by rw[gC]; exact dT (by omega)) ⟨by rw[wW,if_neg h,if_pos h9],rfl⟩
  refine cF (by rw[gC]; exact dF (by omega)) ?_;refine⟨λ n i w2 m=>∃ k:Nat,i=k/\k<=l.length/\m=l.length-k/\n=DV (l.take k)/\w2=w1,⟨l.length,0,rfl,by omega,by omega,rfl,rfl⟩,?_⟩;rintro w2 m n i ⟨k,rfl,hk,hm,rfl,rfl⟩ -
  by_cases hlt:k<l.length
  ·have hc:l[k]?=some (l[k]'hlt):=gE hlt;generalize l[k]'hlt=c at hc;have h1:wK (un c)=true:=List.all_eq_true.1 hd c (List.mem_of_getElem? hc);have h2:=MZ 9 (l.take k) (by rw[List.length_take]; omega) (by
    rw[List.all_eq_true] at hd ⊢;exact λ x hx=>hd x (List.mem_of_mem_take hx))
   have h1:48<=un c/\un c<=57:=by simpa[wK] using h1
   unfold un at h1;have hlt8:=c.toNat_lt;refine cT (by rw[gC]; exact dT (by omega)) ⟨by omega,?_⟩;rw[Int.toNat_natCast,lR,hc];refine⟨l.length-(k+1),by omega,k+1,aB ⟨by omega,by omega⟩,by omega,rfl,?_,rfl⟩;have e8:IntKind.u8.wrap ((c.toNat:Int)-48)=(c.toNat:Int)-48:=by
    simp only[IntKind.wrap,IntKind.signed,IntKind.bits]
    simp
    omega
   rw[e8,aG hc,AT,un,aB (n:=10*DV (l.take k)) ⟨by omega,by omega⟩,aB (n:=(c.toNat:Int)-48) ⟨by omega,by omega⟩,aB ⟨by omega,by omega⟩]
  ·obtain rfl:k=l.length:=by omega
   refine cF (by rw[gC]; exact dF (by omega)) ⟨?_,rfl⟩;rw[List.take_length,wW,if_neg h,if_neg h9]
 ·cases l with
  | nil=>exact cF (by rw[gC]; rfl) ⟨rfl,rfl⟩
  | cons c l =>
   by_cases h1:1<(c :: l).length
   ·refine cT (by rw[gC]; exact dT (by omega)) ⟨by omega,?_⟩;rw[show(0:Int).toNat=0 from rfl,lR];refine⟨?_,rfl⟩
    by_cases h2:c=48
    ·subst h2; rw[dT (p:=1<(48 :: l).length/\(48 :: l).head? = some 48) ⟨h1,rfl⟩]; rfl
    ·rw[dF (λ h=>h2 (by simpa using h.2))];have:(c.toNat:Int)≠48:=λ h=>h2 (UInt8.toNat_inj.1 (by have:(48:UInt8).toNat=48:=rfl; omega));simpa using this
   ·exact cF (by rw[gC]; exact dF (by omega)) ⟨by rw[dF (λ h=>h1 h.1)],rfl⟩
