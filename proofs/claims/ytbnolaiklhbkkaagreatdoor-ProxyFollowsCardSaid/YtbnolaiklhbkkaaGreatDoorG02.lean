import Derived.Maps.RangeRun
import Derived.KernelRfl
import Derived.Test.YtbnolaiklhbkkaaGreatDoorG01
set_option linter.unusedVariables false
set_option maxRecDepth 100000
namespace Go.Vc
open Go
theorem Dt{P:Program}{w:World}{t ty e:TypeId}{z:Value}{sz by_:Nat}(hT:gV P t e z sz by_){a:OA}{n c c' : Nat}(hnc:n<=c):(Builtin.append_ #[t,t] ty #[.slice a n c,.slice none 0 c']).run P w=.ok (.slice a n c) w:=by
 obtain⟨i,hi,hz,hs,hby⟩:=hT.i;simp[Builtin.append_,run_underlying hT.u,sizeOf,typeInfo,hi,Builtin.lenOf,hnc,Builtin.firstCells]
 cases a<;>simp[storeCells]
abbrev bR {α:Type} (e:TypeId) (sz:Nat) (f:α->List Value) (a:OA) (c:Nat) (l:List α):aC:=lE e sz (.slice a l.length c) l.length (l.flatMap f)
section
variable {α:Type} {e:TypeId} {sz:Nat} {f:α->List Value} {w0 w:World} {B:aC} {a:OA} {c:Nat} {l:List α}
theorem bB(hf:∀ x,(f x).length=sz):gQ (bR e sz f a c l) λ w=>cG sz f w a l:=λ _ _ h=>L4 hf h.1
theorem St.rd(hf:∀ x,(f x).length=sz)(h:St w0 w (star (bR e sz f a c l) B)):cG sz f w a l:=L4 hf h.rowOf
theorem St.pz(h:St w0 w (star (bR e sz f a c l) B)):l.length<=c/\(a=none->c=0):=tT h.rowOf
theorem St.vj(h:St w0 w (star (bR e sz f a c l) B))(hl:0<l.length):∃ g,a=some ⟨g,0,none⟩:=let ⟨g,hg,_⟩:=CT h.rowOf hl; ⟨g,hg⟩
theorem St.dP(h:St w0 w B):St w0 w (star (bR e sz f none 0 []) B):=h.Lw e sz |>.swap
theorem DW(hf:∀ x,(f x).length=sz):∀ (l:List α) (i:Nat) (x:α),i<l.length->(l.set i x).flatMap f=(l.flatMap f).take (i*sz)++f x++(l.flatMap f).drop (i*sz+sz)
 | [],_,_,h=>absurd h (by simp)
 | y :: l,0,x,_=>by
  have h0:(f y).length=sz:=hf y;simp[List.flatMap_cons,<- h0]
 | y :: l,i+1,x,h=>by
  have ih:=DW hf l i x (by simpa using h);have h0:(f y).length=sz:=hf y;rw[List.set_cons_succ,List.flatMap_cons,ih,List.flatMap_cons];have e1:(i+1)*sz=(f y).length+i*sz:=by rw[h0,Nat.add_mul]; omega
  rw[e1,List.take_length_add_append,Nat.add_assoc,List.drop_length_add_append]
  simp
theorem St.EV(hf:∀ x,(f x).length=sz){x:α}(h1:∀ v∈f x,v.oneCell' = true){g:Nat}(h:St w0 w (star (bR e sz f (some ⟨g,0,none⟩) c l) B)){i:Nat}(hi:i<l.length){R:World->Prop}(k:∀ w',St w0 w' (star (bR e sz f (some ⟨g,0,none⟩) c (l.set i x)) B)->R w'):aL (Addr.add ⟨g,0,none⟩ (i*sz)) 0 (f x) w R:=by
 obtain⟨F,⟨own,rfl⟩,use⟩:=h.use;rcases own.2 with⟨hv,_⟩|⟨g',cap,cur,hv,hb,hg,hnc,hcm,hcs,htake⟩
 ·cases hv
 ·cases hv
  have hx:=hf x;have hfl:=ct hf l;have hlen:(cur.toList.take (l.length*sz)).length=l.length*sz:=by rw[htake,hfl]
  have hcur:l.length*sz<=cur.size:=by rw[List.length_take] at hlen; simp at hlen; omega
  have h4:i*sz+sz<=l.length*sz:=by
   have:=Nat.mul_le_mul_right sz (show i+1<=l.length by omega);rw[Nat.add_mul] at this; omega
  rw[sy];refine CZ (f x) 0 w cur hg (by omega) h1 λ w' hb' hc' _=>k w' (use w' _ ⟨[g],⟨⟨?_,.inr ⟨g,c,_,?_,hb,hb',?_,hcm,?_,?_⟩⟩,rfl⟩,hc',λ j hj=>.inl hj⟩)
  ·rw[ct hf,List.length_set]
  ·rw[List.length_set]
  ·rw[List.length_set]; exact hnc
  ·simp only[List.size_toArray,List.length_append,List.length_take,List.length_drop,Array.length_toList]; omega
  ·rw[List.length_set,DW hf l i x hi,<- htake];simp only[Nat.add_zero,List.append_assoc];rw[List.take_append,List.take_append,List.take_take,List.take_take,Nat.min_eq_right (by omega),Nat.min_eq_left (by omega),hx,List.drop_take];have e1:(List.take (i*sz) cur.toList).length=i*sz:=by rw[List.length_take]; simp; omega
   rw[e1,List.take_of_length_le (by omega:(f x).length<=l.length*sz-i*sz)]
   congr 3
   omega
theorem St.jf{v:α->Value}{x:α}(h1:(v x).oneCell' = true){g:Nat}(h:St w0 w (star (bR e 1 (λ x=>[v x]) (some ⟨g,0,none⟩) c l) B)){i:Nat}(hi:i<l.length){R:World->Prop}(k:∀ w',St w0 w' (star (bR e 1 (λ x=>[v x]) (some ⟨g,0,none⟩) c (l.set i x)) B)->R w'):aP w (Addr.add ⟨g,0,none⟩ (i*1)) (v x) R:=by
 have:=St.EV (f:=λ x=>[v x]) (λ _=>rfl) (x:=x) (by simpa using h1) h hi (R:=R) k;have e0:(Addr.add ⟨g,0,none⟩ (i*1)).add 0=Addr.add ⟨g,0,none⟩ (i*1):=by rw[Addr.add_add]; simp
 simpa only[aL,e0] using this
end
section
variable {α:Type} {P:Program} {t ty e:TypeId} {z:Value} {sz by_:Nat} {f:α->List Value} {w0 w:World} {B:aC} {a:OA} {c:Nat} {l:List α}
theorem cG.cell(hf:∀ x,(f x).length=sz)(h:cG sz f w a l):∀ (j:Nat) (u:Value),(l.flatMap f)[j]?=some u->∃ q,a=some q/\w.cell? (q.add j)=some u:=by
 suffices H:∀ (l:List α) (j:Nat) (u:Value),(l.flatMap f)[j]?=some u->∃ i r x,j=i*sz+r/\l[i]?=some x/\(f x)[r]?=some u by
  intro j u hj;obtain⟨i,r,x,rfl,hi,hr⟩:=H l j u hj;obtain⟨q,hq,hc⟩:=h.at hi;refine⟨q,hq,?_⟩;have:=aS hc r u hr;rw[Nat.zero_add,Addr.add_add] at this;exact this
 intro l
 induction l with
 | nil=>intro j u h; simp at h
 | cons x l ih =>
  intro j u h;rw[List.flatMap_cons] at h
  by_cases hj:j<sz
  ·rw[List.getElem?_append_left (by rw[hf]; exact hj)] at h;exact⟨0,j,x,by omega,rfl,h⟩
  ·rw[List.getElem?_append_right (by rw[hf]; omega),hf] at h;obtain⟨i,r,y,e1,h1,h2⟩:=ih _ _ h;exact⟨i+1,r,y,by rw[Nat.add_mul]; omega,by simpa using h1,h2⟩
theorem cS(hT:gV P t e z sz by_)(hf:∀ x,(f x).length=sz)(h1:∀ x,∀ v∈f x,v.oneCell' = true)(h:St w0 w (star (bR e sz f a c l) B)){a2:OA}{c2:Nat}{l2:List α}(hr:cG sz f w a2 l2)(hb:(l.length+l2.length)*by_<=140737488355328)(hm:l.length+l2.length<=9223372036854775807){R:Option Addr->Nat->Nat->World->Prop}(k:∀ a' c' w',St w0 w' (star (bR e sz f a' c' (l++l2)) B)->R a' (l++l2).length c' w') :
  aV P (Builtin.append_ #[t,t] ty #[.slice a l.length c,.slice a2 l2.length c2]) w λ e w1=>∃ a l c,e=.slice a l c/\R a l c w1:=by
 have one:∀ u∈l2.flatMap f,u.oneCell' = true:=λ u hu=>by
  obtain⟨x,_,hx⟩:=List.mem_flatMap.1 hu;exact h1 x u hx
 cases a2 with
 | some q =>
  refine Fk hT h (ct hf l2) (λ j u hj=>?_) one hb hm λ v' w' h''=>?_
  ·obtain⟨q',hq,hc⟩:=hr.cell hf j u hj
   cases hq; exact hc
  ·obtain⟨a',c',rfl⟩:=p8 h''.rowOf;refine⟨a',_,c',rfl,?_⟩;have h3:St w0 w' (star (bR e sz f a' c' (l++l2)) B):=by
    show St w0 w' (star (lE e sz (.slice a' (l++l2).length c') (l++l2).length ((l++l2).flatMap f)) B);rw[List.length_append,List.flatMap_append]; exact h''
   have:=k a' c' w' h3
   rwa [List.length_append] at this
 | none =>
  have hn:l2=[]:=by
   cases l2 with
   | nil=>rfl
   | cons x l2=>obtain⟨q,_,hq,_⟩:=hr 0 x rfl; cases hq
  subst hn;rw[List.length_nil];refine⟨_,w,Dt hT (tT h.rowOf).1,a,_,c,rfl,?_⟩;rw[List.append_nil] at k;exact k a c w h
theorem ob(hT:gV P t e z sz by_)(hf:∀ x,(f x).length=sz){x:α}(h1:∀ v∈f x,v.oneCell' = true)(h:St w0 w (star (bR e sz f a c l) B))(hb:(l.length+1)*by_<=140737488355328)(hm:l.length+1<=9223372036854775807){R:Option Addr->Nat->Nat->World->Prop}(k:∀ a' c' w',St w0 w' (star (bR e sz f a' c' (l++[x])) B)->R a' (l++[x]).length c' w'){cs:Array Value}(hcs:cs=(f x).toArray) :
  aq w (.cells cs e) λ r w1=>aV P (Builtin.append_ #[t,t] ty #[.slice a l.length c,.slice (some ⟨r,0,none⟩) 1 1]) w1 λ e w2=>∃ a l c,e=.slice a l c/\R a l c w2:=by
 refine BS hT h (hf x) h1 hb hm (λ a' c' w' h'=>?_) hcs;have h3:St w0 w' (star (bR e sz f a' c' (l++[x])) B):=by
  show St w0 w' (star (lE e sz (.slice a' (l++[x]).length c') (l++[x]).length ((l++[x]).flatMap f)) B);rw[List.length_append,List.flatMap_append,List.flatMap_singleton]; exact h'
 have:=k a' c' w' h3
 rwa [List.length_append] at this
theorem ze{g:Nat}{cs:Array Value}(hf:∀ x,(f x).length=sz)(hg:w.heap[g]?=some (.cells cs e (0,0)))(hc:cs.toList=l.flatMap f)(hm:l.length<=maxLen) :
  w.ownsRow 0 e sz (.slice (some ⟨g,0,none⟩) l.length l.length) l.length (l.flatMap f):=by
 have hl:cs.size=l.length*sz:=by rw[<- Array.length_toList,hc,ct hf]
 refine⟨ct hf l,.inr ⟨g,l.length,cs,rfl,Nat.zero_le _,hg,Nat.le_refl _,hm,hl,?_⟩⟩;rw[hc];exact List.take_of_length_le (by rw[ct hf]; exact Nat.le_refl _)
theorem I5{cs:Array Value}{x:α}(hx:cs.toList=f x)(h0:0<cs.size):∀ n,(madeCells cs (n*cs.size)).toList=(List.replicate n x).flatMap f:=by
 have get:∀ m j,j<m->(madeCells cs m)[j]?=cs[j%cs.size]?:=λ m j hj=>by
  have:j%cs.size<cs.size:=Nat.mod_lt _ h0;simp[madeCells,hj,this]
 intro n;apply List.ext_getElem?;intro j;rw[Array.getElem?_toList];have hsz:∀ y:α,y=x->(f y).length=cs.size:=λ y hy=>by rw[hy,<- hx]; simp
 by_cases hj:j<n*cs.size
 ·rw[get _ _ hj];have hq:j / cs.size<n:=Nat.div_lt_of_lt_mul (by rw[Nat.mul_comm]; exact hj);have e1:((List.replicate n x).flatMap f)[j / cs.size*cs.size+j%cs.size]?=cs[j%cs.size]?:=by
   suffices H:∀ n q r,q<n->r<cs.size->((List.replicate n x).flatMap f)[q*cs.size+r]?=cs[r]? from H n _ _ hq (Nat.mod_lt _ h0)
   intro n
   induction n with
   | zero=>intro q r h; omega
   | succ n ih =>
    intro q r h hr;rw[List.replicate_succ,List.flatMap_cons]
    cases q with
    | zero =>
     rw[Nat.zero_mul,Nat.zero_add,List.getElem?_append_left (by rw[hsz x rfl]; exact hr),<- hx,Array.getElem?_toList]
    | succ q =>
     rw[List.getElem?_append_right (by rw[hsz x rfl,Nat.add_mul]; omega),hsz x rfl];rw[show(q+1)*cs.size+r-cs.size=q*cs.size+r by rw[Nat.add_mul]; omega];exact ih q r (by omega) hr
  rw[Nat.div_add_mod' j cs.size] at e1;rw[e1]
 ·rw[Array.getElem?_eq_none (by rw[size_madeCells]; omega),List.getElem?_eq_none];have:∀ n,((List.replicate n x).flatMap f).length=n*cs.size:=λ n=>by
   induction n with
   | zero=>simp
   | succ n ih=>rw[List.replicate_succ,List.flatMap_cons,List.length_append,ih,hsz x rfl,Nat.add_mul]; omega
  rw[this]; omega
theorem cV(hT:gV P t e z sz by_)(hf:∀ x,(f x).length=sz){x:α}(hz:z.cells.toList=f x)(h:St w0 w B){n:Nat}(hn:by_*n<=281474976710656)(h63:n<=9223372036854775807){R:Option Addr->Nat->Nat->World->Prop}(k:∀ g w',ay w w' []->St w0 w' (star (bR e sz f (some ⟨g,0,none⟩) n (List.replicate n x)) B)->R (some ⟨g,0,none⟩) n n w') :
  aV P (Instr.makeSlice t (iv n) (iv n)) w λ e w1=>∃ a l c,e=.slice a l c/\R a l c w1:=by
 obtain⟨i,hi,hzz,hs,hby⟩:=hT.i;have hb' : (i.bytes:Int)*(n:Int)<=281474976710656:=by
  have h:((i.bytes*n:Nat):Int)<=281474976710656:=by rw[hby]; omega
  rwa [Int.natCast_mul] at h
 have hr:=run_make (P:=P) w t e i z hT.u hi hzz .i64 .i64 (n:Int) (n:Int) (by omega) (Int.le_refl _) hb' (by omega);rw[Int.toNat_natCast,hs,<- hT.zc] at hr;refine⟨_,_,hr,_,_,_,rfl,k _ _ (ay.new _ _ _) ?_⟩;have own:(w.alloc (.cells (madeCells z.cells (n*z.cells.size)) e)).ownsRow 0 e sz (.slice (some ⟨w.heap.size,0,none⟩) (List.replicate n x).length (List.replicate n x).length) (List.replicate n x).length ((List.replicate n x).flatMap f) :=
  ze hf (by rw[iU,if_pos rfl]) (I5 hz (by rw[hT.zc]; exact hT.pos) n) (by rw[List.length_replicate]; unfold maxLen; exact h63)
 have s:=h.add (ay.new w (.cells (madeCells z.cells (n*z.cells.size)) e) []) (B:=lE e sz _ _ _) (G:=[w.heap.size]) ⟨own,rfl⟩ (by simp);have s2:=s.swap;rw[List.length_replicate] at s2;unfold bR;rw[List.length_replicate];exact s2
theorem zy(w:World)(dT sT ty elem:TypeId)(g n dCap:Nat)(ad:Addr)(sCap:Nat)(cur:Array Value)(t:TypeId)(cs:List Value){sz:Nat}(hu:P.underlying dT=some (.slice elem))(hs:(P.info? elem).map (·.size)=some sz)(hg:w.heap[g]?=some (.cells cur t (0,0)))(hn:cs.length=n*sz)(hsrc:∀ j v,cs[j]?=some v->w.cell? (ad.add j)=some v)(hfit:cs.length<=cur.size)(h1:∀ v∈cs,v.oneCell' = true) :
  (Builtin.copy_ #[dT,sT] ty #[.slice (some ⟨g,0,none⟩) n dCap,.slice (some ad) n sCap]).run P w =
   .ok (goInt n) (w.setRow g (cs++cur.toList.drop cs.length).toArray):=by
 have hl:=run_loadCells_list (P:=P) w ad cs hsrc;have hst:=run_storeCells_at P g 0 t cs 0 cur w hg (by simpa using hfit) h1
 cases hq:P.info? elem with
 | none=>simp[hq] at hs
 | some i =>
  have hi:i.size=sz:=by simpa[hq] using hs
  rw[Nat.zero_add,List.take_zero,List.nil_append] at hst;simp[Builtin.copy_,run_underlying hu,Builtin.lenOf,Builtin.firstCells,sizeOf,typeInfo,hq,hi,<- hn,hl,hst]
theorem G3(hT:gV P t e z sz by_)(hf:∀ x,(f x).length=sz)(h1:∀ x,∀ v∈f x,v.oneCell' = true){g n:Nat}(hn:l.length=n)(h:St w0 w (star (bR e sz f (some ⟨g,0,none⟩) c l) B)){a2:OA}{c2:Nat}{l2:List α}(hl:l2.length=n)(hr:cG sz f w a2 l2){K:KP}(k:∀ v w',St w0 w' (star (bR e sz f (some ⟨g,0,none⟩) c l2) B)->K v w') :
  aV P (Builtin.copy_ #[t,t] ty #[.slice (some ⟨g,0,none⟩) n c,.slice a2 n c2]) w K:=by
 obtain⟨i,hi,hzz,hs,hby⟩:=hT.i;have hsz:(P.info? e).map (·.size)=some sz:=by simp[hi,hs]
 subst hn;have one:∀ u∈l2.flatMap f,u.oneCell' = true:=λ u hu=>by
  obtain⟨x,_,hx⟩:=List.mem_flatMap.1 hu;exact h1 x u hx
 have hfl:=ct hf l2;have hfl1:=ct hf l;obtain⟨F,⟨own,rfl⟩,use⟩:=h.use;rcases own.2 with⟨hv,_⟩|⟨g',cap,cur,hv,hb,hg,hnc,hcm,hcs,htake⟩
 ·cases hv
 ·cases hv
  have hcur:l.length*sz<=cur.size:=by
   have:=congrArg List.length htake;rw[List.length_take,hfl1] at this; simp at this; omega
  by_cases h0:l.length=0
  ·obtain rfl:l=[]:=List.eq_nil_of_length_eq_zero h0;obtain rfl:l2=[]:=List.eq_nil_of_length_eq_zero hl
   cases a2 with
   | some ad =>
    have hr2:=zy (P:=P) w t t ty e g 0 c ad c2 cur e [] hT.u hsz hg (by simp) (by simp) (by simp) (by simp);refine⟨_,_,hr2,k _ _ ?_⟩;have:w.setRow g ([]++cur.toList.drop ([]:List Value).length).toArray=w.setRow g cur:=by simp
    rw[this];refine h.quiet ⟨by simp[World.setRow],λ j _ _=>?_,⟨rfl,rfl,rfl⟩⟩
    by_cases hj:j=g
    ·subst hj; rw[setRow_heap w j cur _ e _ hg,hg]
    ·exact setRow_other w g j _ hj
   | none =>
    refine⟨goInt 0,w,?_,k _ _ h⟩;simp[Builtin.copy_,run_underlying hT.u,Builtin.lenOf,Builtin.firstCells,sizeOf,typeInfo,hi,storeCells]
  ·obtain⟨x,hx⟩:∃ x,l2[0]?=some x:=by
    cases l2 with
    | nil=>simp at hl; omega
    | cons x l2=>exact⟨x,rfl⟩
   obtain⟨ad,rfl,_⟩:=hr.at hx;have hr2:=zy (P:=P) w t t ty e g l.length c ad c2 cur e (l2.flatMap f) hT.u hsz hg (by rw[hfl,hl]) (λ j v hj=>by obtain⟨q,hq,hc⟩:=hr.cell hf j v hj; cases hq; exact hc) (by rw[hfl,hl]; exact hcur) one;refine⟨_,_,hr2,k _ _ (use _ _ ⟨[g],⟨⟨hfl,.inr ⟨g,c,_,by rw[hl],hb,setRow_heap w g cur _ e _ hg,by rw[hl]; exact hnc,hcm,?_,?_⟩⟩,rfl⟩,⟨by simp[World.setRow],λ j _ hj=>setRow_other w g j _ (by simp[Value.ownBlock] at hj; exact hj),⟨rfl,rfl,rfl⟩⟩,λ j hj=>.inl (by simpa[Value.ownBlock] using hj)⟩)⟩
   ·rw[<- hcs];simp only[List.size_toArray,List.length_append,List.length_drop,Array.length_toList,hfl,hl];omega
   ·rw[List.take_append_of_le_length (by rw[hfl,hl]; exact Nat.le_refl _)];exact List.take_of_length_le (by rw[hfl,hl]; exact Nat.le_refl _)
theorem Iu(hT:gV P t e z sz by_)(hf:∀ x,(f x).length=sz){x:α}(h1:∀ v∈f x,v.oneCell' = true)(s:St w0 w B)(h:cG sz f w a l){r:Nat}(hx:∀ j u,(f x)[j]?=some u->w.cell? ⟨r,j,none⟩=some u)(hb:(l.length+1)*by_<=140737488355328)(hm:l.length+1<=9223372036854775807){R:Option Addr->Nat->Nat->World->Prop}(k:∀ a' c' w',St w0 w' (star (bR e sz f a' c' (l++[x])) B)->R a' (l++[x]).length c' w') :
  aV P (Builtin.append_ #[t,t] ty #[.slice a l.length l.length,.slice (some ⟨r,0,none⟩) 1 1]) w λ e w2=>∃ a l c,e=.slice a l c/\R a l c w2:=by
 cases a with
 | none =>
  have hn:l=[]:=by
   cases l with
   | nil=>rfl
   | cons x l=>obtain⟨q,_,hq,_⟩:=h 0 x rfl; cases hq
  subst hn;refine Fk hT (s.dP (e:=e) (sz:=sz) (f:=f)) (m:=1) (news:=f x) (by rw[hf]; omega) (λ j u hj=>by rw[sy]; exact hx j u hj) h1 (by simpa using hb) (by simp) λ v' w' h'=>?_;obtain⟨a',c',rfl⟩:=p8 h'.rowOf;have h2:St w0 w' (star (bR e sz f a' c' ([]++[x])) B):=by
   show St w0 w' (star (lE e sz (.slice a' 1 c') 1 ([x].flatMap f)) B);rw[List.flatMap_singleton]; simpa using h'
  exact⟨a',_,c',rfl,k a' c' w' h2⟩
 | some q =>
  obtain⟨i,hi,hz,hs,hby⟩:=hT.i;have hfl:=ct hf l;have hr:=run_append_grow (P:=P) w t ty e i z hT.u hi hz q l.length l.length (l.flatMap f) (by rw[hfl,hs]) (λ j u hj=>by obtain⟨q',hq,hc⟩:=h.cell hf j u hj; cases hq; exact hc)
   ⟨r,0,none⟩ 1 1 (f x) (by rw[hf,hs]; omega) (λ j u hj=>by rw[sy]; exact hx j u hj) (by omega) (by omega) (growslice_fits (by omega) (by rw[hby]; exact hb))
  have hge:=grownCap_ge w (l.length+1) l.length e;have hcm:grownCap w (l.length+1) l.length e<=maxLen:=grownCap_le_maxLen w (l.length+1) l.length e (by unfold maxLen; omega);generalize grownCap w (l.length+1) l.length e=cap at hr hge hcm;refine⟨_,_,hr,_,_,_,rfl,?_⟩;have c0:ay w w.drew []:=ay.drew w [];have c1:ay w (w.drew.alloc (.cells ((l.flatMap f).toArray++(f x).toArray++Builtin.zeroCells z.cells (cap-(l.length+1))) e)) []:=c0.trans (ay.new _ _ []) (by simp);have own:(w.drew.alloc (.cells ((l.flatMap f).toArray++(f x).toArray++Builtin.zeroCells z.cells (cap-(l.length+1))) e)).ownsRow 0 e sz (.slice (some ⟨w.heap.size,0,none⟩) (l++[x]).length cap) (l++[x]).length ((l++[x]).flatMap f):=by
   have hx1:=hf x;refine⟨ct hf _,.inr ⟨w.heap.size,cap,_,by simp,Nat.zero_le _,by rw[iU,if_pos (show w.heap.size=w.drew.heap.size from rfl)],by simpa using hge,hcm,?_,?_⟩⟩
   ·have hzs:z.cells.size=sz:=hT.zc;simp only[Array.size_append,List.size_toArray,size_zeroCells,hzs,hfl,hx1];rw[show l.length*sz+sz=(l.length+1)*sz by rw[Nat.add_mul]; omega,<- Nat.add_mul]
    congr 1; omega
   ·rw[List.length_append,List.length_singleton,List.flatMap_append,List.flatMap_singleton];simp only[Array.toList_append,List.append_assoc];rw[<- List.append_assoc];have:(l.length+1)*sz=(l.flatMap f++f x).length:=by rw[List.length_append,hfl,hx1,Nat.add_mul]; omega
    rw[this,List.take_left]
  have s2:=s.add c1 (B:=lE e sz _ _ _) (G:=[w.heap.size]) ⟨own,rfl⟩ (by simp);have:=k _ _ _ s2.swap
  rwa [List.length_append] at this
theorem ox(hT:gV P t e z sz by_)(hf:∀ x,(f x).length=sz)(h1:∀ x,∀ v∈f x,v.oneCell' = true)(s:St w0 w B)(h:cG sz f w a l)(hb:l.length*by_<=140737488355328)(hm:l.length<=9223372036854775807){K:KP}(k:∀ a' c' w',St w0 w' (star (bR e sz f a' c' l) B)->K (.slice a' l.length c') w') :
  cond (a).isNone (K (.slice none 0 0) w) (aq w (.cells #[] e) λ r1 w1=>aV P (Builtin.append_ #[t,t] ty #[.slice (some ⟨r1,0,none⟩) 0 0,.slice a l.length c]) w1 λ e1 w2=>∃ (a2:OA) (l2 c2:Nat),e1=(.slice a2 l2 c2)/\K (.slice a2 l2 c2) w2):=by
 cases a with
 | none =>
  have hn:l=[]:=by
   cases l with
   | nil=>rfl
   | cons x l=>obtain⟨q,_,hq,_⟩:=h 0 x rfl; cases hq
  subst hn;exact cT rfl (k none 0 w s.dP)
 | some q =>
  refine cF rfl (aJ ?_);have s1:=s.box #[] e;have c1:=ay.new w (.cells #[] e) [];generalize w.alloc _=w1 at s1 c1 ⊢;generalize w.heap.size=r1 at s1 ⊢;have s2:St w0 w1 (star (bR e sz f (some ⟨r1,0,none⟩) 0 []) B):=s1.swap.weak (bC.left (by
   rintro w F ⟨h,rfl⟩;exact⟨[r1],⟨ze (f:=f) hf h rfl (by simp),by simp[Value.ownBlock]⟩,by simp⟩))
  exact cS (a2:=some q) (c2:=c) (l2:=l) hT hf h1 s2 (h.au c1) (by simp; omega) (by simp; omega) (R:=λ a' n c' w'=>K (.slice a' n c') w') (λ a' c' w' h'=>by rw[List.nil_append] at h' ⊢; exact k a' c' w' h')
theorem uI(hT:gV P t e z sz by_)(hf:∀ x,(f x).length=sz)(h1:∀ x,∀ v∈f x,v.oneCell' = true){x0:α}(hz:z.cells.toList=f x0)(s:St w0 w B)(h:cG sz f w a l)(hb:by_*l.length<=140737488355328)(hm:l.length<=9223372036854775807){K:KP}(k:∀ g w',St w0 w' (star (bR e sz f (some ⟨g,0,none⟩) l.length l) B)->K (.slice (some ⟨g,0,none⟩) l.length l.length) w') :
  aV P (Instr.makeSlice t (iv l.length) (iv l.length)) w λ e1 w1=>∃ (a2:OA) (l2 c2:Nat),e1=(.slice a2 l2 c2) /\
   aV P (Builtin.copy_ #[t,t] ty #[.slice a2 l2 c2,.slice a l.length c]) w1 λ _ w2=>K (.slice a2 l2 c2) w2:=by
 exact cV hT hf hz s (n:=l.length) (by omega) hm λ g w' hc s'=>G3 hT hf h1 (by simp) s' rfl (h.au hc) λ _ w2 s2=>k g w2 s2
end
def HZ(es:Array MapEntry)(ks:List Int):Prop:=es.toList.map (·.key)=ks.map iv/\∀ e∈es.toList,e.val=.bool true
def zF(r:Nat)(ks:List Int):aC:=QX λ (x:{ p:Array MapEntry×Nat // HZ p.1 ks })=>aY r (.map x.1.1 x.1.2)
theorem oI(k:Int):∀ (es:List MapEntry) (ks:List Int) (i:Nat),es.map (·.key)=ks.map iv->(∀ e∈es,e.val=.bool true) ->
  (k∈ks/\∃ j,Instr.findNow (.int .i64) (iv k) es i=some (some (j,.bool true)))\/(k∉ks/\Instr.findNow (.int .i64) (iv k) es i=some none)
 | [],[],_,_,_=>.inr ⟨by simp,rfl⟩
 | e :: es,x :: ks,i,h,hv=>by
  simp only[List.map_cons,List.cons.injEq] at h;have hs:Instr.sameNow (.int .i64) (iv k) e.key=some (k==x):=by rw[h.1]; simp[Instr.sameNow]
  by_cases hkx:k=x
  ·subst hkx;refine .inl ⟨by simp,i,?_⟩;have:=hv e (by simp);simp[Instr.findNow,hs,this]
  ·have hb:(k==x)=false:=by simpa using hkx
   rcases oI k es ks (i+1) h.2 (λ e he=>hv e (by simp[he])) with⟨h1,j,h2⟩|⟨h1,h2⟩
   ·exact .inl ⟨by simp[h1],j,by simp[Instr.findNow,hs,hb,h2]⟩
   ·exact .inr ⟨by simp[h1,hkx],by simp[Instr.findNow,hs,hb,h2]⟩
 | [],_ :: _,_,h,_=>by simp at h
 | _ :: _,[],_,h,_=>by simp at h
structure TR (P:Program) (t k e:TypeId) (z:Value):Prop where
 u:P.underlying t=some (.map k e)
 z:(P.info? e).bind (·.zero)=some z
section
variable {P:Program} {t kt et:TypeId} {w0 w:World} {B:aC} {r:Nat} {ks:List Int}
theorem mI(hk:P.underlying kt=some (.int .i64))(b:Bool)(n:Nat)(k:Int)(w:World):(Instr.checkKey b (n+1) kt (iv k)).run P w=.ok () w:=by
 simp[Instr.checkKey,aH hk]
theorem yT(hT:TR P t kt et (.bool false))(hk:P.underlying kt=some (.int .i64))(s:St w0 w (star (zF r ks) B))(k:Int){R:Bool->World->Prop}(h:R (decide (k∈ks)) w) :
  aV P (Instr.lookup t (.map (some r)) (iv k) false) w λ e w'=>∃ b:Bool,e=.bool b/\R b w':=by
 obtain⟨⟨⟨es,cl⟩,h1,h2⟩,s'⟩:=s.ex;have ho:w.heap[r]?=some (.map es cl):=s'.obj;have hz:(zeroValue et).run P w=.ok (.bool false) w:=by
  have:=hT.z
  cases hi:P.info? et with
  | none=>simp[hi] at this
  | some i=>simp[hi] at this; simp[zeroValue,typeInfo,hi,this]
 have hc:=mI (P:=P) hk es.isEmpty 9999 k w;rcases oI k es.toList ks 0 h1 h2 with⟨hm,j,hf⟩|⟨hm,hf⟩
 ·refine⟨.bool true,w,?_,true,rfl,by rwa [decide_eq_true hm] at h⟩;simp[Instr.lookup,aH hT.u,Instr.findKey,aH hk,hf,ho,hc,getObj,Sem.run]
 ·refine⟨.bool false,w,?_,false,rfl,by rwa [decide_eq_false hm] at h⟩;simp[Instr.lookup,aH hT.u,Instr.findKey,aH hk,hf,ho,hc,hz,getObj,Sem.run]
theorem Bq(hT:TR P t kt et (.bool false))(hk:P.underlying kt=some (.int .i64))(s:St w0 w (star (zF r ks) B))(k:Int)(hn:k∉ks){R:World->Prop}(h:∀ w',ay w w' [r]->St w0 w' (star (zF r (ks++[k])) B)->R w'):aV P (Instr.mapUpdate t (.map (some r)) (iv k) (.bool true)) w λ _ w'=>R w':=by
 obtain⟨⟨⟨es,cl⟩,h1,h2⟩,s'⟩:=s.ex;have ho:w.heap[r]?=some (.map es cl):=s'.obj;have hc:=mI (P:=P) hk false 9999 k w;rcases oI k es.toList ks 0 h1 h2 with⟨hm,_⟩|⟨hm,hf⟩
 ·exact absurd hm hn
 ·have hs:=s'.put (.map (es.push { key:=iv k,val:=.bool true,born:=cl }) (cl+1));have hr:(Instr.mapUpdate t (.map (some r)) (iv k) (.bool true)).run P w=.ok () { w with heap:=w.heap.setIfInBounds r (.map (es.push { key:=iv k,val:=.bool true,born:=cl }) (cl+1)) }:=by
   simp[Instr.mapUpdate,aH hT.u,Instr.findKey,aH hk,hf,ho,hc,setObj,getObj,Sem.run]
  refine⟨_,_,hr,h _ (ay.put w r _ (by simp)) (St.wT (f:=λ (x:{ p:Array MapEntry×Nat // HZ p.1 (ks++[k]) })=>aY r (.map x.1.1 x.1.2)) ⟨(_,_),?_,?_⟩ hs)⟩
  ·simp[h1]
  ·intro e he;have he' : e∈es.toList++[{ key:=iv k,val:=.bool true,born:=cl }]:=by simpa using he
   rcases List.mem_append.1 he' with he|he
   ·exact h2 e he
   ·rw[List.mem_singleton.1 he]
theorem DJ{ty:TypeId}(hT:TR P t kt et (.bool false))(s:St w0 w (star (zF r ks) B)){R:World->Prop}(h:∀ w',ay w w' [r]->St w0 w' (star (zF r []) B)->R w') :
  aV P (Builtin.clear_ #[t] ty #[.map (some r)]) w λ _ w'=>R w':=by
 obtain⟨⟨⟨es,cl⟩,h1,h2⟩,s'⟩:=s.ex;have ho:w.heap[r]?=some (.map es cl):=s'.obj;have hs:=s'.put (.map #[] cl);have hr:(Builtin.clear_ #[t] ty #[.map (some r)]).run P w=.ok (.tuple #[]) { w with heap:=w.heap.setIfInBounds r (.map #[] cl) }:=by
  simp[Builtin.clear_,aH hT.u,ho,setObj,getObj,Sem.run]
 exact⟨_,_,hr,h _ (ay.put w r _ (by simp)) (St.wT (f:=λ (x:{ p:Array MapEntry×Nat // HZ p.1 [] })=>aY r (.map x.1.1 x.1.2)) ⟨(_,_),by simp,by simp⟩ hs)⟩
theorem uW{t' : TypeId}(s:St w0 w B){R:Option Nat->World->Prop}(h:∀ r w',ay w w' []->St w0 w' (star (aY r (.map #[] 0)) B)->R (some r) w'):aV P (Instr.makeMap t' none) w λ e w'=>∃ m:Option Nat,e=.map m/\R m w':=by
 refine⟨_,_,?_,_,rfl,h _ _ (ay.new w (.map #[] 0) []) (s.newObj (.map #[] 0)).swap⟩;simp[Instr.makeMap,newObj,Sem.run]
theorem St.TJ(s:St w0 w (star (aY r (.map #[] 0)) B)):St w0 w (star (zF r []) B) :=
 St.wT (f:=λ (x:{ p:Array MapEntry×Nat // HZ p.1 [] })=>aY r (.map x.1.1 x.1.2)) ⟨(#[],0),by simp,by simp⟩ s
end
end Go.Vc
namespace Go.Vc
structure Lo where
 v:Nat->Int
 f:Nat->Int
 lr:Nat->Nat
 ch:Int
def j8{α:Type}(f:Nat->α)(i:Nat)(x:α):Nat->α:=λ j=>if j=i then x else f j
theorem bK{α:Type}(f:Nat->α)(i:Nat)(x:α):j8 f i x i=x:=if_pos rfl
theorem dW{α:Type}(f:Nat->α){i j:Nat}(x:α)(h:j≠i):j8 f i x j=f j:=if_neg h
theorem Cw{α:Type}(f:Nat->α)(n i:Nat)(x:α):((List.range n).map f).set i x=(List.range n).map (j8 f i x):=by
 refine List.ext_getElem? λ j=>?_;rw[List.getElem?_set,List.length_map,List.length_range,List.getElem?_map,List.getElem?_map]
 by_cases h:i=j
 ·subst h;rw[if_pos rfl]
  by_cases hl:i<n
  ·rw[if_pos hl,List.getElem?_range hl,Option.map_some,bK]
  ·rw[if_neg hl,List.getElem?_eq_none (by simpa using hl),Option.map_none]
 ·rw[if_neg h]
  cases hj:(List.range n)[j]? with
  | none=>rfl
  | some k =>
   have:k=j:=by
    obtain⟨hl,e⟩:=List.getElem?_eq_some_iff.1 hj;simpa using e.symm
   subst this;rw[Option.map_some,Option.map_some,dW _ _ (Ne.symm h)]
def Sr:Lo:=⟨λ _=>0,λ _=>-1,λ _=>0,-1⟩
def Ai(g:Nat->Nat->Int)(r a b:Nat)(t:Lo):Lo:=if t.v a+g a b<t.v b then { v:=j8 t.v b (t.v a+g a b),f:=j8 t.f b a,lr:=j8 t.lr b r,ch:=b } else t
def Aw(g:Nat->Nat->Int)(r a:Nat):Nat->Lo->Lo
 | 0,t=>t
 | b+1,t=>Ai g r a b (Aw g r a b t)
def Dj(g:Nat->Nat->Int)(n r:Nat):Nat->Lo->Lo
 | 0,t=>t
 | a+1,t=>Aw g r a n (Dj g n r a t)
def IY(g:Nat->Nat->Int)(n r:Nat)(s:Lo):Lo:=Dj g n r n { s with ch:=-1 }
def Lj(g:Nat->Nat->Int)(n:Nat):Nat->Nat->Lo->Lo
 | 0,_,s=>s
 | k+1,r,s=>if (IY g n (r+1) s).ch<0 then IY g n (r+1) s else Lj g n k (r+1) (IY g n (r+1) s)
def jO(g:Nat->Nat->Int)(n:Nat):Lo:=Lj g n n 0 Sr
structure GO (g:Nat->Nat->Int) (n:Nat) (G T:Int) (r a b:Nat) (s:Lo):Prop where
 lo:∀ x,x<n->-(G*(T+1))<=s.v x/\s.v x<=0
 la:a<n->-(G*T)<=s.v a
 lr:∀ x,x<n->s.lr x<=r
 f:∀ y,y<n->(s.f y=-1/\s.lr y=0)\/∃ p,p<n/\s.f y=(p:Int)/\1<=s.lr y/\s.lr y<=s.lr p+1
 ch:s.ch<0\/∃ c,c<n/\s.ch=(c:Int)/\s.lr c=r
 dn:∀ x,x<n->x<a->s.lr x<r->∀ y,y<n->s.v y<=s.v x+g x y
 nx:∀ x,x<n->a<=x->s.lr x+1<r->∀ y,y<n->s.v y<=s.v x+g x y
 cu:a<n->∀ y,y<b->s.v y<=s.v a+g a y
structure Ip (g:Nat->Nat->Int) (n:Nat) (G T:Int) (r a:Nat) (s:Lo):Prop where
 i:GO g n G T r a 0 s
 b:∀ x,x<n->-(G*T)<=s.v x
section
variable {g:Nat->Nat->Int} {n:Nat} {G T:Int} {r a b:Nat} {s:Lo}
theorem GO.Qa(h:GO g n G T r n 0 s)(hb:∀ x,x<n->-(G*T)<=s.v x):GO g n G T (r+1) 0 0 { s with ch:=-1 } :=
 ⟨h.lo,λ hn=>hb 0 hn,λ x hx=>Nat.le_succ_of_le (h.lr x hx),h.f,.inl (show(-1:Int)<0 by decide),λ x _ hx=>absurd hx (Nat.not_lt_zero x),λ x hx _ hl y hy=>h.dn x hx hx (Nat.lt_of_succ_lt_succ hl) y hy,λ _ y hy=>absurd hy (Nat.not_lt_zero y)⟩
theorem GO.Ai(h:GO g n G T r a b s)(g0:∀ a,g a a=0)(gb:∀ a b,a<n->b<n->-G<=g a b/\g a b<=G)(hr:1<=r)(ha:a<n)(hb:b<n):GO g n G T r a (b+1) (Ai g r a b s):=by
 unfold Vc.Ai
 split
 ·rename_i hlt;have hab:a≠b:=λ e=>by subst e; rw[g0 a] at hlt; omega
  have hra:r<=s.lr a+1:=by
   rcases Nat.lt_or_ge (s.lr a+1) r with h1|h1
   ·have:=h.nx a ha (Nat.le_refl a) h1 b hb;omega
   ·exact h1
  have vb:∀ x,j8 s.v b (s.v a+g a b) x<=s.v x:=λ x=>by
   by_cases e:x=b
   ·subst e; rw[bK]; omega
   ·rw[dW _ _ e]; exact Int.le_refl _
  have va:j8 s.v b (s.v a+g a b) a=s.v a:=dW _ _ hab;refine⟨λ x hx=>?_,λ _=>?_,λ x hx=>?_,λ y hy=>?_,.inr ⟨b,hb,rfl,bK _ _ _⟩,λ x hx hxa hl y hy=>?_,λ x hx hxa hl y hy=>?_,λ _ y hy=>?_⟩
  ·show -(G*(T+1))<=j8 s.v b _ x/\j8 s.v b _ x<=0;have h0:=h.lo x hx;have h1:=vb x;refine⟨?_,by omega⟩
   by_cases e:x=b
   ·subst e;rw[bK];have h2:=h.la ha;have h3:=(gb a x ha hx).1;rw[Int.mul_add,Int.mul_one];omega
   ·rw[dW _ _ e]; exact h0.1
  ·show -(G*T)<=j8 s.v b _ a;rw[va]; exact h.la ha
  ·show j8 s.lr b r x<=r
   by_cases e:x=b
   ·subst e; rw[bK]; exact Nat.le_refl _
   ·rw[dW _ _ e]; exact h.lr x hx
  ·show(j8 s.f b (a:Int) y=-1/\j8 s.lr b r y=0)\/∃ p,p<n/\j8 s.f b (a:Int) y=(p:Int)/\1<=j8 s.lr b r y/\j8 s.lr b r y<=j8 s.lr b r p+1;have up:∀ p,p<n->s.lr p<=j8 s.lr b r p:=λ p hp=>by
    by_cases e:p=b
    ·subst e; rw[bK]; exact h.lr p hp
    ·rw[dW _ _ e]; exact Nat.le_refl _
   by_cases e:y=b
   ·subst e;rw[bK,bK];exact .inr ⟨a,ha,rfl,hr,by have:=up a ha; omega⟩
   ·rw[dW _ _ e,dW _ _ e];rcases h.f y hy with h1|⟨p,hp,h1,h2,h3⟩
    ·exact .inl h1
    ·exact .inr ⟨p,hp,h1,h2,by have:=up p hp; omega⟩
  ·show j8 s.v b _ y<=j8 s.v b _ x+g x y;have hl:j8 s.lr b r x<r:=hl;have e:x≠b:=λ e=>by subst e; rw[bK] at hl; omega
   rw[dW _ _ e] at hl;rw[dW (i:=b) (j:=x) _ _ e];have:=h.dn x hx hxa hl y hy;have:=vb y;omega
  ·show j8 s.v b _ y<=j8 s.v b _ x+g x y;have hl:j8 s.lr b r x+1<r:=hl;have e:x≠b:=λ e=>by subst e; rw[bK] at hl; omega
   rw[dW _ _ e] at hl;rw[dW (i:=b) (j:=x) _ _ e];have:=h.nx x hx hxa hl y hy;have:=vb y;omega
  ·show j8 s.v b _ y<=j8 s.v b _ a+g a y;rw[va]
   by_cases e:y=b
   ·subst e; rw[bK]; exact Int.le_refl _
   ·have:=h.cu ha y (by omega);have:=vb y;omega
 ·rename_i hlt;exact⟨h.lo,h.la,h.lr,h.f,h.ch,h.dn,h.nx,λ _ y hy=>by
   by_cases e:y=b
   ·subst e; omega
   ·exact h.cu ha y (by omega)⟩
theorem GO.Aw(h:GO g n G T r a 0 s)(g0:∀ a,g a a=0)(gb:∀ a b,a<n->b<n->-G<=g a b/\g a b<=G)(hr:1<=r)(ha:a<n):∀ b,b<=n->GO g n G T r a b (Aw g r a b s)
 | 0,_=>h
 | b+1,hb=>(GO.Aw h g0 gb hr ha b (Nat.le_of_succ_le hb)).Ai g0 gb hr ha hb
theorem GO.Te(h:GO g n G T r a n s)(hG:0<=G)(ha:a<n):Ip g n G (T+1) r (a+1) s:=by
 have e:G*(T+1+1)=G*(T+1)+G:=by rw[Int.mul_add G (T+1),Int.mul_one]
 refine⟨⟨λ x hx=>?_,λ hx=>(h.lo (a+1) hx).1,h.lr,h.f,h.ch,λ x hx hxa hl y hy=>?_,λ x hx hxa hl y hy=>h.nx x hx (by omega) hl y hy,λ _ y hy=>absurd hy (Nat.not_lt_zero y)⟩,λ x hx=>(h.lo x hx).1⟩
 ·have:=h.lo x hx;rw[e];omega
 ·by_cases e:x=a
  ·subst e; exact h.cu hx y hy
  ·exact h.dn x hx (by omega) hl y hy
theorem Ip.Dj(h:Ip g n G T r 0 s)(hG:0<=G)(g0:∀ a,g a a=0)(gb:∀ a b,a<n->b<n->-G<=g a b/\g a b<=G)(hr:1<=r):∀ a,a<=n->Ip g n G (T+(a:Int)) r a (Dj g n r a s)
 | 0,_=>by rw[show T+((0:Nat):Int)=T by omega]; exact h
 | a+1,ha=>by
  have ih:=Ip.Dj h hG g0 gb hr a (Nat.le_of_succ_le ha);have:=(ih.i.Aw g0 gb hr ha n (Nat.le_refl n)).Te hG ha;rw[show T+((a+1:Nat):Int)=T+(a:Int)+1 by omega];exact this
theorem P5(hG:0<=G):Ip g n G 0 0 n Sr:=by
 refine⟨⟨λ x _=>?_,λ h=>absurd h (Nat.lt_irrefl n),λ _ _=>Nat.le_refl 0,λ _ _=>.inl ⟨rfl,rfl⟩,.inl (show(-1:Int)<0 by decide),λ _ _ _ h=>absurd h (Nat.lt_irrefl 0),λ _ _ _ h=>absurd h (Nat.not_lt_zero _),λ h=>absurd h (Nat.lt_irrefl n)⟩,λ x _=>?_⟩
 ·show -(G*(0+1))<=0/\(0:Int)<=0;rw[Int.zero_add,Int.mul_one]; omega
 ·show -(G*0)<=0;rw[Int.mul_zero]; omega
theorem P6(hG:0<=G)(g0:∀ a,g a a=0)(gb:∀ a b,a<n->b<n->-G<=g a b/\g a b<=G):∀ (k r:Nat) (T:Int) (s:Lo),r+k=n->Ip g n G T r n s->∃ r' T',Ip g n G T' r' n (Lj g n k r s)/\(0<=(Lj g n k r s).ch->r' = n)
 | 0,r,T,s,hk,h=>⟨r,T,h,λ _=>hk⟩
 | k+1,r,T,s,hk,h=>by
  have h1:Ip g n G T (r+1) 0 { s with ch:=-1 }:=⟨h.i.Qa h.b,h.b⟩;have h2:Ip g n G (T+(n:Int)) (r+1) n (IY g n (r+1) s):=h1.Dj hG g0 gb (by omega) n (Nat.le_refl n);unfold Lj
  split
  ·rename_i hc;exact⟨r+1,_,h2,λ h=>absurd h (by omega)⟩
  ·exact P6 hG g0 gb k (r+1) _ _ (by omega) h2
theorem I2(hG:0<=G)(g0:∀ a,g a a=0)(gb:∀ a b,a<n->b<n->-G<=g a b/\g a b<=G):∃ r T,Ip g n G T r n (jO g n)/\(0<=(jO g n).ch->r=n) :=
 P6 hG g0 gb n 0 0 Sr (by omega) (P5 hG)
end
end Go.Vc
namespace Go.Vc
def Ov(x:Int):List Int->Int
 | []=>x
 | y :: l=>Ov (if y<x then y else x) l
theorem FN:∀ {l:List Int} {x:Int},Ov x l<=x
 | [],x=>Int.le_refl x
 | y :: l,x=>by
  have h:Ov x (y :: l)<=if y<x then y else x:=FN (l:=l)
  refine Int.le_trans h ?_
  split<;>omega
theorem HB:∀ {l:List Int} {x y:Int},y∈l->Ov x l<=y
 | z :: l,x,y,h=>by
  rcases List.mem_cons.1 h with h|h
  ·subst h;have h:Ov x (y :: l)<=if y<x then y else x:=FN (l:=l)
   refine Int.le_trans h ?_
   split<;>omega
  ·exact HB (x:=if z<x then z else x) h
theorem Lt:∀ {l:List Int} {x:Int},Ov x l=x\/Ov x l∈l
 | [],x=>.inl rfl
 | y :: l,x=>by
  unfold Ov;rcases Lt (l:=l) (x:=if y<x then y else x) with h|h
  ·rw[h]
   split
   ·exact .inr (List.mem_cons_self ..)
   ·exact .inl rfl
  ·exact .inr (List.mem_cons_of_mem _ h)
theorem El:∀ (n:Nat) (l:List Nat),l.Nodup->(∀ x∈l,x<n)->l.length<=n
 | 0,l,_,h=>by
  cases l with
  | nil=>exact Nat.le_refl _
  | cons x l=>exact absurd (h x (List.mem_cons_self ..)) (Nat.not_lt_zero x)
 | n+1,l,hd,h=>by
  have h1:=El n (l.erase n) (hd.erase n) λ x hx=>by
   have h2:=List.mem_of_mem_erase hx;have h3:=h x h2;have h4:x≠n:=λ e=>by subst e; exact(List.Nodup.not_mem_erase hd) hx
   omega
  rw[List.length_erase] at h1
  split at h1<;>omega
section
variable (N:Nat) (g:Nat->Nat->List Int)
def dst:Nat->Nat->Int
 | 0,_=>0
 | k+1,b=>Ov (dst k b) ((List.range N).flatMap λ a=>(g a b).map λ x=>dst k a+x)
variable {N g}
theorem Kt(k b:Nat):dst N g (k+1) b<=dst N g k b:=FN
theorem DM{k a b:Nat}{x:Int}(ha:a<N)(hx:x∈g a b):dst N g (k+1) b<=dst N g k a+x :=
 HB (List.mem_flatMap.2 ⟨a,List.mem_range.2 ha,List.mem_map.2 ⟨x,hx,rfl⟩⟩)
theorem Ft(k b:Nat):dst N g (k+1) b=dst N g k b\/∃ a x,a<N/\x∈g a b/\dst N g (k+1) b=dst N g k a+x:=by
 rcases Lt (l:=(List.range N).flatMap λ a=>(g a b).map λ x=>dst N g k a+x) (x:=dst N g k b) with h|h
 ·exact .inl h
 ·obtain⟨a,ha,h2⟩:=List.mem_flatMap.1 h;obtain⟨x,hx,h3⟩:=List.mem_map.1 h2;exact .inr ⟨a,x,List.mem_range.1 ha,hx,h3.symm⟩
theorem yC{b:Nat}:∀ {j k:Nat},j<=k->dst N g k b<=dst N g j b
 | j,0,h=>by
  obtain rfl:j=0:=by omega
  exact Int.le_refl _
 | j,k+1,h=>by
  rcases Nat.lt_or_ge j (k+1) with h1|h1
  ·exact Int.le_trans (Kt k b) (yC (by omega))
  ·obtain rfl:j=k+1:=by omega
   exact Int.le_refl _
def sr(N:Nat)(g:Nat->Nat->List Int)(p:Nat->Int):Prop:=∀ a b,a<N->b<N->∀ x∈g a b,p b<=p a+x
theorem IG{p:Nat->Int}(hp:sr N g p):∀ (k b:Nat),b<N->dst N g (k+1) b<dst N g k b ->
  ∃ L:List Nat,L.length=k+1/\(b :: L).Nodup/\(∀ c∈L,c<N)/\∀ c∈L,∃ j,j<=k/\dst N g (k+1) b-dst N g j c>=p b-p c:=λ k=>by
 have fin:∀ {k b:Nat} {L:List Nat},dst N g (k+1) b<dst N g k b->(∀ c∈L,∃ j,j<=k/\dst N g (k+1) b-dst N g j c>=p b-p c)->b∉L:=λ {k b L} hlt hc hb=>by
  obtain⟨j,hj,h⟩:=hc b hb;have:=yC (N:=N) (g:=g) (b:=b) hj;omega
 induction k with
 | zero =>
  intro b hb hlt;rcases Ft (N:=N) (g:=g) 0 b with h|⟨a,x,ha,hx,h⟩
  ·omega
  ·have hc:∀ c∈[a],∃ j,j<=0/\dst N g (0+1) b-dst N g j c>=p b-p c:=λ c hc=>by
    cases List.mem_singleton.1 hc
    have:=hp a b ha hb x hx;exact⟨0,Nat.le_refl _,by rw[h]; omega⟩
   refine⟨[a],rfl,List.nodup_cons.2 ⟨fin hlt hc,by simp⟩,λ c hc=>?_,hc⟩
   cases List.mem_singleton.1 hc; exact ha
 | succ k ih =>
  intro b hb hlt;rcases Ft (N:=N) (g:=g) (k+1) b with h|⟨a,x,ha,hx,h⟩
  ·omega
  ·have h1:dst N g (k+1) a<dst N g k a:=by
    have h2:=DM (N:=N) (k:=k) ha hx;omega
   obtain⟨L,hl,hd,hN,hc⟩:=ih a ha h1;have hpa:=hp a b ha hb x hx;have hc' : ∀ c∈a :: L,∃ j,j<=k+1/\dst N g (k+1+1) b-dst N g j c>=p b-p c:=λ c hcm=>by
    rcases List.mem_cons.1 hcm with e|hm
    ·subst e;exact⟨k+1,Nat.le_refl _,by omega⟩
    ·obtain⟨j,hj,h3⟩:=hc c hm;exact⟨j,by omega,by omega⟩
   refine⟨a :: L,by simp[hl],List.nodup_cons.2 ⟨fin hlt hc',hd⟩,λ c hcm=>?_,hc'⟩;rcases List.mem_cons.1 hcm with e|hm
   ·subst e; exact ha
   ·exact hN c hm
theorem Ku{p:Nat->Int}(hp:sr N g p){k b:Nat}(hb:b<N)(hk:N<=k+1):dst N g (k+1) b=dst N g k b:=by
 rcases Int.lt_or_le (dst N g (k+1) b) (dst N g k b) with h|h
 ·obtain⟨L,hl,hd,hN,_⟩:=IG hp k b hb h;have:=El N (b :: L) hd λ x hx=>by
   rcases List.mem_cons.1 hx with e|hm
   ·subst e; exact hb
   ·exact hN x hm
  simp only[List.length_cons] at this;omega
 ·have:=Kt (N:=N) (g:=g) k b;omega
theorem Ks{p:Nat->Int}(hp:sr N g p){k:Nat}(hk:N<=k+1):sr N g (dst N g k):=λ a b ha hb x hx=>by
 have h1:=DM (N:=N) (k:=k) ha hx;rw[Ku hp hb hk] at h1;exact h1
end
section
variable {g:Nat->Nat->Int} {n r a b:Nat} {s t:Lo}
abbrev g1 (g:Nat->Nat->Int):Nat->Nat->List Int:=λ a b=>[g a b]
theorem Ju(h:(Ai g r a b t).ch<0):Ai g r a b t=t/\t.v b<=t.v a+g a b:=by
 unfold Ai at h ⊢
 split
 ·rename_i hl;rw[if_pos hl] at h;exact absurd h (by show ¬ ((b:Int)<0); omega)
 ·exact⟨rfl,by omega⟩
theorem A8:∀ {m:Nat} {t:Lo},(Aw g r a m t).ch<0->Aw g r a m t=t/\∀ b,b<m->t.v b<=t.v a+g a b
 | 0,t,_=>⟨rfl,λ b hb=>by omega⟩
 | m+1,t,h=>by
  obtain⟨h1,h2⟩:=Ju (show(Ai g r a m (Aw g r a m t)).ch<0 from h);have h3:(Aw g r a m t).ch<0:=by rw[<- h1]; exact h
  obtain⟨h4,h5⟩:=A8 h3;rw[h4] at h2;refine⟨h1.trans h4,λ b hb=>?_⟩;rcases Nat.lt_or_ge b m with h' | h'
  ·exact h5 b h'
  ·obtain rfl:b=m:=by omega
   exact h2
theorem A7:∀ {m:Nat} {t:Lo},(Dj g n r m t).ch<0->Dj g n r m t=t/\∀ a,a<m->∀ b,b<n->t.v b<=t.v a+g a b
 | 0,t,_=>⟨rfl,λ a ha=>by omega⟩
 | m+1,t,h=>by
  obtain⟨h1,h2⟩:=A8 (show(Aw g r m n (Dj g n r m t)).ch<0 from h);have h3:(Dj g n r m t).ch<0:=by rw[<- h1]; exact h
  obtain⟨h4,h5⟩:=A7 h3;rw[h4] at h2;refine⟨h1.trans h4,λ a ha=>?_⟩;rcases Nat.lt_or_ge a m with h' | h'
  ·exact h5 a h'
  ·obtain rfl:a=m:=by omega
   exact h2
theorem IZ(h:(IY g n r s).ch<0):sr n (g1 g) (IY g n r s).v:=by
 obtain⟨h1,h2⟩:=A7 h;intro a b ha hb x hx
 cases List.mem_singleton.1 hx
 have h1:IY g n r s={ s with ch:=-1 }:=h1;have e:(IY g n r s).v=s.v:=by rw[h1]
 rw[e];exact h2 a ha b hb
theorem A9:∀ {k r:Nat} {s:Lo},0<k->(Lj g n k r s).ch<0->∃ p,sr n (g1 g) p
 | k+1,r,s,_,h=>by
  unfold Lj at h
  split at h
  ·rename_i hc; exact⟨_,IZ hc⟩
  ·rename_i hc
   cases k with
   | zero=>exact absurd h hc
   | succ k=>exact A9 (Nat.succ_pos k) h
theorem Cv(h:(jO g n).ch<0):∃ p,sr n (g1 g) p:=by
 rcases Nat.eq_zero_or_pos n with h0|h0
 ·subst h0; exact⟨λ _=>0,λ a b ha=>by omega⟩
 ·exact A9 h0 h
structure M1 (g:Nat->Nat->Int) (n:Nat) (q:Nat->Int) (s t:Lo):Prop where
 le:∀ b,t.v b<=s.v b
 ge:(∀ b,b<n->q b<=s.v b)->∀ b,b<n->q b<=t.v b
theorem M1.refl{q:Nat->Int}:M1 g n q s s:=⟨λ _=>Int.le_refl _,λ h=>h⟩
theorem M1.trans{q:Nat->Int}{u:Lo}(h1:M1 g n q s t)(h2:M1 g n q t u):M1 g n q s u:=⟨λ b=>Int.le_trans (h2.le b) (h1.le b),λ h=>h2.ge (h1.ge h)⟩
theorem RO{q:Nat->Int}(hq:sr n (g1 g) q)(ha:a<n)(hb:b<n):M1 g n q t (Ai g r a b t)/\(Ai g r a b t).v b<=t.v a+g a b:=by
 unfold Ai
 split
 ·rename_i hl;refine⟨⟨λ c=>?_,λ h c hc=>?_⟩,?_⟩
  ·show j8 t.v b _ c<=t.v c
   by_cases e:c=b
   ·subst e; rw[bK]; omega
   ·rw[dW _ _ e]; exact Int.le_refl _
  ·show q c<=j8 t.v b _ c
   by_cases e:c=b
   ·subst e; rw[bK];have h1:=hq a c ha hb _ (List.mem_singleton.2 rfl);have h2:=h a ha;omega
   ·rw[dW _ _ e]; exact h c hc
  ·show j8 t.v b _ b<=_;rw[bK]; exact Int.le_refl _
 ·exact⟨.refl,by omega⟩
theorem Li{q:Nat->Int}(hq:sr n (g1 g) q)(ha:a<n):∀ {m:Nat},m<=n->M1 g n q t (Aw g r a m t)/\∀ b,b<m->(Aw g r a m t).v b<=t.v a+g a b
 | 0,_=>⟨.refl,λ b hb=>by omega⟩
 | m+1,hm=>by
  obtain⟨h1,h2⟩:=Li hq ha (m:=m) (by omega);obtain⟨h3,h4⟩:=RO (t:=Aw g r a m t) (r:=r) hq ha (show m<n by omega);refine⟨h1.trans h3,λ b hb=>?_⟩;show(Ai g r a m (Aw g r a m t)).v b<=_;rcases Nat.lt_or_ge b m with h' | h'
  ·exact Int.le_trans (h3.le b) (h2 b h')
  ·obtain rfl:b=m:=by omega
   have:=h1.le a;omega
theorem Lh{q:Nat->Int}(hq:sr n (g1 g) q):∀ {m:Nat},m<=n->M1 g n q t (Dj g n r m t)/\∀ a,a<m->∀ b,b<n->(Dj g n r m t).v b<=t.v a+g a b
 | 0,_=>⟨.refl,λ a ha=>by omega⟩
 | m+1,hm=>by
  obtain⟨h1,h2⟩:=Lh hq (m:=m) (by omega);obtain⟨h3,h4⟩:=Li (t:=Dj g n r m t) (r:=r) hq (show m<n by omega) (Nat.le_refl n);refine⟨h1.trans h3,λ a ha b hb=>?_⟩;show(Aw g r m n (Dj g n r m t)).v b<=_;rcases Nat.lt_or_ge a m with h' | h'
  ·exact Int.le_trans (h3.le b) (h2 a h' b hb)
  ·obtain rfl:a=m:=by omega
   have:=h4 b hb;have:=h1.le a;omega
theorem Ed(hf:∀ b,b<n->t.v b<=t.v a+g a b):∀ {m:Nat},m<=n->Aw g r a m t=t
 | 0,_=>rfl
 | m+1,hm=>by
  have e:=Ed hf (m:=m) (by omega);show Ai g r a m (Aw g r a m t)=t;rw[e,Ai,if_neg (by have:=hf m (by omega); omega)]
theorem Ec(hf:∀ a,a<n->∀ b,b<n->t.v b<=t.v a+g a b):∀ {m:Nat},m<=n->Dj g n r m t=t
 | 0,_=>rfl
 | m+1,hm=>by
  have e:=Ec hf (m:=m) (by omega);show Aw g r m n (Dj g n r m t)=t;rw[e]; exact Ed (hf m (by omega)) (Nat.le_refl n)
theorem Ee{p:Nat->Int}(hp:sr n (g1 g) p):∀ {k r:Nat} {s:Lo},0<k->k+r=n->(∀ b,b<n->s.v b<=dst n (g1 g) r b)->(∀ b,b<n->dst n (g1 g) (n-1) b<=s.v b)->(Lj g n k r s).ch<0
 | k+1,r,s,_,hk,h1,h2=>by
  have hq:=Ks hp (k:=n-1) (by omega);obtain⟨h3,h4⟩:=Lh (t:={ s with ch:=-1 }) (r:=r+1) hq (Nat.le_refl n);unfold Lj
  split
  ·assumption
  ·rename_i hc
   cases k with
   | zero =>
    exfalso; apply hc
    have e:∀ b,b<n->s.v b=dst n (g1 g) (n-1) b:=λ b hb=>by
     have:=h1 b hb; have:=h2 b hb;have e2:r=n-1:=by omega
     subst e2; omega
    have:IY g n (r+1) s={ s with ch:=-1 }:=Ec (λ a ha b hb=>by
     show s.v b<=s.v a+g a b;rw[e a ha,e b hb];exact hq a b ha hb _ (List.mem_singleton.2 rfl)) (Nat.le_refl n)
    rw[this];show(-1:Int)<0
    decide
   | succ k =>
    refine Ee hp (Nat.succ_pos k) (by omega) (λ b hb=>?_) (h3.ge h2);rcases Ft (N:=n) (g:=g1 g) r b with h|⟨a,x,ha,hx,h⟩
    ·rw[h]; exact Int.le_trans (h3.le b) (h1 b hb)
    ·cases List.mem_singleton.1 hx
     rw[h];have h5:=h4 a ha b hb;have h6:=h1 a ha;exact Int.le_trans h5 (Int.add_le_add_right h6 _)
theorem Cu{p:Nat->Int}(hp:sr n (g1 g) p):(jO g n).ch<0:=by
 rcases Nat.eq_zero_or_pos n with h0|h0
 ·subst h0; show(-1:Int)<0; decide
 ·exact Ee hp h0 (by omega) (λ b hb=>Int.le_refl _) λ b hb=>yC (j:=0) (by omega)
theorem Eg:(jO g n).ch<0<->∃ p,sr n (g1 g) p:=⟨Cv,λ ⟨_,h⟩=>Cu h⟩
end
end Go.Vc
namespace Go.Vc
open Go
theorem St.and{w0 w w' : World}{A B:aC}(h:St w0 w A)(k:St w w' B):St w0 w' (star B A) :=
 let ⟨_,hB,hc,hG⟩:=k
 (h.add hc hB hG).swap
theorem cB{b:Bool}{A B:Prop}(h:A)(k:B):cond b A B:=by cases b; exact k; exact h
theorem St.open{w0 w:World}{B:aC}{l:List aC}(h:St w0 w (star (Sep l) B)):St w0 w (Sep (l++[B])):=St.cat (h.eqv (bf.right (bf.unit B)))
theorem St.shut{w0 w:World}{B:aC}{l:List aC}(h:St w0 w (Sep (l++[B]))):St w0 w (star (Sep l) B):=(h.split l).eqv (bf.right (bf.unit' B))
theorem gQ.nil:gQ (Sep []) λ _=>True:=λ _ _ _=>trivial
theorem gQ.cons{A:aC}{l:List aC}{Q R:World->Prop}(h:gQ A Q)(k:gQ (Sep l) R):gQ (Sep (A :: l)) λ w=>Q w/\R w:=h.star k
theorem St.aF{w0 w:World}{l:List aC}{r:Nat}{cs:Array Value}{T:TypeId}(h:St w0 w (Sep l))(i j:Nat)(e:l[i]?=some (ai r cs T)){vs:List Value}(hv:(cs.toList.drop j).take vs.length=vs):af w ⟨r,j,none⟩ 0 vs :=
 br _ 0 λ k v hk=>by
  have hl:k<vs.length:=(List.getElem?_eq_some_iff.1 hk).1;have ha:(⟨r,j,none⟩:Addr).add (0+k)=⟨r,j+k,none⟩:=by unfold Addr.add; split<;>simp_all
  have h2:((cs.toList.drop j).take vs.length)[k]?=vs[k]?:=by rw[hv]
  rw[List.getElem?_take,if_pos hl,List.getElem?_drop,hk] at h2;rw[ha,h.ag i e]; simpa using h2
theorem St.pE{w0 w:World}{l:List aC}{x:Nat}{cs:Array Value}{T:TypeId}{R:World->Prop}(h:St w0 w (Sep l))(i j:Nat)(e:l[i]?=some (ai x cs T)){vs:List Value}(cs' : Array Value)(hn:j+vs.length<=cs.size)(h1:∀ v∈vs,v.oneCell' = true)(hc:(cs.toList.take j++vs++cs.toList.drop (j+vs.length)).toArray=cs')(k:∀ w',St w0 w' (Sep (l.set i (ai x cs' T)))->R w'):aL ⟨x,j,none⟩ 0 vs w R:=by
 obtain⟨F,⟨ho,rfl⟩,use⟩:=(h.out i e).use;refine CZ vs 0 w cs ho (by omega) h1 λ w' hb hc' _=>k w' ((use w' (ai x cs' T) ⟨[x],⟨?_,rfl⟩,hc',λ j hj=>.inl hj⟩).back (dS e));rw[hb,<- hc]; simp
theorem St.vQ{w0 w:World}{l:List aC}{Q:World->Prop}(h:St w0 w (Sep l))(hq:∀ w',Q w'):St w0 w (Sep (Vc.held Q :: l)) :=
 (h.add (ay.refl w []) (B:=Vc.held Q) (G:=[]) ⟨λ _ _ _ _=>hq _,by simp⟩ (by simp)).swap
theorem St.D0{w0 w:World}{A:aC}{l:List aC}{Q:World->Prop}(h:St w0 w (Sep (A :: l)))(k:gQ A Q):St w0 w (Sep (Vc.held Q :: l)):=h.weak (bC.left k.weak)
theorem St.qQ{w0 w:World}{A B:aC}{l:List aC}{Q R S:World->Prop}(h:St w0 w (Sep (A :: B :: l)))(hA:gQ A Q)(hB:gQ B R)(k:∀ w,Q w->R w->S w):St w0 w (Sep (Vc.held S :: l)) :=
 h.join.D0 ((hA.star hB).mono λ w ⟨h1,h2⟩=>k w h1 h2)
theorem DF{w:World}{a:Addr}{vs us:List Value}(h:af w a 0 vs)(hv:vs.take us.length=us):af w a 0 us :=
 br _ 0 λ k v hk=>aS h k v (by
  have h2:(vs.take us.length)[k]?=us[k]?:=by rw[hv]
  rwa [List.getElem?_take,if_pos (List.getElem?_eq_some_iff.1 hk).1,hk] at h2)
theorem St.Qh{w0 w:World}{A B:aC}{m:List aC}(h:St w0 w (Sep (A :: B :: m))):St w0 w (Sep [A,B,Sep m]):=h.eqv (bf.right (bf.right (bf.unit _)))
theorem St.dw{w0 w:World}{m:List aC}(l:List aC)(h:St w0 w (Sep (l++[Sep m]))):St w0 w (Sep (l++m)):=St.cat ((h.split l).eqv (bf.right (bf.unit' _)))
def rN{α:Type}(a b:List α)(k:Nat):List α:=a.take k++b.drop k
section
variable {α:Type} {a b:List α}
theorem Ek(h:a.length=b.length){k:Nat}(hk:k<=a.length):(rN a b k).length=b.length:=by
 rw[rN,List.length_append,List.length_take,List.length_drop]; omega
theorem tA(h:a.length=b.length){k:Nat}(hk:k<=a.length)(i:Nat):(rN a b k)[i]?=if i<k then a[i]? else b[i]?:=by
 have e:(a.take k).length=k:=by rw[List.length_take]; omega
 split
 ·rename_i hi;rw[rN,List.getElem?_append_left (by omega),List.getElem?_take,if_pos hi]
 ·rename_i hi;rw[rN,List.getElem?_append_right (by omega),e,List.getElem?_drop,show k+(i-k)=i by omega]
theorem Lr(h:a.length=b.length){k:Nat}{v:α}(hv:a[k]?=some v):(rN a b k).set k v=rN a b (k+1):=by
 have hk:k<a.length:=(List.getElem?_eq_some_iff.1 hv).1;refine List.ext_getElem? λ i=>?_;rw[tA h (by omega),List.getElem?_set,tA h (by omega),Ek h (by omega)]
 by_cases e:k=i
 ·subst e; rw[if_pos rfl,if_pos (by omega),if_pos (by omega),hv]
 ·rw[if_neg e]
  by_cases e2:i<k
  ·rw[if_pos e2,if_pos (by omega)]
  ·rw[if_neg e2,if_neg (by omega)]
theorem Jb(h:a.length=b.length){k:Nat}(hk:k<a.length)(hv:a[k]?=b[k]?):rN a b k=rN a b (k+1):=by
 refine List.ext_getElem? λ i=>?_;rw[tA h (by omega),tA h (by omega)]
 by_cases e:k=i
 ·subst e; rw[if_neg (by omega),if_pos (by omega),hv]
 ·by_cases e2:i<k
  ·rw[if_pos e2,if_pos (by omega)]
  ·rw[if_neg e2,if_neg (by omega)]
theorem Jc:rN a b 0=b:=by simp[rN]
theorem Ja(h:a.length=b.length):rN a b b.length=a:=by
 rw[rN,<- h,List.take_length,h,List.drop_length,List.append_nil]
end
theorem SN{a:OA}{n k:Nat}:(if n=0 then a else Option.map (λ x=>Addr.add x (0*k)) a)=a:=by
 cases a with
 | none=>simp
 | some q=>simp[Addr.add]
abbrev mC (u:I6):Value:=.agg u.vs.toArray
structure SA (P:Program) (t kt et:TypeId):Prop where
 u:P.underlying t=some (.map kt et)
 k:∃ it,P.underlying kt=some (.array 6 it)
 z:(P.info? et).bind (·.zero)=some (iv 0)
 eq:∀ u v:I6,PV P 12 kt (mC u) (mC v)=some (I6.beq u v)
 ck:∀ (b:Bool) (u:I6) (w:World),(Instr.checkKey b 10000 kt (mC u)).run P w=.ok () w
abbrev KV:=I6×Int
def kvs(es:List MapEntry):List (Value×Value):=es.map λ e=>(e.key,e.val)
def FI(l:List KV):List (Value×Value):=l.map λ p=>(mC p.1,iv p.2)
structure Dl (es:List MapEntry) (cl:Nat) (l:List KV):Prop where
 kv:kvs es=FI l
 nd:(es.map (·.born)).Nodup
 lt:∀ e∈es,e.born<cl
 ky:(l.map (·.1)).Nodup
def mapA(r:Nat)(l:List KV):aC:=QX λ (x:{ p:Array MapEntry×Nat // Dl p.1.toList p.2 l })=>aY r (.map x.1.1 x.1.2)
def jm(l:List KV)(u:I6):Option Int:=(l.find? λ p=>p.1==u).map (·.2)
section
variable {P:Program} {t kt et:TypeId} {w0 w:World} {B:aC} {r:Nat} {l:List KV}
theorem Kb(eq:∀ u v:I6,PV P 12 kt (mC u) (mC v)=some (I6.beq u v))(u:I6)(w:World):∀ (es:List MapEntry) (l:List KV) (i:Nat),kvs es=FI l ->
  (∃ v j,jm l u=some v/\(Instr.findAsking kt (mC u) es i).run P w=.ok (some (i+j,iv v)) w/\∃ e,es[j]?=some e/\e.key=mC u/\l[j]?=some (u,v)) \/
   (jm l u=none/\(Instr.findAsking kt (mC u) es i).run P w=.ok none w)
 | [],[],i,_=>.inr ⟨rfl,by simp[Instr.findAsking]⟩
 | e :: es,p :: l,i,h=>by
  simp only[kvs,FI,List.map_cons,List.cons.injEq,Prod.mk.injEq] at h;obtain⟨⟨hk,hv⟩,hr⟩:=h;have he:(Op.equal kt (mC u) e.key).run P w=.ok (I6.beq u p.1) w:=by rw[hk]; exact B9 12 kt _ _ _ Op.maxDepth (eq u p.1) (by decide)
  have hb:I6.beq u p.1=(p.1==u):=by
   rw[I6.beq_eq]
   by_cases h:u=p.1
   ·rw[decide_eq_true h,h]; simp
   ·rw[decide_eq_false h]; symm; simpa using λ h'=>h h'.symm
  by_cases hu:p.1=u
  ·have hbt:I6.beq u p.1=true:=by rw[hb,hu]; simp
   rw[hbt] at he;refine .inl ⟨p.2,0,?_,?_,e,rfl,by rw[hk,hu],?_⟩
   ·simp[jm,hu]
   ·rw[Instr.findAsking]; simp[he,hv]
   ·obtain⟨a,b⟩:=p; simp only at hu ⊢; subst hu; rfl
  ·have hbf:I6.beq u p.1=false:=by rw[hb]; simpa using hu
   rw[hbf] at he;have hv' : jm (p :: l) u=jm l u:=by
    unfold jm;rw[List.find?_cons];have:(p.1==u)=false:=by simpa using hu
    rw[this]
   rcases Kb eq u w es l (i+1) hr with⟨v,j,h1,h2,e',h3,h4,h5⟩|⟨h1,h2⟩
   ·refine .inl ⟨v,j+1,by rw[hv',h1],?_,e',by simpa using h3,h4,by simpa using h5⟩;rw[Instr.findAsking]; simp[he,h2]; omega
   ·exact .inr ⟨by rw[hv',h1],by rw[Instr.findAsking]; simp[he,h2]⟩
 | [],_ :: _,_,h=>by simp[kvs,FI] at h
 | _ :: _,[],_,h=>by simp[kvs,FI] at h
theorem DU(hT:SA P t kt et)(u:I6)(w:World){es:List MapEntry}(h:kvs es=FI l) :
  (∃ v j,jm l u=some v/\(Instr.findKey kt (mC u) es).run P w=.ok (some (j,iv v)) w/\∃ e,es[j]?=some e/\e.key=mC u/\l[j]?=some (u,v))\/(jm l u=none/\(Instr.findKey kt (mC u) es).run P w=.ok none w):=by
 obtain⟨it,hk⟩:=hT.k;have hf:(Instr.findKey kt (mC u) es).run P w=(Instr.findAsking kt (mC u) es).run P w:=by
  cases es with
  | nil=>simp[Instr.findKey,aH hk,Instr.findNow,Instr.findAsking]
  | cons e es=>simp[Instr.findKey,aH hk,Instr.findNow,Instr.sameNow]
 rw[hf];rcases Kb hT.eq u w es l 0 h with⟨v,j,h1,h2,h3⟩|h1
 ·exact .inl ⟨v,j,h1,by rw[h2,Nat.zero_add],h3⟩
 ·exact .inr h1
theorem Ef(hT:SA P t kt et)(s:St w0 w (star (mapA r l) B))(u:I6){R:Int->World->Prop}(h:R ((jm l u).getD 0) w) :
  aV P (Instr.lookup t (.map (some r)) (mC u) false) w λ e w'=>∃ n:Int,e=iv n/\R n w':=by
 obtain⟨⟨⟨es,cl⟩,hok⟩,s'⟩:=s.ex;have ho:w.heap[r]?=some (.map es cl):=s'.obj;have hz:(zeroValue et).run P w=.ok (iv 0) w:=by
  have:=hT.z
  cases hi:P.info? et with
  | none=>simp[hi] at this
  | some i=>simp[hi] at this; simp[zeroValue,typeInfo,hi,this]
 have hc:=hT.ck es.isEmpty u w;rcases DU hT u w hok.kv with⟨v,j,h1,h2,_⟩|⟨h1,h2⟩
 ·refine⟨iv v,w,?_,v,rfl,by rwa [h1] at h⟩;simp[Instr.lookup,aH hT.u,ho,hc,h2,getObj,Sem.run]
 ·refine⟨iv 0,w,?_,0,rfl,by rwa [h1] at h⟩;simp[Instr.lookup,aH hT.u,ho,hc,h2,hz,getObj,Sem.run]
def xd(l:List KV)(u:I6)(v:Int):List KV:=if (jm l u).isSome then l.map λ p=>if p.1=u then (u,v) else p else l++[(u,v)]
theorem Pe{l:List KV}(hn:(l.map (·.1)).Nodup){u:I6}{v v0:Int}{j:Nat}(hj:l[j]?=some (u,v0)):l.map (λ p=>if p.1=u then (u,v) else p)=l.set j (u,v):=by
 have hlt:=(List.getElem?_eq_some_iff.1 hj).1;refine List.ext_getElem? λ i=>?_;rw[List.getElem?_map,List.getElem?_set]
 by_cases e:j=i
 ·subst e; rw[if_pos rfl,if_pos hlt,hj]; simp
 ·rw[if_neg e]
  cases hi:l[i]? with
  | none=>rfl
  | some p =>
   have hil:=(List.getElem?_eq_some_iff.1 hi).1;have hne:p.1≠u:=λ h=>by
    have h1:(l.map (·.1))[j]?=some u:=by rw[List.getElem?_map,hj]; rfl
    have h2:(l.map (·.1))[i]?=some u:=by rw[List.getElem?_map,hi]; simp[h]
    exact e ((List.getElem?_inj (by simpa using hlt) hn).1 (h1.trans h2.symm))
   simp[hne]
theorem BI{l:List KV}{u:I6}(h:jm l u=none):∀ p∈l,p.1≠u:=λ p hp e=>by
 unfold jm at h;rw[Option.map_eq_none_iff,List.find?_eq_none] at h;exact h p hp (by simpa using e)
theorem ML{l:List KV}(hn:(l.map (·.1)).Nodup){p:KV}(hp:p∈l):jm l p.1=some p.2:=by
 induction l with
 | nil=>cases hp
 | cons q l ih =>
  simp only[List.map_cons,List.nodup_cons] at hn;unfold jm;rw[List.find?_cons];rcases List.mem_cons.1 hp with rfl|h
  ·simp
  ·have hne:q.1≠p.1:=λ e=>hn.1 (by rw[e]; exact List.mem_map_of_mem h);have:(q.1==p.1)=false:=by simpa using hne
   rw[this];exact ih hn.2 h
theorem BJ{l:List KV}{u:I6}{v:Int}(h:jm l u=some v):(u,v)∈l:=by
 unfold jm at h;rw[Option.map_eq_some_iff] at h;obtain⟨p,h1,h2⟩:=h;have hm:=List.mem_of_find?_eq_some h1;have hu:=List.find?_some h1;obtain⟨a,b⟩:=p;simp only[beq_iff_eq] at hu;simp only at h2;subst hu h2; exact hm
theorem MM(l:List KV)(u x:I6)(v:Int):jm (xd l u v) x=if x=u then some v else jm l x:=by
 unfold xd
 cases hs:jm l u with
 | none =>
  have hn:=BI hs;rw[if_neg (by simp)];unfold jm;rw[List.find?_append]
  by_cases hx:x=u
  ·subst hx;have:l.find? (λ p=>p.1==x)=none:=by rw[List.find?_eq_none]; intro p hp; simpa using hn p hp
   rw[this]; simp
  ·rw[if_neg hx];have:(u==x)=false:=by simpa using λ h=>hx h.symm
   simp[this]
 | some v0 =>
  rw[if_pos (show(some v0).isSome=true from rfl)];have hm:=BJ hs;clear hs;unfold jm
  by_cases hx:x=u
  ·subst hx;rw[if_pos rfl]
   induction l with
   | nil=>cases hm
   | cons q l ih =>
    rw[List.map_cons,List.find?_cons]
    by_cases hq:q.1=x
    ·simp[hq]
    ·have:(q.1==x)=false:=by simpa using hq
     simp only[if_neg hq,this];refine ih ?_;rcases List.mem_cons.1 hm with rfl|h
     ·exact absurd rfl hq
     ·exact h
  ·rw[if_neg hx];clear hm
   induction l with
   | nil=>rfl
   | cons q l ih =>
    rw[List.map_cons,List.find?_cons,List.find?_cons]
    by_cases hq:q.1=u
    ·have h1:(u==x)=false:=by simpa using λ h=>hx h.symm
     have h2:(q.1==x)=false:=by rw[hq]; exact h1
     simp only[if_pos hq,h1,h2]; exact ih
    ·simp only[if_neg hq]
     cases h:(q.1==x) with
     | true=>rfl
     | false=>exact ih
theorem JA(u:I6):Instr.sameBits 10000 (mC u) (mC u)=true:=by
 rw[show(10000:Nat)=9998+1+1 from rfl];simp[Instr.sameBits,I6.vs]
theorem OY(hT:SA P t kt et)(s:St w0 w (star (mapA r l) B))(u:I6)(v:Int){R:World->Prop}(h:∀ w',St w0 w' (star (mapA r (xd l u v)) B)->R w') :
  aV P (Instr.mapUpdate t (.map (some r)) (mC u) (iv v)) w λ _ w'=>R w':=by
 obtain⟨⟨⟨es,cl⟩,hok⟩,s'⟩:=s.ex;have ho:w.heap[r]?=some (.map es cl):=s'.obj;have hc:=hT.ck false u w;rcases DU hT u w hok.kv with⟨v0,j,h1,h2,e0,h3,h4,h5⟩|⟨h1,h2⟩
 ·have hj:=(List.getElem?_eq_some_iff.1 h3).1;have hes:es[j]?=some e0:=by simpa using h3
  have hs:=s'.put (.map (es.modify j λ e=>{ e with key:=mC u,val:=iv v }) cl);have hr:(Instr.mapUpdate t (.map (some r)) (mC u) (iv v)).run P w=.ok () { w with heap:=w.heap.setIfInBounds r (.map (es.modify j λ e=>{ e with key:=mC u,val:=iv v }) cl) }:=by
   simp[Instr.mapUpdate,aH hT.u,ho,hc,h2,hes,h4,Instr.keyThatStays,JA,setObj,getObj,Sem.run]
  suffices H:Dl (es.modify j λ e=>{ e with key:=mC u,val:=iv v }).toList cl (xd l u v) from
   ⟨_,_,hr,h _ (St.wT (f:=λ (x:{ p:Array MapEntry×Nat // Dl p.1.toList p.2 (xd l u v) })=>aY r (.map x.1.1 x.1.2)) ⟨(_,_),H⟩ hs)⟩
  have esl:xd l u v=l.set j (u,v):=by rw[xd,if_pos (by rw[h1]; rfl),Pe hok.ky h5]
  have em:(es.modify j λ e=>{ e with key:=mC u,val:=iv v }).toList=es.toList.set j { e0 with key:=mC u,val:=iv v }:=by
   rw[Array.toList_modify];refine List.ext_getElem? λ i=>?_;rw[List.getElem?_modify,List.getElem?_set]
   by_cases e:j=i
   ·subst e; rw[if_pos rfl,if_pos hj,h3]; simp
   ·rw[if_neg e]; cases es.toList[i]? <;> simp[e]
  rw[em,esl];have hkv:=hok.kv;refine⟨?_,?_,?_,?_⟩
  ·unfold kvs FI at hkv ⊢;rw[List.map_set,List.map_set,hkv]
  ·rw[List.map_set];have:(es.toList.map (·.born)).set j e0.born=es.toList.map (·.born):=by
    refine List.ext_getElem? λ i=>?_;rw[List.getElem?_set]
    split
    ·rename_i e; subst e; rw[List.getElem?_map,h3,if_pos (by rw[List.length_map]; exact hj)]; rfl
    ·rfl
   show((es.toList.map (·.born)).set j e0.born).Nodup;rw[this]; exact hok.nd
  ·intro e he;rcases List.mem_or_eq_of_mem_set he with he|rfl
   ·exact hok.lt e he
   ·exact hok.lt e0 (List.mem_of_getElem? h3)
  ·rw[List.map_set];have:(l.map (·.1)).set j u=l.map (·.1):=by
    refine List.ext_getElem? λ i=>?_;rw[List.getElem?_set]
    split
    ·rename_i e; subst e;have:=(List.getElem?_eq_some_iff.1 h5).1;rw[List.getElem?_map,h5]; simp[this]
    ·rfl
   show((l.map (·.1)).set j u).Nodup;rw[this]; exact hok.ky
 ·have hs:=s'.put (.map (es.push { key:=mC u,val:=iv v,born:=cl }) (cl+1));have hr:(Instr.mapUpdate t (.map (some r)) (mC u) (iv v)).run P w=.ok () { w with heap:=w.heap.setIfInBounds r (.map (es.push { key:=mC u,val:=iv v,born:=cl }) (cl+1)) }:=by
   simp[Instr.mapUpdate,aH hT.u,ho,hc,h2,setObj,getObj,Sem.run]
  suffices H:Dl (es.push { key:=mC u,val:=iv v,born:=cl }).toList (cl+1) (xd l u v) from
   ⟨_,_,hr,h _ (St.wT (f:=λ (x:{ p:Array MapEntry×Nat // Dl p.1.toList p.2 (xd l u v) })=>aY r (.map x.1.1 x.1.2)) ⟨(_,_),H⟩ hs)⟩
  have esl:xd l u v=l++[(u,v)]:=by rw[xd,if_neg (by rw[h1]; decide)]
  rw[esl];have et:(es.push { key:=mC u,val:=iv v,born:=cl }).toList=es.toList++[{ key:=mC u,val:=iv v,born:=cl }]:=by simp
  rw[et];refine⟨?_,?_,?_,?_⟩
  ·have:=hok.kv; unfold kvs FI at this ⊢; rw[List.map_append,List.map_append,this]; rfl
  ·rw[List.map_append,List.nodup_append];refine⟨hok.nd,by simp,λ a ha b hb=>?_⟩;obtain⟨e,he,rfl⟩:=List.mem_map.1 ha;have:=hok.lt e he;simp at hb; omega
  ·intro e he;rcases List.mem_append.1 he with he|he
   ·have:=hok.lt e he; omega
   ·rw[List.mem_singleton.1 he]; show cl<cl+1; omega
  ·rw[List.map_append,List.nodup_append];refine⟨hok.ky,by simp,λ a ha b hb=>?_⟩;obtain⟨p,hp,rfl⟩:=List.mem_map.1 ha;have:=BI h1 p hp;simp at hb; subst hb; exact this
end
theorem qR{α:Type}[BEq α][LawfulBEq α]:∀ {l m:List α},l.Nodup->(∀ x∈l,x∈m)->l.length<=m.length
 | [],_,_,_=>Nat.zero_le _
 | x :: l,m,hd,h=>by
  rw[List.nodup_cons] at hd;have hx:=h x (by simp);have:=qR (l:=l) (m:=m.erase x) hd.2 λ y hy=>by
   refine(List.mem_erase_of_ne ?_).2 (h y (by simp[hy]));rintro rfl; exact hd.1 hy
  rw[List.length_erase_of_mem hx] at this;have:=List.length_pos_of_mem hx;simp only[List.length_cons]; omega
theorem N9{u v:I6}(h:mC u=mC v):u=v:=by
 cases u; cases v
 simp only[mC,I6.vs,Value.agg.injEq,Array.mk.injEq,List.cons.injEq,Value.int.injEq,true_and,and_true] at h;obtain⟨rfl,rfl,rfl,rfl,rfl,rfl⟩:=h; rfl
theorem born_inj:∀ {es:List MapEntry},(es.map (·.born)).Nodup->∀ {a b:MapEntry},a∈es->b∈es->a.born=b.born->a=b
 | e :: es,hn,a,b,ha,hb,h=>by
  rw[List.map_cons,List.nodup_cons] at hn;rcases List.mem_cons.1 ha with ea|ha'
  ·rcases List.mem_cons.1 hb with eb|hb'
   ·rw[ea,eb]
   ·exact absurd (by rw[<- ea,h]; exact List.mem_map_of_mem hb') hn.1
  ·rcases List.mem_cons.1 hb with eb|hb'
   ·exact absurd (by rw[<- eb,<- h]; exact List.mem_map_of_mem ha') hn.1
   ·exact born_inj hn.2 ha' hb' h
theorem Lc{es:List MapEntry}{l:List KV}(h:kvs es=FI l):es.length=l.length:=by
 have:=congrArg List.length h;simpa[kvs,FI] using this
theorem P0{es:List MapEntry}{l:List KV}(h:kvs es=FI l){e:MapEntry}(he:e∈es):∃ p∈l,e.key=mC p.1/\e.val=iv p.2:=by
 have h1:(e.key,e.val)∈kvs es:=List.mem_map_of_mem (f:=λ e:MapEntry=>(e.key,e.val)) he;rw[h] at h1;obtain⟨p,hp,hh⟩:=List.mem_map.1 h1;simp only[Prod.mk.injEq] at hh;exact⟨p,hp,hh.1.symm,hh.2.symm⟩
theorem Ta{es:List MapEntry}{l:List KV}(h:kvs es=FI l){p:KV}(hp:p∈l):∃ e∈es,e.key=mC p.1/\e.val=iv p.2:=by
 have h1:(mC p.1,iv p.2)∈FI l:=List.mem_map_of_mem (f:=λ p:KV=>(mC p.1,iv p.2)) hp;rw[<- h] at h1;obtain⟨e,he,hh⟩:=List.mem_map.1 h1;simp only[Prod.mk.injEq] at hh;exact⟨e,he,hh.1,hh.2⟩
structure SB (es:List MapEntry) (seen:List Nat) (S:List KV) (vis:List MapEntry):Prop where
 sn:seen=vis.map (·.born)
 nd:seen.Nodup
 sub:∀ e∈vis,e∈es
 kv:kvs vis=FI S
structure T8 (l S:List KV) where
 es:Array MapEntry
 cl:Nat
 seen:Array Nat
 vis:List MapEntry
 ok:Dl es.toList cl l
 vk:SB es.toList seen.toList S vis
def yO(r it:Nat)(l S:List KV):aC:=QX λ (x:T8 l S)=>star (aY it (.mapIter (some r) x.cl x.seen x.cl)) (aY r (.map x.es x.cl))
section
variable {P:Program} {t kt et:TypeId} {w0 w:World} {B:aC} {r it:Nat} {l S:List KV}
theorem lB(hT:SA P t kt et)(s:St w0 w (star (mapA r l) B)){R:Nat->World->Prop}(k:∀ it w',St w0 w' (star (yO r it l []) B)->R it w') :
  aV P (Instr.range t (.map (some r))) w λ e w'=>∃ it:Nat,e=.pointer (some ⟨it,0,none⟩)/\R it w':=by
 obtain⟨⟨⟨es,cl⟩,hok⟩,s'⟩:=s.ex;have ho:w.heap[r]?=some (.map es cl):=s'.obj;have hr:(Instr.range t (.map (some r))).run P w=.ok (.pointer (some ⟨w.heap.size,0,none⟩)) (w.alloc (.mapIter (some r) cl #[] cl)):=by
  simp[Instr.range,aH hT.u,ho,getObj,Sem.run]
 refine⟨_,_,hr,_,rfl,k _ _ ?_⟩;have s2:=(s'.newObj (.mapIter (some r) cl #[] cl)).swap;exact St.wT (f:=λ (x:T8 l [])=>star (aY w.heap.size (.mapIter (some r) x.cl x.seen x.cl)) (aY r (.map x.es x.cl))) ⟨es,cl,#[],[],hok,⟨rfl,by simp,by simp,rfl⟩⟩ (s2.eqv bf.assoc')
theorem St.yP(s:St w0 w (star (yO r it l S) B)):St w0 w (star (mapA r l) B):=by
 obtain⟨x,s'⟩:=s.ex;exact St.wT (f:=λ (x:{ p:Array MapEntry×Nat // Dl p.1.toList p.2 l })=>aY r (.map x.1.1 x.1.2)) ⟨(x.es,x.cl),x.ok⟩ (s'.assoc.second)
theorem oR{ty:TypeId}(s:St w0 w (star (yO r it l S) B)){K:World->Prop}{F:I6->Int->World->Prop}(hend:(∀ p∈l,p∈S)->K w)(hstep:∀ p∈l,S.length<l.length->∀ w',St w0 w' (star (yO r it l (S++[p])) B)->F p.1 p.2 w') :
  aV P (Instr.next (.pointer (some ⟨it,0,none⟩)) false ty) w λ e w'=>(e=.tuple #[.bool false]/\K w')\/∃ v1 v2:Value,e=.tuple #[.bool true,v1,v2] /\
   aV P (Instr.entry (.pointer (some ⟨it,0,none⟩))) w' λ e' w''=>∃ (u:I6) (n:Int),e' = .tuple #[mC u,iv n]/\F u n w'':=by
 obtain⟨x,s'⟩:=s.ex;have hi:w.heap[it]?=some (.mapIter (some r) x.cl x.seen x.cl):=s'.assoc.obj;have hm:w.heap[r]?=some (.map x.es x.cl):=s'.assoc.Jv.obj;have kvE:=x.ok.kv;have kvV:=x.vk.kv;rcases run_next_at (P:=P) w ty it r x.cl x.cl x.seen x.es x.cl hi hm x.ok.lt (Nat.le_refl _) with⟨h0,hr⟩|⟨e,he,w1,hw1,hr⟩
 ·refine⟨_,w,hr,.inl ⟨rfl,hend λ p hp=>?_⟩⟩;obtain⟨e,he,hk,hv⟩:=Ta kvE hp;have hs:e.born∈x.seen.toList:=by
   by_cases hc:e.born∈x.seen.toList
   ·exact hc
   ·have:e∈leftOf x.es x.seen:=by
     unfold leftOf;simp only[Array.mem_filter,Array.mem_toList_iff] at *;exact⟨he,by simpa using hc⟩
    rw[Array.eq_empty_of_size_eq_zero h0] at this;simp at this
  rw[x.vk.sn] at hs;obtain⟨e',he',hb⟩:=List.mem_map.1 hs;have ee:=born_inj x.ok.nd (x.vk.sub e' he') he hb;subst ee;obtain⟨q,hq,hk2,hv2⟩:=P0 kvV he';have h1:q.1=p.1:=N9 (hk2.symm.trans hk);have h2:q.2=p.2:=by
   have:=hv2.symm.trans hv
   injection this
  have:q=p:=Prod.ext h1 h2;rw[<- this]; exact hq
 ·have hel:e∈x.es.toList/\e.born∉x.seen.toList:=by
   unfold leftOf at he;simp only[Array.toList_filter,List.mem_filter] at he;exact⟨he.1,by simpa using he.2⟩
  obtain⟨p,hp,hk,hv⟩:=P0 kvE hel.1;have s1:St w0 w1 (star (star (aY it (.mapIter (some r) x.cl x.seen x.cl)) (aY r (.map x.es x.cl))) B):=by
   rcases hw1 with rfl|rfl
   ·exact s'
   ·exact s'.quiet (ay.drew w [])
  have s2:St w0 (w1.putObj it (.mapIter (some r) x.cl (x.seen.push e.born) x.cl)) (star (aY it (.mapIter (some r) x.cl (x.seen.push e.born) x.cl)) (star (aY r (.map x.es x.cl)) B)):=s1.assoc.put _;have e2:ChangeMaps.setBlock w1 it (.mapIter (some r) x.cl (x.seen.push e.born) x.cl)=w1.putObj it (.mapIter (some r) x.cl (x.seen.push e.born) x.cl):=rfl;rw[e2] at hr;refine⟨_,_,hr,.inr ⟨_,_,rfl,?_⟩⟩;have he2:=run_entry_at (P:=P) _ it r x.cl x.seen x.es x.cl e s2.obj s2.Jv.obj hel.1 x.ok.nd;have nd2:(x.seen.toList++[e.born]).Nodup:=by
   rw[List.nodup_append];refine⟨x.vk.nd,by simp,λ a ha b hb=>?_⟩;simp at hb; subst hb;rintro rfl; exact hel.2 ha
  have hlen:S.length<l.length:=by
   have h1:=Lc kvV;have h2:=Lc kvE;have h3:(x.seen.toList++[e.born]).length<=(x.es.toList.map (·.born)).length:=qR nd2 λ b hb=>by
    rcases List.mem_append.1 hb with hb|hb
    ·rw[x.vk.sn] at hb;obtain⟨e',he',rfl⟩:=List.mem_map.1 hb;exact List.mem_map_of_mem (x.vk.sub e' he')
    ·rw[List.mem_singleton.1 hb]; exact List.mem_map_of_mem hel.1
   rw[List.length_append,List.length_map,x.vk.sn,List.length_map,List.length_singleton] at h3;omega
  refine⟨_,_,he2,p.1,p.2,by rw[hk,hv],hstep p hp hlen _ ?_⟩;refine St.wT (f:=λ (x:T8 l (S++[p]))=>star (aY it (.mapIter (some r) x.cl x.seen x.cl)) (aY r (.map x.es x.cl))) ⟨x.es,x.cl,x.seen.push e.born,x.vis++[e],x.ok,⟨?_,?_,?_,?_⟩⟩ (s2.eqv bf.assoc')
  ·have:=x.vk.sn; rw[List.map_append,<- this]; simp
  ·simpa using nd2
  ·intro y hy;rcases List.mem_append.1 hy with hy|hy
   ·exact x.vk.sub y hy
   ·rw[List.mem_singleton.1 hy]; exact hel.1
  ·have hkv:=kvV;unfold kvs FI at hkv ⊢;rw[List.map_append,List.map_append,hkv,List.map_singleton,List.map_singleton,hk,hv]
end
section
variable {P:Program} {w0 w:World} {l:List aC}
theorem EL{t:TypeId}(ht:P.underlying t=some .string)(s:St w0 w (Sep l))(b:ByteArray){R:Nat->World->Prop}(k:∀ r w',St w0 w' (Sep (aY r (.stringIter b 0) :: l))->R r w') :
  aV P (Instr.range t (.string b)) w λ e w'=>∃ r:Nat,e=.pointer (some ⟨r,0,none⟩)/\R r w':=by
 have hr:(Instr.range t (.string b)).run P w=.ok (.pointer (some ⟨w.heap.size,0,none⟩)) (w.alloc (.stringIter b 0)):=by
  simp[Instr.range,aH ht]
 exact⟨_,_,hr,_,rfl,k _ _ (s.Ru _)⟩
theorem FP{t:TypeId}{r pos:Nat}{b:ByteArray}(s:St w0 w (Sep l))(i:Nat)(e:l[i]?=some (aY r (.stringIter b pos))){K:World->Prop}{F:Int->Int->World->Prop}(h0:b.size<=pos->K w)(h1:pos<b.size->∀ w',St w0 w' (Sep (l.set i (aY r (.stringIter b (pos+(Utf8.decode b pos).2)))))->F pos ((Utf8.decode b pos).1:Int) w') :
  aV P (Instr.next (.pointer (some ⟨r,0,none⟩)) true t) w λ e w'=>(e=.tuple #[.bool false]/\K w')\/∃ n c:Int,e=.tuple #[.bool true,iv n,.int .i32 c]/\F n c w':=by
 have ho:=s.hU i e
 by_cases hp:pos<b.size
 ·refine⟨_,_,?_,.inr ⟨_,_,rfl,h1 hp _ (s.putAt i e _)⟩⟩;simp[Instr.next,ho,hp,getObj,setObj,Sem.run,goInt];rfl
 ·refine⟨_,w,?_,.inl ⟨rfl,h0 (by omega)⟩⟩;simp[Instr.next,ho,hp,getObj,Sem.run]
end
end Go.Vc
namespace Go.Proofs.YtbnolaiklhbkkaaGreatDoor
open Go Go.Vc _root_.Go.Proofs.Tryz
def HM(a:Int)(w:World)(K:KP):=cond (decide (a>=48)) (K (.bool (decide (a<=57))) w) (K (.bool false) w)
theorem F4{n1 w K}(h:HM n1 w K):CP 190 #[.int .i32 n1] w K:=ah (aA []) func190 (by kernel_rfl) (by kernel_rfl) h
def Ew(a:Int)(w:World)(K:KP):=cond (decide (a>=97)) (K (.bool (decide (a<=122))) w) (K (.bool false) w)
theorem Ex{n1 w K}(h:Ew n1 w K):CP 156 #[.int .i32 n1] w K:=ah (aA []) func156 (by kernel_rfl) (by kernel_rfl) h
def HN(a:Int)(w:World)(K:KP):=CC 156 #[.int .i32 a] w λ b c=>∃ d,b=.returned (.bool d)/\cond d (K (.bool true) c) (CC 190 #[.int .i32 a] c λ b c=>∃ d,b=.returned (.bool d)/\cond d (K (.bool true) c) (K (.bool (a==95)) c))
theorem F7{n1 w K}(h:HN n1 w K):CP 158 #[.int .i32 n1] w K:=ah (aA []) func158 (by kernel_rfl) (by kernel_rfl) h
def LM(a:ByteArray)(b:Int)(c:Value)(w:World)(K:KP):=∃ d:Int->qN,(∃ e,d b w e)/\∀ f e g,d g f e->∀ h:qv,∃ h:Bool->qW,(∀ i j,h j i->∀ k:qv,cond j (∃ j,j<e/\d (IntKind.i64.wrap (g+1)) i j) (0<=g/\g<=((a.size:Nat):Int)/\0<=b/\b<=(((g).toNat:Nat):Int)/\K (.string (a.extract ((b).toNat) ((g).toNat))) i))/\cond (decide (g<((a.size:Nat):Int))) (0<=g/\an a[(g).toNat]? λ a=>cU prog c #[.int .i32 (IntKind.i32.wrap (a.toNat:Int))] f λ a b=>∃ c,a=.returned (.bool c)/\h c b) (h false f)
theorem Ey{s1 n1 v1 w K}(h:LM s1 n1 v1 w K):CP 157 #[.string s1,iv n1,v1] w K:=ah (aA [(28,[(7,.s (.int .i64))]),(112,[(20,.s .bool)])]) func157 (by kernel_rfl) (by kernel_rfl) h
def Et(a:ByteArray)(w:World)(K:KP):=cond (!(a.toList==(bs []).toList)) (cond (decide (((a.size:Nat):Int)<=(12:Int))) (0<=(0:Int)/\an a[((0:Int)).toNat]? λ b=>CC 156 #[.int .i32 (IntKind.i32.wrap (b.toNat:Int))] w λ b c=>∃ d,b=.returned (.bool d)/\cond d (CC 157 #[.string a,qz,.func (.func 158) #[] #[]] c λ b d=>∃ e,b=.returned (.string e)/\K (.bool (e.toList==a.toList)) d) (K (.bool false) c)) (K (.bool false) w)) (K (.bool false) w)
theorem Eu{s1 w K}(h:Et s1 w K):CP 115 #[.string s1] w K:=ah (aA []) func115 (by kernel_rfl) (by kernel_rfl) h
def HL(a:I6)(w:World)(K:KP):=aq w (.cells a.vs.toArray 44) λ a b=>∃ c:I6,af b (qd a 0) 0 c.vs/\CC 65 #[.agg c.vs.toArray] b λ b c=>∃ d,b=.returned (iv d)/\cond (d !=0) (K qz c) (∃ b:I6,af c (qd a 0) 0 b.vs/\∃ a:Int->Int->qN,(∃ d,a 1 (0:Int) c d)/\∀ c d e f,a e f c d->∀ g:qv,cond (decide (f<6)) (0<=f/\f<6/\∃ g,(b.vs.toArray:Array Value)[(f).toNat*1]?=some (iv g)/\∃ b,b<d/\a (IntKind.i64.wrap (e*(IntKind.i64.wrap (g+1)))) (IntKind.i64.wrap (f+1)) c b) (cond (decide (e>1024)) (K qz c) (K (iv e) c)))
theorem F0{u1 w K}(h:HL u1 w K):CP 90 #[.agg u1.vs.toArray] w K:=ah (aA [(122,[(3,.s (.int .i64)),(10,.s (.int .i64))])]) func90 (by kernel_rfl) (by kernel_rfl) h
def HH(a:I6)(w:World)(K:KP):=aq w (.cells a.vs.toArray 44) λ a b=>∃ c:I6,af b (qd a 0) 0 c.vs/\∃ a:Int->qN,(∃ d,a 0 b d)/\∀ b d e,a e b d->∀ f:qv,cond (decide (e<6)) (0<=e/\e<6/\∃ f,(c.vs.toArray:Array Value)[(e).toNat*1]?=some (iv f)/\∃ c:Bool->qW,(∀ g h,c h g->∀ i:qv,cond h (K (iv 4) g) (∃ h,h<d/\a (IntKind.i64.wrap (e+1)) g h))/\cond (decide (f<0)) (c true b) (c (decide (f>4)) b)) (K qz b)
theorem FV{u1 w K}(h:HH u1 w K):CP 65 #[.agg u1.vs.toArray] w K:=ah (aA [(26,[(6,.s (.int .i64))]),(1689,[(14,.s .bool)])]) func65 (by kernel_rfl) (by kernel_rfl) h
def Bk(a b c:Int)(w:World)(K:KP):=cond (decide (a>=b)) (K (.bool (decide (a<=c))) w) (K (.bool false) w)
theorem CE{n1 n2 n3 w K}(h:Bk n1 n2 n3 w K):CP 117 #[iv n1,iv n2,iv n3] w K:=ah (aA []) func117 (by kernel_rfl) (by kernel_rfl) h
def F5(a:OA)(b c:Nat)(d:ByteArray)(w:World)(K:KP):=∃ c:Int->qN,(∃ e,c 0 w e)/\∀ f e g,c g f e->∀ h:qv,cond (decide (g<(b:Int))) (an a λ a=>0<=g/\g<(b:Int)/\∃ b h i j k,af f (Addr.add a ((g).toNat*5)) 0 [.string b,iv h,iv i,iv j,iv k]/\aq f (.cells #[.string (bs []),qz,qz,qz,qz] 94) λ a l=>aL (qd a 0) 0 [.string b,iv h,iv i,iv j,iv k] l λ b=>∃ h,b.cell? (qd a 0)=some (.string h)/\cond (h.toList==d.toList) (K (.tuple #[iv g,.bool true]) b) (∃ a,a<e/\c (IntKind.i64.wrap (g+1)) b a)) (K (.tuple #[qz,.bool false]) f)
theorem Bl{a1 l1 c1 s1 w K}(h:F5 a1 l1 c1 s1 w K):CP 116 #[.slice a1 l1 c1,.string s1] w K:=ah (aA [(26,[(10,.s (.int .i64))])]) func116 (by kernel_rfl) (by kernel_rfl) h
def Ez(a:OA)(b c:Nat)(w:World)(K:KP):=aq w (.cells z6.vs.toArray 44) λ c d=>aq d (.cells z6.vs.toArray 44) λ d e=>∃ f:Int->qN,(∃ g,f 0 e g)/\∀ e g h,f h e g->∀ i:qv,cond (decide (h<(b:Int))) (∃ i:qW,(∀ j,i j->∀ k:qv,∃ k,k<g/\f (IntKind.i64.wrap (h+1)) j k)/\an a λ a=>0<=h/\h<(b:Int)/\∃ b f g j k,af e (Addr.add a ((h).toNat*5)) 0 [.string b,iv f,iv g,iv j,iv k]/\aq e (.cells #[.string (bs []),qz,qz,qz,qz] 94) λ a l=>aL (qd a 0) 0 [.string b,iv f,iv g,iv j,iv k] l λ b=>cond (decide (h<6)) (∃ f,b.cell? (qd a 1)=some (iv f)/\0<=h/\h<6/\aP b (Addr.add (qd d 0) ((h).toNat*1)) (iv f) λ a=>i a) (i b)) (∃ a:I6,af e (qd d 0) 0 a.vs/\aL (qd c 0) 0 a.vs e λ a=>∃ b:I6,af a (qd c 0) 0 b.vs/\K (.agg b.vs.toArray) a)
theorem EA{a1 l1 c1 w K}(h:Ez a1 l1 c1 w K):CP 49 #[.slice a1 l1 c1] w K:=ah (aA [(58,[(8,.s (.int .i64))]),(467,[])]) func49 (by kernel_rfl) (by kernel_rfl) h
def HI(a:OA)(b c:Nat)(w:World)(K:KP):=cond ((b:Int)==(0:Int)) (K (iv 1) w) (cond (decide ((b:Int)>(6:Int))) (K (iv 3) w) (∃ d:Int->qN,(∃ e,d 0 w e)/\∀ f e g,d g f e->∀ h:qv,cond (decide (g<(b:Int))) (an a λ h=>0<=g/\g<(b:Int)/\∃ i j k l m,af f (Addr.add h ((g).toNat*5)) 0 [.string i,iv j,iv k,iv l,iv m]/\aq f (.cells #[.string (bs []),qz,qz,qz,qz] 94) λ h n=>aL (qd h 0) 0 [.string i,iv j,iv k,iv l,iv m] n λ i=>∃ j,i.cell? (qd h 0)=some (.string j)/\CC 115 #[.string j] i λ i j=>∃ k,i=.returned (.bool k)/\cond (!k) (K (iv 5) j) (0<=g/\g<=(c:Int)/\∃ i,j.drew.cell? (qd h 0)=some (.string i)/\CC 116 #[.slice (if c=0 then a else Option.map (λ x=>Addr.add x (0*5)) a) ((g).toNat-0) (c-0),.string i] j.drew λ i j=>∃ k l,i=.returned (.tuple #[iv k,.bool l])/\cond l (K (iv 7) j) (∃ i:Bool->qW,(∀ k l,i l k->∀ m:qv,cond l (K (iv 4) k) (∃ l,l<e/\d (IntKind.i64.wrap (g+1)) k l))/\∃ d,j.cell? (qd h 1)=some (iv d)/\CC 117 #[iv d,iv 1,iv 4] j λ d e=>∃ g,d=.returned (.bool g)/\cond (!g) (i true e) (∃ d,e.cell? (qd h 2)=some (iv d)/\CC 117 #[iv d,qz,iv 1000000] e λ d e=>∃ g,d=.returned (.bool g)/\cond (!g) (i true e) (∃ d,e.cell? (qd h 3)=some (iv d)/\CC 117 #[iv d,qz,iv 1000] e λ d e=>∃ g,d=.returned (.bool g)/\cond (!g) (i true e) (∃ d,e.cell? (qd h 4)=some (iv d)/\CC 117 #[iv d,qz,iv 4] e λ d e=>∃ g,d=.returned (.bool g)/\i (!g) e)))))) (CC 49 #[.slice a b c] f λ a b=>∃ c:I6,a=.returned (.agg c.vs.toArray)/\CC 90 #[.agg c.vs.toArray] b λ a b=>∃ c,a=.returned (iv c)/\cond (c==0) (K (iv 12) b) (K qz b))))
theorem FX{a1 l1 c1 w K}(h:HI a1 l1 c1 w K):CP 80 #[.slice a1 l1 c1] w K:=ah (aA [(58,[(17,.s (.int .i64))]),(14951,[(57,.s .bool)])]) func80 (by kernel_rfl) (by kernel_rfl) h
def F6(a:OA)(b c:Nat)(d:ByteArray)(w:World)(K:KP):=∃ c:Int->qN,(∃ e,c 0 w e)/\∀ f e g,c g f e->∀ h:qv,cond (decide (g<(b:Int))) (an a λ a=>0<=g/\g<(b:Int)/\∃ b h i j,af f (Addr.add a ((g).toNat*4)) 0 [.string b,iv h,iv i,iv j]/\aq f (.cells #[.string (bs []),qz,qz,qz] 96) λ a k=>aL (qd a 0) 0 [.string b,iv h,iv i,iv j] k λ b=>∃ h,b.cell? (qd a 0)=some (.string h)/\cond (h.toList==d.toList) (K (.tuple #[iv g,.bool true]) b) (∃ a,a<e/\c (IntKind.i64.wrap (g+1)) b a)) (K (.tuple #[qz,.bool false]) f)
theorem Bm{a1 l1 c1 s1 w K}(h:F6 a1 l1 c1 s1 w K):CP 118 #[.slice a1 l1 c1,.string s1] w K:=ah (aA [(26,[(10,.s (.int .i64))])]) func118 (by kernel_rfl) (by kernel_rfl) h
def HJ(a:OA)(b c:Nat)(w:World)(K:KP):=cond ((b:Int)==(0:Int)) (K (iv 1) w) (cond (decide ((b:Int)>(8:Int))) (K (iv 3) w) (∃ d:Int->qN,(∃ e,d 0 w e)/\∀ f e g,d g f e->∀ h:qv,cond (decide (g<(b:Int))) (an a λ h=>0<=g/\g<(b:Int)/\∃ b i j k,af f (Addr.add h ((g).toNat*4)) 0 [.string b,iv i,iv j,iv k]/\aq f (.cells #[.string (bs []),qz,qz,qz] 96) λ h l=>aL (qd h 0) 0 [.string b,iv i,iv j,iv k] l λ b=>∃ i,b.cell? (qd h 0)=some (.string i)/\CC 115 #[.string i] b λ b i=>∃ j,b=.returned (.bool j)/\cond (!j) (K (iv 5) i) (0<=g/\g<=(c:Int)/\∃ b,i.drew.cell? (qd h 0)=some (.string b)/\CC 118 #[.slice (if c=0 then a else Option.map (λ x=>Addr.add x (0*4)) a) ((g).toNat-0) (c-0),.string b] i.drew λ a b=>∃ c i,a=.returned (.tuple #[iv c,.bool i])/\cond i (K (iv 7) b) (∃ a:Bool->qW,(∀ c i,a i c->∀ j:qv,cond i (K (iv 4) c) (∃ i,i<e/\d (IntKind.i64.wrap (g+1)) c i))/\∃ c,b.cell? (qd h 1)=some (iv c)/\cond (decide (c<0)) (a true b) (∃ c,b.cell? (qd h 1)=some (iv c)/\cond (decide (c>4)) (a true b) (∃ c,b.cell? (qd h 2)=some (iv c)/\cond (decide (c<0)) (a true b) (∃ c,b.cell? (qd h 2)=some (iv c)/\cond (decide (c>1000000)) (a true b) (∃ c,b.cell? (qd h 3)=some (iv c)/\cond (decide (c<0)) (a true b) (∃ c,b.cell? (qd h 3)=some (iv c)/\a (decide (c>24000)) b)))))))) (K qz f)))
theorem FY{a1 l1 c1 w K}(h:HJ a1 l1 c1 w K):CP 81 #[.slice a1 l1 c1] w K:=ah (aA [(58,[(17,.s (.int .i64))]),(14951,[(63,.s .bool)])]) func81 (by kernel_rfl) (by kernel_rfl) h
def vV(a:OA)(b c:Nat)(d:OA)(e f:Nat)(g:OA)(h i:Nat)(j:OA)(k l:Nat)(w:World)(K:KP):=aq w (.cells #[.slice a b c,.slice d e f,.slice g h i,.slice j k l] 27) λ a b=>∃ c d e,b.cell? (qd a 2)=some (.slice c d e)/\cond (decide ((d:Int)>(16:Int))) (K (iv 3) b) (∃ c d e,b.cell? (qd a 2)=some (.slice c d e)/\∃ e:Int->qN,(∃ f,e 0 b f)/\∀ b f g,e g b f->∀ h:qv,cond (decide (g<(d:Int))) (an c λ c=>0<=g/\g<(d:Int)/\∃ d h i,af b (Addr.add c ((g).toNat*3)) 0 [iv d,iv h,iv i]/\aq b (.cells #[qz,qz,qz] 98) λ c j=>aL (qd c 0) 0 [iv d,iv h,iv i] j λ d=>∃ h:Bool->qW,(∀ i j,h j i->∀ k:qv,cond j (K (iv 6) i) (∃ j:Bool->qW,(∀ k l,j l k->∀ m:qv,cond l (K (iv 4) k) (∃ l m n,k.cell? (qd a 2)=some (.slice l m n)/\0<=g/\g<=(n:Int)/\∃ m:Int->qN,(∃ o,m 0 k o)/\∀ k o p,m p k o->∀ q:qv,cond (decide (p<((((g).toNat-0):Nat):Int))) (an (if n=0 then l else Option.map (λ x=>Addr.add x (0*3)) l) λ l=>0<=p/\p<((((g).toNat-0):Nat):Int)/\∃ n q r,af k (Addr.add l ((p).toNat*3)) 0 [iv n,iv q,iv r]/\aq k (.cells #[qz,qz,qz] 98) λ l s=>aL (qd l 0) 0 [iv n,iv q,iv r] s λ n=>∃ q:Bool->qW,(∀ r s,q s r->∀ t:qv,cond s (K (iv 7) r) (∃ s,s<o/\m (IntKind.i64.wrap (p+1)) r s))/\∃ m,n.cell? (qd l 0)=some (iv m)/\∃ o,n.cell? (qd c 0)=some (iv o)/\cond (m==o) (∃ m,n.cell? (qd l 1)=some (iv m)/\∃ l,n.cell? (qd c 1)=some (iv l)/\q (m==l) n) (q false n)) (∃ l,l<f/\e (IntKind.i64.wrap (g+1)) k l)))/\∃ e,i.cell? (qd c 1)=some (iv e)/\cond (decide (e<0)) (j true i) (∃ e,i.cell? (qd c 1)=some (iv e)/\cond (decide (e>4)) (j true i) (∃ e,i.cell? (qd c 2)=some (iv e)/\cond (decide (e<0)) (j true i) (∃ e,i.cell? (qd c 2)=some (iv e)/\j (decide (e>24)) i)))))/\∃ e,d.cell? (qd c 0)=some (iv e)/\cond (decide (e<(-1:Int))) (h true d) (∃ e,d.cell? (qd c 0)=some (iv e)/\∃ c f g,d.cell? (qd a 1)=some (.slice c f g)/\h (decide (e>=(f:Int))) d)) (K qz b))
theorem zf{a1 l1 c1 a2 l2 c2 a3 l3 c3 a4 l4 c4 w K}(h:vV a1 l1 c1 a2 l2 c2 a3 l3 c3 a4 l4 c4 w K):CP 82 #[.agg #[.slice a1 l1 c1,.slice a2 l2 c2,.slice a3 l3 c3,.slice a4 l4 c4]] w K:=ah (aA [(58,[(14,.s (.int .i64))]),(7474,[(29,.s .bool)]),(14950,[(47,.s .bool)]),(59806,[(53,.s (.int .i64))]),(3827609,[(68,.s .bool)])]) func82 (by kernel_rfl) (by kernel_rfl) h
def qS(a:OA)(b c:Nat)(d:OA)(e f:Nat)(g:OA)(h i:Nat)(j:OA)(k l:Nat)(w:World)(K:KP):=aq w (.cells #[.slice a b c,.slice d e f,.slice g h i,.slice j k l] 27) λ a b=>∃ c d e,b.cell? (qd a 3)=some (.slice c d e)/\cond (decide ((d:Int)>(6:Int))) (K (iv 3) b) (∃ c d e,b.cell? (qd a 3)=some (.slice c d e)/\∃ e:Int->qN,(∃ f,e 0 b f)/\∀ b f g,e g b f->∀ h:qv,cond (decide (g<(d:Int))) (an c λ c=>0<=g/\g<(d:Int)/\∃ d h i,af b (Addr.add c ((g).toNat*3)) 0 [iv d,iv h,iv i]/\aq b (.cells #[qz,qz,qz] 100) λ c j=>aL (qd c 0) 0 [iv d,iv h,iv i] j λ d=>∃ h:Bool->qW,(∀ i j,h j i->∀ k:qv,cond j (K (iv 6) i) (∃ j:Bool->qW,(∀ k l,j l k->∀ m:qv,cond l (K (iv 4) k) (∃ l m n,k.cell? (qd a 3)=some (.slice l m n)/\0<=g/\g<=(n:Int)/\∃ m:Int->qN,(∃ o,m 0 k o)/\∀ k o p,m p k o->∀ q:qv,cond (decide (p<((((g).toNat-0):Nat):Int))) (an (if n=0 then l else Option.map (λ x=>Addr.add x (0*3)) l) λ l=>0<=p/\p<((((g).toNat-0):Nat):Int)/\∃ n q r,af k (Addr.add l ((p).toNat*3)) 0 [iv n,iv q,iv r]/\aq k (.cells #[qz,qz,qz] 100) λ l s=>aL (qd l 0) 0 [iv n,iv q,iv r] s λ n=>∃ q,n.cell? (qd l 0)=some (iv q)/\∃ l,n.cell? (qd c 0)=some (iv l)/\cond (q==l) (K (iv 7) n) (∃ l,l<o/\m (IntKind.i64.wrap (p+1)) n l)) (∃ l,l<f/\e (IntKind.i64.wrap (g+1)) k l)))/\∃ e,i.drew.cell? (qd c 1)=some (iv e)/\cond (decide (e<1)) (j true i.drew) (∃ e,i.drew.cell? (qd c 1)=some (iv e)/\cond (decide (e>4)) (j true i.drew) (∃ e,i.drew.cell? (qd c 2)=some (iv e)/\cond (decide (e<1)) (j true i.drew) (∃ e,i.drew.cell? (qd c 2)=some (iv e)/\∃ f g k,i.drew.cell? (qd a 0)=some (.slice f g k)/\∃ k,i.drew.cell? (qd c 0)=some (iv k)/\an f λ f=>0<=k/\k<(g:Int)/\∃ g,i.drew.cell? (Addr.add (Addr.add f ((k).toNat*5)) 1)=some (iv g)/\j (decide (e>g)) i.drew)))))/\∃ e,d.cell? (qd c 0)=some (iv e)/\cond (decide (e<0)) (h true d) (∃ e,d.cell? (qd c 0)=some (iv e)/\∃ c f g,d.cell? (qd a 0)=some (.slice c f g)/\h (decide (e>=(f:Int))) d)) (K qz b))
theorem uY{a1 l1 c1 a2 l2 c2 a3 l3 c3 a4 l4 c4 w K}(h:qS a1 l1 c1 a2 l2 c2 a3 l3 c3 a4 l4 c4 w K):CP 83 #[.agg #[.slice a1 l1 c1,.slice a2 l2 c2,.slice a3 l3 c3,.slice a4 l4 c4]] w K:=ah (aA [(58,[(14,.s (.int .i64))]),(7474,[(29,.s .bool)]),(14950,[(54,.s .bool)]),(59806,[(60,.s (.int .i64))])]) func83 (by kernel_rfl) (by kernel_rfl) h
def HK(a:OA)(b c:Nat)(d:OA)(e f:Nat)(g:OA)(h i:Nat)(j:OA)(k l:Nat)(w:World)(K:KP):=aq w (.cells #[.slice a b c,.slice d e f,.slice g h i,.slice j k l] 27) λ a b=>∃ c d e,b.cell? (qd a 0)=some (.slice c d e)/\CC 80 #[.slice c d e] b λ b c=>∃ d,b=.returned (iv d)/\cond (d !=0) (K (iv d) c) (∃ b d e,c.cell? (qd a 1)=some (.slice b d e)/\CC 81 #[.slice b d e] c λ b c=>∃ d,b=.returned (iv d)/\cond (d !=0) (K (iv d) c) (∃ b d e f g h i j k l m n,af c (qd a 0) 0 [.slice b d e,.slice f g h,.slice i j k,.slice l m n]/\CC 82 #[.agg #[.slice b d e,.slice f g h,.slice i j k,.slice l m n]] c λ b c=>∃ d,b=.returned (iv d)/\cond (d !=0) (K (iv d) c) (∃ b d e f g h i j k l m n,af c (qd a 0) 0 [.slice b d e,.slice f g h,.slice i j k,.slice l m n]/\CC 83 #[.agg #[.slice b d e,.slice f g h,.slice i j k,.slice l m n]] c λ a b=>∃ c,a=.returned (iv c)/\K (iv c) b)))
theorem FZ{a1 l1 c1 a2 l2 c2 a3 l3 c3 a4 l4 c4 w K}(h:HK a1 l1 c1 a2 l2 c2 a3 l3 c3 a4 l4 c4 w K):CP 42 #[.agg #[.slice a1 l1 c1,.slice a2 l2 c2,.slice a3 l3 c3,.slice a4 l4 c4]] w K:=ah (aA []) func42 (by kernel_rfl) (by kernel_rfl) h
def Oq(n:Int):Bool:=decide (97<=n)&&decide (n<=122)
def vJ(n:Int):Bool:=decide (48<=n)&&decide (n<=57)
def inr(n:Int):Bool:=Oq n||(vJ n||(n==95))
def un(c:UInt8):Int:=(c.toNat:Int)
def cw(l:List UInt8):Bool:=!l.isEmpty&&(decide (l.length<=12)&&((l.head?.map λ c=>Oq (un c)).getD false&&l.all λ c=>inr (un c)))
theorem wrap32(c:UInt8):IntKind.i32.wrap (c.toNat:Int)=un c:=by
 have:=c.toNat_lt;simp only[IntKind.wrap,IntKind.signed,IntKind.bits,un]
 simp
 omega
theorem yS(w:World)(n:Int):CP 156 #[.int .i32 n] w (λ r w'=>r=.bool (Oq n)/\w' = w):=by
 refine Ex ?_;unfold Ew
 by_cases h:97<=n
 ·exact cT (by simpa using h) ⟨by simp[Oq,h],rfl⟩
 ·exact cF (by simpa using h) ⟨by simp[Oq,h],rfl⟩
theorem B3(w:World)(n:Int):CP 190 #[.int .i32 n] w (λ r w'=>r=.bool (vJ n)/\w' = w):=by
 refine F4 ?_;unfold HM
 by_cases h:48<=n
 ·exact cT (by simpa using h) ⟨by simp[vJ,h],rfl⟩
 ·exact cF (by simpa using h) ⟨by simp[vJ,h],rfl⟩
theorem Ht(w:World)(n:Int):CP 158 #[.int .i32 n] w (λ r w'=>r=.bool (inr n)/\w' = w):=by
 refine F7 ?_;unfold HN;refine ak (yS w n) ?_;rintro v w1 ⟨rfl,rfl⟩;refine⟨_,rfl,?_⟩
 cases h1:Oq n with
 | true=>exact cT rfl ⟨by simp[inr,h1],rfl⟩
 | false =>
  refine cF rfl (ak (B3 w1 n) ?_);rintro v w2 ⟨rfl,rfl⟩;refine⟨_,rfl,?_⟩
  cases h2:vJ n with
  | true=>exact cT rfl ⟨by simp[inr,h1,h2],rfl⟩
  | false=>exact cF rfl ⟨by simp[inr,h1,h2],rfl⟩
theorem MD{l:List UInt8}{p:UInt8->Bool}{k:Nat}(h:(l.take k).all p=true)(hk:k<=l.length)(he:k=l.length\/∃ c,l[k]?=some c/\p c=false):(l.take k==l)=l.all p:=by
 rcases he with rfl|⟨c,hc,hp⟩
 ·rw[List.take_length] at h ⊢; rw[h]; simp
 ·have hlt:=(List.getElem?_eq_some_iff.1 hc).1;have h1:l.all p=false:=by
   rw[List.all_eq_false];exact⟨c,List.mem_of_getElem? hc,by simp[hp]⟩
  rw[h1];simp only[beq_eq_false_iff_ne,ne_eq];intro e;have:=congrArg List.length e;rw[List.length_take] at this;omega
theorem Dq{l:List UInt8}{p:UInt8->Bool}{k:Nat}{c:UInt8}(h:(l.take k).all p=true)(hc:l[k]?=some c)(hp:p c=true):(l.take (k+1)).all p=true:=by
 rw[aG hc,List.all_append,h]; simp[hp]
theorem Tq(w:World){l:List UInt8}(hl:l.length<=9223372036854775806):CP 157 #[sv l,iv 0,.func (.func 158) #[] #[]] w (λ r w'=>∃ k,r=sv (l.take k)/\(l.take k==l)=(l.all λ c=>inr (un c))/\w' = w):=by
 refine Ey ?_;unfold LM;refine⟨λ n w1 m=>∃ k:Nat,n=k/\k<=l.length/\m=l.length-k/\(l.take k).all (λ c=>inr (un c))=true/\w1=w,⟨l.length,0,rfl,by omega,by omega,by simp,rfl⟩,?_⟩;rintro w1 m n ⟨k,rfl,hk,hm,ha,rfl⟩ -;refine⟨λ b w2=>w2=w1/\((b=true/\∃ c,l[k]?=some c/\inr (un c)=true)\/(b=false/\(k=l.length\/∃ c,l[k]?=some c/\inr (un c)=false))),?_,?_⟩
 ·rintro w2 b ⟨rfl,h⟩ -;rcases h with⟨rfl,c,hc,hp⟩|⟨rfl,he⟩
  ·have hlt:=(List.getElem?_eq_some_iff.1 hc).1;exact cT rfl ⟨l.length-(k+1),by omega,k+1,by rw[aB ⟨by omega,by omega⟩]; rfl,by omega,rfl,Dq (p:=λ c=>inr (un c)) ha hc hp,rfl⟩
  ·refine cF rfl ⟨by omega,by rw[eH]; omega,by omega,by omega,k,?_,MD ha hk he,rfl⟩;show Value.string ((bs l).extract (0:Int).toNat ((k:Int)).toNat)=_;rw[show(0:Int).toNat=0 from rfl,Int.toNat_natCast,SM]
 ·by_cases hlt:(k:Int)<(l.length:Int)
  ·have hc:l[k]?=some (l[k]'(by omega)):=gE (by omega);generalize l[k]'(by omega)=c at hc;refine cT (by rw[eH]; simpa using hlt) ⟨by omega,?_⟩;rw[Int.toNat_natCast,lZ,hc]
   change cU prog (.func (.func 158) #[] #[]) #[.int .i32 (IntKind.i32.wrap (c.toNat:Int))] w1 _
   refine bx (by kernel_rfl) ?_;rw[wrap32];refine ak (Ht w1 (un c)) ?_;rintro v w3 ⟨rfl,rfl⟩;refine⟨_,rfl,rfl,?_⟩
   cases hp:inr (un c) with
   | true=>exact .inl ⟨rfl,c,rfl,hp⟩
   | false=>exact .inr ⟨rfl,.inr ⟨c,rfl,hp⟩⟩
  ·exact cF (by rw[eH]; simpa using hlt) ⟨rfl,.inr ⟨rfl,.inl (by omega)⟩⟩
theorem yN(w:World)(l:List UInt8):CP 115 #[sv l] w (λ r w'=>r=.bool (cw l)/\w' = w):=by
 refine Eu ?_;unfold Et
 cases l with
 | nil=>exact cF (by rw[iI]; rfl) ⟨rfl,rfl⟩
 | cons c l =>
  refine cT (by rw[iI,iI]; rfl) ?_
  by_cases h12:(c :: l).length<=12
  ·refine cT (by rw[eH]; exact dT (by omega)) ⟨by omega,?_⟩;rw[show(0:Int).toNat=0 from rfl,lZ];show an (some c) _;rw[an,wrap32];refine ak (yS w (un c)) ?_;rintro v w1 ⟨rfl,rfl⟩;refine⟨_,rfl,?_⟩
   cases h1:Oq (un c) with
   | false=>exact cF rfl ⟨by simp[cw,h1],rfl⟩
   | true =>
    refine cT rfl (ak (Tq w1 (by omega)) ?_);rintro v w2 ⟨k,rfl,hk,rfl⟩;refine⟨_,rfl,?_,rfl⟩;rw[iI,iI,hk];have e:cw (c :: l)=(c :: l).all λ c=>inr (un c):=by
     unfold cw;simp only[List.isEmpty_cons,Bool.not_false,Bool.true_and,List.head?_cons,Option.map_some,Option.getD_some,h1];rw[dT h12]; rfl
    rw[e]
  ·refine cF (by rw[eH]; exact dF (by omega)) ⟨?_,rfl⟩;simp only[cw,dF h12]
   simp
def tr(a:ByteArray)(w:World)(K:KP):=cond (decide (((a.size:Nat):Int)>(4000:Int))) (K (.tuple #[qn,iv 3]) w) (∃ b:OA->Nat->Nat->Int->qN,(∃ c,b none 0 0 0 w c)/\∀ d c e f g h,b e f g h d c->∀ i:qv,cond (decide (h<((a.size:Nat):Int))) (0<=h/\an a[(h).toNat]? λ i=>cond ((i.toNat:Int)==(32:Int)) (∃ i,i<c/\b e f g (IntKind.i64.wrap (h+1)) d i) (CC 203 #[.string a,iv h] d λ a j=>∃ k l m n o,a=.returned (.tuple #[.agg #[iv k,.string l,iv m,iv n],iv o])/\aq j (.cells #[qz,.string (bs []),qz,qz] 280) λ a j=>aL (qd a 0) 0 [iv k,.string l,iv m,iv n] j λ j=>cond (o !=0) (K (.tuple #[qn,iv o]) j) (∃ k l m n,af j (qd a 0) 0 [iv k,.string l,iv m,iv n]/\aq j (.cells #[iv k,.string l,iv m,iv n] 280) λ j k=>aV prog (Builtin.append_ #[256,256] 256 #[.slice e f g,.slice (some (qd j 0)) 1 1]) k λ j k=>∃ l m n,j=(.slice l m n)/\∃ j,k.cell? (qd a 1)=some (.string j)/\∃ i,i<c/\b l m n (IntKind.i64.wrap (h+((j.size:Nat):Int))) k i))) (K (.tuple #[.slice e f g,qz]) d))
theorem wR{s1 w K}(h:tr s1 w K):CP 183 #[.string s1] w K:=ah (aA [(122,[(4,.s .slice),(5,.s (.int .i64))])]) func183 (by kernel_rfl) (by kernel_rfl) h
def kU(a:OA)(b c:Nat)(w:World)(K:KP):=aV prog (Builtin.append_ #[256,256] 256 #[qn,.slice a b c]) w λ a b=>∃ c d e,a=(.slice c d e)/\aq b (.cells #[.slice c d e,qz] 284) λ a b=>K (qp a) b
theorem qB{a1 l1 c1 w K}(h:kU a1 l1 c1 w K):CP 184 #[.slice a1 l1 c1] w K:=ah (aA []) func184 (by kernel_rfl) (by kernel_rfl) h
def jM(a:Nat)(w:World)(K:KP):=∃ b:Bool->qW,(∀ c d,b d c->∀ e:qv,cond d (K (iv 3) c) (CC 213 #[qp a] c λ c d=>∃ e,c=.returned (iv e)/\K (iv e) d))/\∃ c,w.cell? (qd a 1)=some (iv c)/\cond (c==0) (∃ c d e,w.cell? (qd a 0)=some (.slice c d e)/\b (decide ((d:Int)>(0:Int))) w) (b false w)
theorem oN{b1 w K}(h:jM b1 w K):CP 186 #[.pointer (some ⟨b1,0,none⟩)] w K:=ah (aA [(6,[(19,.s .bool)])]) func186 (by kernel_rfl) (by kernel_rfl) h
def A6(a:ByteArray)(b:Int)(w:World)(K:KP):=aq w (.cells #[qz,.string (bs []),qz,qz] 280) λ c d=>aq d (.cells #[qz,.string (bs []),qz,qz] 280) λ d e=>aL (qd d 0) 0 [qz,.string (bs []),qz,iv b] e λ e=>∃ f:qW,(∀ g,f g->∀ h:qv,∃ h i j k,af g (qd d 0) 0 [iv h,.string i,iv j,iv k]/\aL (qd c 0) 0 [iv h,.string i,iv j,iv k] g λ g=>∃ h i j k,af g (qd c 0) 0 [iv h,.string i,iv j,iv k]/\K (.tuple #[.agg #[iv h,.string i,iv j,iv k],qz]) g)/\0<=b/\an a[(b).toNat]? λ g=>CC 156 #[.int .i32 (IntKind.i32.wrap (g.toNat:Int))] e λ e h=>∃ i,e=.returned (.bool i)/\cond i (CC 157 #[.string a,iv b,.func (.func 158) #[] #[]] h λ e i=>∃ j,e=.returned (.string j)/\aP i (qd d 0) (iv 1) λ e=>aP e (qd d 1) (.string j) λ e=>∃ i,e.cell? (qd d 1)=some (.string i)/\cond (decide (((i.size:Nat):Int)>(12:Int))) (aL (qd c 0) 0 [qz,.string (bs []),qz,qz] e λ i=>∃ j k l m,af i (qd c 0) 0 [iv j,.string k,iv l,iv m]/\K (.tuple #[.agg #[iv j,.string k,iv l,iv m],iv 3]) i) (f e)) (CC 190 #[.int .i32 (IntKind.i32.wrap (g.toNat:Int))] h λ e h=>∃ i,e=.returned (.bool i)/\cond i (CC 157 #[.string a,iv b,.func (.func 190) #[] #[]] h λ e i=>∃ j,e=.returned (.string j)/\aP i (qd d 0) (iv 2) λ e=>aP e (qd d 1) (.string j) λ e=>∃ i,e.cell? (qd d 1)=some (.string i)/\CC 232 #[.string i] e λ e i=>∃ j k,e=.returned (.tuple #[iv j,iv k])/\cond (k !=0) (aL (qd c 0) 0 [qz,.string (bs []),qz,qz] i λ e=>∃ l m n o,af e (qd c 0) 0 [iv l,.string m,iv n,iv o]/\K (.tuple #[.agg #[iv l,.string m,iv n,iv o],iv k]) e) (aP i (qd d 2) (iv j) λ e=>f e)) (CC 233 #[.string (bs [123,125,40,41,44,58,64,43,45,61]),.int .i32 (IntKind.i32.wrap (g.toNat:Int))] h λ e g=>∃ h,e=.returned (.bool h)/\cond h (0<=(IntKind.i64.wrap (b+1))/\(IntKind.i64.wrap (b+1))<=((a.size:Nat):Int)/\0<=b/\b<=((((IntKind.i64.wrap (b+1))).toNat:Nat):Int)/\aP g.drew (qd d 0) (iv 3) λ e=>aP e (qd d 1) (.string (a.extract ((b).toNat) (((IntKind.i64.wrap (b+1))).toNat))) λ a=>f a) (aL (qd c 0) 0 [qz,.string (bs []),qz,qz] g λ a=>∃ b d e f,af a (qd c 0) 0 [iv b,.string d,iv e,iv f]/\K (.tuple #[.agg #[iv b,.string d,iv e,iv f],iv 2]) a)))
theorem Cs{s1 n1 w K}(h:A6 s1 n1 w K):CP 203 #[.string s1,iv n1] w K:=ah (aA [(7,[])]) func203 (by kernel_rfl) (by kernel_rfl) h
def iZ(a:Nat)(w:World)(K:KP):=aq w (.cells #[qz,.string (bs []),qz,qz] 280) λ b c=>∃ d:Bool->qW,(∀ e f,d f e->∀ g:qv,cond f (aL (qd b 0) 0 [qz,.string (bs []),qz,qz] e λ f=>∃ g h i j,af f (qd b 0) 0 [iv g,.string h,iv i,iv j]/\K (.agg #[iv g,.string h,iv i,iv j]) f) (∃ f g h,e.cell? (qd a 0)=some (.slice f g h)/\an f λ f=>0<=(0:Int)/\(0:Int)<(g:Int)/\∃ g h i j,af e (Addr.add f (((0:Int)).toNat*4)) 0 [iv g,.string h,iv i,iv j]/\aL (qd b 0) 0 [iv g,.string h,iv i,iv j] e λ e=>∃ f g h i,af e (qd b 0) 0 [iv f,.string g,iv h,iv i]/\K (.agg #[iv f,.string g,iv h,iv i]) e))/\∃ b,c.cell? (qd a 1)=some (iv b)/\cond (b !=0) (d true c) (∃ b e f,c.cell? (qd a 0)=some (.slice b e f)/\d ((e:Int)==(0:Int)) c)
theorem nP{b1 w K}(h:iZ b1 w K):CP 204 #[.pointer (some ⟨b1,0,none⟩)] w K:=ah (aA [(6,[(19,.s .bool)])]) func204 (by kernel_rfl) (by kernel_rfl) h
def iW(a:Nat)(b:Int)(w:World)(K:KP):=∃ c:Bool->qW,(∀ d e,c e d->∀ f:qv,cond e (aP d (qd a 1) (iv b) λ b=>K (.tuple #[]) b) (K (.tuple #[]) d))/\∃ b,w.cell? (qd a 1)=some (iv b)/\c (b==0) w
theorem nM{b1 n1 w K}(h:iW b1 n1 w K):CP 206 #[.pointer (some ⟨b1,0,none⟩),iv n1] w K:=ah (aA [(1,[(12,.s .bool)])]) func206 (by kernel_rfl) (by kernel_rfl) h
def iY(a:Nat)(w:World)(K:KP):=aq w (.cells #[qz,.string (bs []),qz,qz] 280) λ b c=>CC 204 #[qp a] c λ c d=>∃ e f g h,c=.returned (.agg #[iv e,.string f,iv g,iv h])/\aq d (.cells #[qz,.string (bs []),qz,qz] 280) λ c d=>aL (qd c 0) 0 [iv e,.string f,iv g,iv h] d λ d=>∃ e:qW,(∀ f,e f->∀ g:qv,∃ g h i j,af f (qd c 0) 0 [iv g,.string h,iv i,iv j]/\aL (qd b 0) 0 [iv g,.string h,iv i,iv j] f λ c=>∃ f g h i,af c (qd b 0) 0 [iv f,.string g,iv h,iv i]/\K (.agg #[iv f,.string g,iv h,iv i]) c)/\∃ b:Bool->qW,(∀ c f,b f c->∀ g:qv,cond f (∃ f g h,c.cell? (qd a 0)=some (.slice f g h)/\0<=(1:Int)/\(1:Int)<=(g:Int)/\aP c (qd a 0) (.slice (if h=((1:Int)).toNat then f else Option.map (λ x=>Addr.add x (((1:Int)).toNat*4)) f) (g-((1:Int)).toNat) (h-((1:Int)).toNat)) λ f=>e f) (e c))/\∃ c,d.cell? (qd a 1)=some (iv c)/\cond (c==0) (∃ c e f,d.cell? (qd a 0)=some (.slice c e f)/\b (decide ((e:Int)>(0:Int))) d) (b false d)
theorem nO{b1 w K}(h:iY b1 w K):CP 208 #[.pointer (some ⟨b1,0,none⟩)] w K:=ah (aA [(7,[]),(14,[(22,.s .bool)])]) func208 (by kernel_rfl) (by kernel_rfl) h
def gC(a:Nat)(b:ByteArray)(w:World)(K:KP):=CC 211 #[qp a,.string b] w λ b c=>∃ d,b=.returned (.bool d)/\cond (!d) (CC 235 #[qp a] c λ a b=>a=.returned (.tuple #[])/\K (.tuple #[]) b) (K (.tuple #[]) c)
theorem kX{b1 s1 w K}(h:gC b1 s1 w K):CP 209 #[.pointer (some ⟨b1,0,none⟩),.string s1] w K:=ah (aA []) func209 (by kernel_rfl) (by kernel_rfl) h
def gA(a:Nat)(b:ByteArray)(w:World)(K:KP):=CC 204 #[qp a] w λ c d=>∃ e f g h,c=.returned (.agg #[iv e,.string f,iv g,iv h])/\aq d (.cells #[qz,.string (bs []),qz,qz] 280) λ c d=>aL (qd c 0) 0 [iv e,.string f,iv g,iv h] d λ d=>∃ e:Bool->qW,(∀ f g,e g f->∀ h:qv,cond g (K (.bool false) f) (CC 208 #[qp a] f λ a f=>∃ g h i j,a=.returned (.agg #[iv g,.string h,iv i,iv j])/\K (.bool true) f))/\∃ a,d.cell? (qd c 0)=some (iv a)/\cond (a !=3) (e true d) (∃ a,d.cell? (qd c 1)=some (.string a)/\e (!(a.toList==b.toList)) d)
theorem kV{b1 s1 w K}(h:gA b1 s1 w K):CP 211 #[.pointer (some ⟨b1,0,none⟩),.string s1] w K:=ah (aA [(13,[(16,.s .bool)])]) func211 (by kernel_rfl) (by kernel_rfl) h
def gB(a:Nat)(b:Int)(w:World)(K:KP):=CC 204 #[qp a] w λ c d=>∃ e f g h,c=.returned (.agg #[iv e,.string f,iv g,iv h])/\aq d (.cells #[qz,.string (bs []),qz,qz] 280) λ c d=>aL (qd c 0) 0 [iv e,.string f,iv g,iv h] d λ d=>∃ e,d.cell? (qd c 0)=some (iv e)/\cond (e !=2) (CC 235 #[qp a] d λ e f=>e=.returned (.tuple #[])/\K qz f) (∃ e:Bool->qW,(∀ f g,e g f->∀ h:qv,cond g (CC 206 #[qp a,iv 4] f λ g h=>g=.returned (.tuple #[])/\K qz h) (CC 208 #[qp a] f λ a f=>∃ g h i j,a=.returned (.agg #[iv g,.string h,iv i,iv j])/\∃ a,f.cell? (qd c 2)=some (iv a)/\K (iv a) f))/\∃ a,d.cell? (qd c 2)=some (iv a)/\cond (decide (a<0)) (e true d) (∃ a,d.cell? (qd c 2)=some (iv a)/\e (decide (a>b)) d))
theorem kW{b1 n1 w K}(h:gB b1 n1 w K):CP 212 #[.pointer (some ⟨b1,0,none⟩),iv n1] w K:=ah (aA [(115,[(14,.s .bool)])]) func212 (by kernel_rfl) (by kernel_rfl) h
def jN(a:Nat)(w:World)(K:KP):=∃ b,w.cell? (qd a 1)=some (iv b)/\K (iv b) w
theorem oO{b1 w K}(h:jN b1 w K):CP 213 #[.pointer (some ⟨b1,0,none⟩)] w K:=ah (aA []) func213 (by kernel_rfl) (by kernel_rfl) h
def tu(a:ByteArray)(w:World)(K:KP):=∃ b:Bool->qW,(∀ c d,b d c->∀ e:qv,cond d (K (.tuple #[qz,iv 2]) c) (cond (decide (((a.size:Nat):Int)>(9:Int))) (K (.tuple #[qz,iv 4]) c) (∃ d:Int->Int->qN,(∃ e,d 0 (0:Int) c e)/\∀ c e f g,d f g c e->∀ h:qv,cond (decide (g<((a.size:Nat):Int))) (0<=g/\an a[(g).toNat]? λ h=>∃ i,i<e/\d (IntKind.i64.wrap ((IntKind.i64.wrap ((10:Int)*f))+(IntKind.i64.wrap (IntKind.u8.wrap ((h.toNat:Int)-(48:Int)))))) (IntKind.i64.wrap (g+1)) c i) (K (.tuple #[iv f,qz]) c))))/\cond (decide (((a.size:Nat):Int)>(1:Int))) (0<=(0:Int)/\an a[((0:Int)).toNat]? λ a=>b ((a.toNat:Int)==(48:Int)) w) (b false w)
theorem wS{s1 w K}(h:tu s1 w K):CP 232 #[.string s1] w K:=ah (aA [(12,[(6,.s .bool)]),(122,[(4,.s (.int .i64)),(21,.s (.int .i64))])]) func232 (by kernel_rfl) (by kernel_rfl) h
def gZ(a:Nat)(w:World)(K:KP):=∃ b:qW,(∀ c,b c->∀ d:qv,CC 206 #[qp a,iv 2] c λ c d=>c=.returned (.tuple #[])/\K (.tuple #[]) d)/\∃ c d e,w.cell? (qd a 0)=some (.slice c d e)/\cond ((d:Int)==(0:Int)) (CC 206 #[qp a,iv 1] w λ a c=>a=.returned (.tuple #[])/\b c) (b w)
theorem mD{b1 w K}(h:gZ b1 w K):CP 235 #[.pointer (some ⟨b1,0,none⟩)] w K:=ah (aA [(3,[])]) func235 (by kernel_rfl) (by kernel_rfl) h
def iX(a:Nat)(w:World)(K:KP):=CC 204 #[qp a] w λ b c=>∃ d e f g,b=.returned (.agg #[iv d,.string e,iv f,iv g])/\aq c (.cells #[qz,.string (bs []),qz,qz] 280) λ b c=>aL (qd b 0) 0 [iv d,.string e,iv f,iv g] c λ c=>∃ d,c.cell? (qd b 0)=some (iv d)/\cond (d !=1) (CC 235 #[qp a] c λ d e=>d=.returned (.tuple #[])/\K (.string (bs [])) e) (CC 208 #[qp a] c λ a c=>∃ d e f g,a=.returned (.agg #[iv d,.string e,iv f,iv g])/\∃ a,c.cell? (qd b 1)=some (.string a)/\K (.string a) c)
theorem nN{b1 w K}(h:iX b1 w K):CP 263 #[.pointer (some ⟨b1,0,none⟩)] w K:=ah (aA []) func263 (by kernel_rfl) (by kernel_rfl) h
