import Derived.Laws.AppendOwn
import Derived.Laws.MakeOwn
import Derived.Laws.CopyRow
import Derived.Laws.IdiomCopy
import Derived.Laws.BytesArg
import Derived.IntWalk
import Derived.Laws.Bits64
import Derived.Laws.Strings
import Derived.Test.YtpihmghnbplohaaGreatDoorM02
set_option linter.unusedVariables false
set_option maxRecDepth 100000
namespace Go.Vc
theorem cT{b:Bool}{A B:Prop}(h:b=true)(k:A):cond b A B:=by rw[h]; exact k
theorem cF{b:Bool}{A B:Prop}(h:b=false)(k:B):cond b A B:=by rw[h]; exact k
def Qh(o:Option Obj)(i:Nat):Option Value :=
  match o with
  | some (.cells c _ _)=>c[i]?
  | _=>none
def Na(o:Option Obj)(i:Nat):Bool :=
  match o with
  | some (.cells _ _ (lo,hi))=>lo<=i&&i<hi
  | _=>false
def Q5(i:Nat)(v:Value)(o:Option Obj):Option Obj :=
  match o with
  | some (.cells c e f)=>some (.cells (c.setIfInBounds i v) e f)
  | o=>o
theorem cK(w:World)(b i:Nat):w.cell? ⟨b,i,none⟩=Qh w.heap[b]? i:=by
  simp only[World.cell?,Qh]
  cases w.heap[b]? with
  | none=>rfl
  | some o=>cases o<;>simp
theorem E4(w:World)(b i:Nat):w.frozen? ⟨b,i,none⟩=Na w.heap[b]? i:=by
  simp only[World.frozen?,Na]
  cases w.heap[b]? with
  | none=>rfl
  | some o=>cases o<;>rfl
theorem heap_set(w:World)(b i k:Nat)(v:Value):(w.setCell ⟨b,i,none⟩ v).heap[k]? = if b=k then Q5 i v w.heap[k]? else w.heap[k]?:=by
  simp only[World.setCell,Array.getElem?_modify]
  by_cases h:b=k
  · simp only[h,if_true,Q5]
    cases w.heap[k]? with
    | none=>rfl
    | some o=>cases o<;>simp
  · simp[h]
theorem ct(w:World)(o:Obj)(k:Nat):(w.alloc o).heap[k]? = if k=w.heap.size then some o else w.heap[k]?:=by
  simp only[World.alloc,Array.getElem?_push]
theorem cG(c:Array Value)(e:TypeId)(f:Nat×Nat)(i:Nat):Qh (some (.cells c e f)) i=c[i]?:=rfl
theorem E5(c:Array Value)(e:TypeId)(i:Nat):Na (some (.cells c e (0,0))) i=false:=by simp[Na]
theorem yS(c:Array Value)(e:TypeId)(f:Nat×Nat)(i:Nat)(v:Value):Q5 i v (some (.cells c e f))=some (.cells (c.setIfInBounds i v) e f):=rfl
structure Env (w w' : World):Prop where
  os:w'.os=w.os
  tape:w'.tape=w.tape
  out:w'.output=w.output
theorem Env.refl(w:World):Env w w:=⟨rfl,rfl,rfl⟩
theorem Env.trans{w w1 w2:World}(h:Env w w1)(k:Env w1 w2):Env w w2:=⟨k.os.trans h.os,k.tape.trans h.tape,k.out.trans h.out⟩
theorem Env.set(w:World)(a:Addr)(v:Value):Env w (w.setCell a v):=⟨rfl,rfl,rfl⟩
structure az (w w' : World) (F:List Nat):Prop where
  size:w.heap.size<=w'.heap.size
  same:∀ i,i<w.heap.size->i∉F->w'.heap[i]? = w.heap[i]?
  env:Env w w'
theorem az.refl(w:World)(F:List Nat):az w w F:=⟨Nat.le_refl _,λ _ _ _=>rfl,Env.refl _⟩
theorem az.drew(w:World)(F:List Nat):az w w.drew F:=⟨Nat.le_refl _,λ _ _ _=>rfl,⟨rfl,rfl,rfl⟩⟩
theorem az.trans{w w1 w2:World}{F G:List Nat}(h:az w w1 F)(h' : az w1 w2 G)(hG:∀ i∈G,i∈F\/w.heap.size<=i):az w w2 F :=
  ⟨Nat.le_trans h.size h'.size,λ i hi hn=>(h'.same i (Nat.lt_of_lt_of_le hi h.size) λ hg=>(hG i hg).elim hn (by omega)).trans (h.same i hi hn),h.env.trans h'.env⟩
theorem az.mono{w w1:World}{F G:List Nat}(h:az w w1 F)(hs:∀ i∈F,i∈G):az w w1 G:=⟨h.size,λ i hi hn=>h.same i hi λ hf=>hn (hs i hf),h.env⟩
theorem az.set(w:World)(b i:Nat)(v:Value){F:List Nat}(h:b∈F):az w (w.setCell ⟨b,i,none⟩ v) F :=
  ⟨by simp,λ k _ hn=>by rw[heap_set,if_neg (λ e:b=k=>hn (e▸h))],⟨rfl,rfl,rfl⟩⟩
theorem az.new(w:World)(o:Obj)(F:List Nat):az w (w.alloc o) F :=
  ⟨by simp,λ k hk _=>by rw[ct,if_neg (by omega)],⟨rfl,rfl,rfl⟩⟩
theorem az.grown{w w' : World}{r:Option Nat}(h:w.grownBy w' r):az w w' r.toList :=
  ⟨h.size,λ i hi hn=>h.block i hi (λ e=>hn (by rw[<- e]; simp)),⟨h.os,h.tape,h.output⟩⟩
theorem dN{w:World}{b:Nat}{o:Obj}(h:w.heap[b]? = some o):b<w.heap.size:=(Array.getElem?_eq_some_iff.1 h).1
theorem az.keep{w w' : World}{F:List Nat}(h:az w w' F){b:Nat}{o:Obj}(hb:w.heap[b]? = some o)(hn:b∉F):w'.heap[b]? = some o :=
  (h.same b (dN hb) hn).trans hb
theorem oE{w:World}{b i:Nat}{v:Value}{R:World->Prop}{cs:Array Value}{T:TypeId}(h:w.heap[b]? = some (.cells cs T (0,0)))(hi:i<cs.size)(hv:v.oneCell' = true)(k:R (w.setCell ⟨b,i,none⟩ v)):aN w ⟨b,i,none⟩ v R :=
  ⟨hv,⟨cs[i],by rw[cK,h,cG]; simp[hi]⟩,by rw[E4,h,E5],k⟩
theorem aG{w:World}{o:Obj}{R:Nat->World->Prop}(h:R w.heap.size (w.alloc o)):ak w o R:=h
theorem fQ(g j:Nat):(⟨g,0,none⟩:Addr).add j=⟨g,j,none⟩:=by unfold Addr.add; split<;>simp_all
theorem yY{b o:Nat}{T:TypeId}{R:World->Prop}:∀ (vs:List Value) (i:Nat) (w:World) (c:Array Value),w.heap[b]? = some (.cells c T (0,0))->o+i+vs.length<=c.size->(∀ v∈vs,v.oneCell' = true) ->
    (∀ w',w'.heap[b]? = some (.cells (c.toList.take (o+i)++vs++c.toList.drop (o+i+vs.length)).toArray T (0,0))->az w w' [b]->w'.heap.size=w.heap.size->R w')->aQ ⟨b,o,none⟩ i vs w R
  | [],i,w,c,h,_,_,k=>k w (by simpa using h) (az.refl _ _) rfl
  | v :: vs,i,w,c,h,hl,h1,k=>by
    have ha:(⟨b,o,none⟩:Addr).add i=⟨b,o+i,none⟩:=by unfold Addr.add; split<;>simp_all
    show aN w _ v _;rw[ha];simp only[List.length_cons] at hl;refine oE h (by omega) (h1 v (List.mem_cons_self ..)) ?_;refine yY vs (i+1) _ (c.setIfInBounds (o+i) v) (by rw[heap_set,if_pos rfl,h]; rfl) (by simp; omega) (λ u hu=>h1 u (List.mem_cons_of_mem _ hu)) ?_;intro w' hb hc hs;refine k w' ?_ ((az.set w b (o+i) v (by simp)).trans hc (λ j hj=>.inl hj)) (by rw[hs]; simp);rw[hb]
    congr 3
    have hlt:o+i<c.toList.length:=by simp; omega
    simp only[Array.toList_setIfInBounds,List.length_cons];rw[show o+(i+1)=o+i+1 by omega,List.take_succ_eq_append_getElem (by simpa using hlt),List.take_set_of_le (Nat.le_refl _)];simp only[List.getElem_set_self,List.append_assoc,List.cons_append,List.nil_append]
    congr 3
    rw[List.drop_set_of_lt (by omega)]
    congr 1
    omega
def cU(b:UInt8):Value:=.int .u8 (b.toNat:Int)
theorem lQ{w:World}{base:Nat}{e:TypeId}{size:Nat}{v:Value}{n:Nat}{xs:List Value}{w' : World}(h:w.ownsRow base e size v n xs)(hs:∀ k,v.ownBlock=some k->w'.heap[k]? = w.heap[k]?):w'.ownsRow base e size v n xs:=by
  refine⟨h.1,?_⟩;rcases h.2 with hn | ⟨g,cap,cur,rfl,hb,hgg,rest⟩
  · exact .inl hn
  · exact .inr ⟨g,cap,cur,rfl,hb,(hs g rfl).trans hgg,rest⟩
theorem ei{w:World}{base:Nat}{e:TypeId}{size:Nat}{v:Value}{n:Nat}{xs:List Value}{w' : World}{F:List Nat}(h:w.ownsRow base e size v n xs)(hc:az w w' F)(hs:∀ k,v.ownBlock=some k->k∉F):w'.ownsRow base e size v n xs :=
  lQ h λ k hk=>hc.same k (h.lt k hk).2 (hs k hk)
end Go.Vc
namespace Go.Vc
structure gL (P:Program) (t e:TypeId) (z:Value) (sz by_:Nat):Prop where
  u:P.underlying t=some (.slice e)
  i:∃ i,P.info? e=some i/\i.zero=some z/\i.size=sz/\i.bytes=by_
  zc:z.cells.size=sz
  pos:0<sz
theorem gL.mk'{P:Program}{t e:TypeId}{z:Value}{sz by_:Nat}(hu:P.underlying t=some (.slice e))(hi:(P.info? e).map (λ i=>(i.zero,i.size,i.bytes))=some (some z,sz,by_))(hz:z.cells.size=sz)(hp:0<sz):gL P t e z sz by_:=by
  refine⟨hu,?_,hz,hp⟩
  cases h:P.info? e with
  | none=>simp[h] at hi
  | some i=>simp[h] at hi; exact⟨i,rfl,hi.1,hi.2.1,hi.2.2⟩
def TC(w:World)(v v' : Value):Prop:=∀ j,v'.ownBlock=some j->v.ownBlock=some j\/w.heap.size<=j
theorem CR{P:Program}{w:World}{t ty e:TypeId}{z:Value}{sz by_:Nat}(hT:gL P t e z sz by_){v:Value}{n:Nat}{xs:List Value}(own:w.ownsRow 0 e sz v n xs){a:Addr}{m c:Nat}{news:List Value}(hl:news.length=m*sz)(hnews:∀ j u,news[j]? = some u->w.cell? (a.add j)=some u)(h1:∀ u∈news,u.oneCell' = true)(hb:(n+m)*by_<=140737488355328)(hm:n+m<=9223372036854775807){K:KP}(k:∀ v' w',w'.ownsRow 0 e sz v' (n+m) (xs++news)->az w w' v.ownBlock.toList->TC w v v'->K v' w') :
    aZ P (Builtin.append_ #[t,t] ty #[v,.slice (some a) m c]) w K:=by
  obtain⟨i,hi,hz,hs,hby⟩:=hT.i;have hml:n+m<=maxLen:=by unfold maxLen; omega
  obtain⟨v',w',hr,ho,hg,_⟩:=run_append_own (P:=P) w 0 t ty e i z sz by_ hT.u hi hz hs hby hT.zc hT.pos v n xs own a m c news hl hnews h1 hml hb (Nat.zero_le _);refine⟨v',w',hr,k v' w' ho (az.grown hg) ?_⟩;rcases own.2 with⟨rfl,rfl⟩ | ⟨g,cap,cur,rfl,_,hgg,hnc,hcm,hcs,htake⟩
  · have own' : w.ownsRow w.heap.size e sz (.slice none 0 0) 0 xs:=⟨own.1,.inl ⟨rfl,rfl⟩⟩;obtain⟨v2,w2,hr2,ho2,_⟩:=run_append_own (P:=P) w w.heap.size t ty e i z sz by_ hT.u hi hz hs hby hT.zc hT.pos _ 0 xs own' a m c news hl hnews h1 hml hb (Nat.le_refl _);rw[hr] at hr2
    cases hr2
    exact λ j hj=>.inr (ho2.lt j hj).1
  · by_cases hroom:n+m<=cap
    · have hfit:n*i.size+news.length<=cur.size:=by rw[hl,hcs,hs,<- Nat.add_mul]; exact Nat.mul_le_mul_right _ hroom
      have hr2:=run_append_room (P:=P) w t ty e i hT.u hi g n cap cur hgg a m c news (by rw[hs]; exact hl) hnews h1 hroom hfit;rw[hr] at hr2
      cases hr2
      exact λ j hj=>.inl hj
    · have holds:∀ j u,xs[j]? = some u->w.cell? ((⟨g,0,none⟩:Addr).add j)=some u:=own.cells (g:=g) rfl;have hr2:=run_append_grow (P:=P) w t ty e i z hT.u hi hz ⟨g,0,none⟩ n cap xs (by rw[hs]; exact own.1) holds a m c news (by rw[hs]; exact hl) hnews (by omega) (by omega) (growslice_fits (by omega) (by rw[hby]; exact hb));rw[hr] at hr2
      cases hr2
      intro j hj;simp[Value.ownBlock] at hj;exact .inr (by omega)
theorem DR{w:World}{base:Nat}{e:TypeId}{v:Value}{n:Nat}{xs:List Value}(own:w.ownsRow base e 1 v n xs){a:OA}{l c:Nat}(hv:v=.slice a l c) :
    l=n/\(0<n->∃ g cur,a=some ⟨g,0,none⟩/\v.ownBlock=some g/\w.heap[g]? = some (.cells cur e (0,0))/\n<=cur.size/\cur.toList.take n=xs)/\n<=c:=by
  subst hv;rcases own.2 with⟨hv,rfl⟩ | ⟨g,cap,cur,hv,_,hg,h1,_,h3,h4⟩
  · cases hv; exact⟨rfl,λ h=>absurd h (by omega),by omega⟩
  · cases hv
    refine⟨rfl,λ _=>⟨g,cur,rfl,rfl,hg,?_,?_⟩,h1⟩
    · rw[h3]; omega
    · rw[<- h4,Nat.mul_one]
theorem bA{w:World}{base:Nat}{e:TypeId}{sz:Nat}{v:Value}{n:Nat}{xs:List Value}(own:w.ownsRow base e sz v n xs):∃ a c,v=.slice a n c:=by
  rcases own.2 with⟨rfl,rfl⟩ | ⟨g,cap,cur,rfl,_⟩
  · exact⟨_,_,rfl⟩
  · exact⟨_,_,rfl⟩
theorem KL{P:Program}{w:World}{t e:TypeId}{z:Value}{by_:Nat}(hT:gL P t e z 1 by_)(hz1:z.cells = #[z]){n:Int}(h0:0<=n)(hn:(by_:Int)*n<=281474976710656)(h63:n<=9223372036854775807){K:KP}(k:K (.slice (some ⟨w.heap.size,0,none⟩) n.toNat n.toNat) (w.alloc (.cells (Array.replicate n.toNat z) e))) :
    aZ P (Instr.makeSlice t (.int .i64 n) (.int .i64 n)) w K:=by
  obtain⟨i,hi,hz,hs,hby⟩:=hT.i;have hr:=run_make (P:=P) w t e i z hT.u hi hz .i64 .i64 n n h0 (Int.le_refl _) (by rw[hby]; exact hn) h63;refine⟨_,_,hr,?_⟩;have:madeCells z.cells (n.toNat*i.size)=Array.replicate n.toNat z:=by
    rw[hs,Nat.mul_one,hz1];apply Array.ext
    · simp[size_madeCells]
    · intro j h1 h2;simp[madeCells,Nat.mod_one]
  rw[this];exact k
theorem ET{P:Program}{w:World}{t ty e:TypeId}{z:Value}{by_:Nat}(hT:gL P t e z 1 by_){g dLen dCap:Nat}{cur:Array Value}(hg:w.heap[g]? = some (.cells cur e (0,0))){a:OA}{sLen sCap:Nat}{cs:List Value}(hn:cs.length=Nat.min sLen dLen)(hfit:dLen<=cur.size)(hsrc:0<cs.length->∃ ad,a=some ad/\∀ j u,cs[j]? = some u->w.cell? (ad.add j)=some u)(h1:∀ u∈cs,u.oneCell' = true){K:KP}(k:∀ w',w'.heap[g]? = some (.cells (cs++cur.toList.drop cs.length).toArray e (0,0))->az w w' [g]->K (goInt cs.length) w') :
    aZ P (Builtin.copy_ #[t,t] ty #[.slice (some ⟨g,0,none⟩) dLen dCap,.slice a sLen sCap]) w K:=by
  obtain⟨i,hi,hz,hs,hby⟩:=hT.i;have hsz:(P.info? e).map (·.size)=some 1:=by simp[hi,hs]
  by_cases h0:cs.length=0
  · obtain rfl:cs=[]:=List.eq_nil_of_length_eq_zero h0;have hr:=run_copy_none (P:=P) w t t ty e (some ⟨g,0,none⟩) a dLen dCap sLen sCap hT.u hsz (by simpa using hn.symm);exact⟨_,_,hr,k w (by simpa using hg) (az.refl _ _)⟩
  · obtain⟨ad,rfl,hc⟩:=hsrc (by omega);have hm:cs.length<=dLen:=by have:=Nat.min_le_right sLen dLen; simp only[hn]; exact this
    have hr:=run_copy_row (P:=P) w t t ty e g 0 dLen dCap ad sLen sCap cur e cs hT.u hsz hg hn hc (by omega) h1;refine⟨_,_,hr,k _ ?_ ?_⟩
    · rw[setRow_heap w g cur _ e _ hg]; simp
    · exact⟨by simp[World.setRow],λ j _ hj=>setRow_other w g j _ (by simpa using hj),⟨rfl,rfl,rfl⟩⟩
theorem wv(l:List UInt8):strOfNums (l.map λ b=>(b.toNat:Int))=⟨l.toArray⟩:=by
  unfold strOfNums
  congr 1
  congr 1
  induction l with
  | nil=>rfl
  | cons b l ih=>simp[ih]
theorem tv{P:Program}{w:World}{t e dst:TypeId}(ht:P.underlying t=some (.slice e))(he:P.underlying e=some (.int .u8))(hd:P.underlying dst=some .string){v:Value}{l:List UInt8}{base:Nat}{e' : TypeId}(own:w.ownsRow base e' 1 v l.length (l.map cU)){K:KP}(k:K (.string ⟨l.toArray⟩) w):aZ P (convert t dst v) w K:=by
  obtain⟨a,c,rfl⟩:=bA own;obtain⟨_,hc,_⟩:=DR own rfl
  by_cases h0:l=[]
  · subst h0;rcases own.2 with⟨hv,_⟩ | ⟨g,cap,cur,hv,_⟩
    · cases hv
      exact⟨_,_,run_convert_bytes_nil (P:=P) w t e ht he 0 0 dst hd,k⟩
    · cases hv
      refine⟨_,_,run_convert_bytes_arg (P:=P) w t e ht he g 0 0 _ [] rfl (λ i hi=>absurd hi (by omega)) dst hd,?_⟩;exact k
  · have hpos:0<l.length:=List.length_pos_iff.2 h0;obtain⟨g,cur,rfl,_,hg,hle,htake⟩:=hc hpos;refine⟨_,_,run_convert_bytes_arg (P:=P) w t e ht he g 0 l.length c (l.map λ b=>(b.toNat:Int)) (by simp) (λ i hi=>?_) dst hd,by rw[wv]; exact k⟩;rw[cK,hg,cG];have h2:(cur.toList.take l.length)[i]? = (l.map cU)[i]?:=by rw[htake]
    rw[List.getElem?_take,if_pos hi] at h2;simp only[Nat.zero_add];rw[<- Array.getElem?_toList,h2];simp[cU,hi]
end Go.Vc
namespace Go.Vc
structure aD where
  p:World->List Nat->Prop
  loc:∀ {w w' : World} {F G:List Nat},p w F->az w w' G->(∀ k∈F,k∉G)->p w' F
  lt:∀ {w:World} {F:List Nat},p w F->∀ k∈F,k<w.heap.size
def To(A:aD)(w w' : World)(F:List Nat):Prop:=∃ F',A.p w' F'/\az w w' F/\∀ k∈F',k∈F\/w.heap.size<=k
def star(A B:aD):aD where
  p w F:=∃ F1 F2,F=F1++F2/\A.p w F1/\B.p w F2/\∀ k∈F1,k∉F2
  loc:=by
    rintro w w' F G ⟨F1,F2,rfl,h1,h2,hd⟩ hc hn;exact⟨F1,F2,rfl,A.loc h1 hc λ k hk=>hn k (List.mem_append_left _ hk),B.loc h2 hc λ k hk=>hn k (List.mem_append_right _ hk),hd⟩
  lt:=by
    rintro w F ⟨F1,F2,rfl,h1,h2,hd⟩ k hk;rcases List.mem_append.1 hk with h | h
    · exact A.lt h1 k h
    · exact B.lt h2 k h
def St(w0 w:World)(A:aD):Prop:=∃ F,A.p w F/\az w0 w []/\∀ k∈F,w0.heap.size<=k
theorem St.av{w0 w:World}{A:aD}(h:St w0 w A):az w0 w []:=let ⟨_,_,hc,_⟩:=h; hc
theorem St.use{w0 w:World}{A B:aD}(h:St w0 w (star A B)):∃ F1,A.p w F1/\∀ w' A',To A' w w' F1->St w0 w' (star A' B):=by
  obtain⟨F,⟨F1,F2,rfl,h1,h2,hd⟩,hc,hn⟩:=h;refine⟨F1,h1,λ w' A' ⟨F1',h1',hc',hf⟩=>?_⟩;refine⟨F1'++F2,⟨F1',F2,rfl,h1',B.loc h2 hc' λ j hj hj1=>hd j hj1 hj,λ j hj hj2=>?_⟩,hc.trans hc' (λ i hi=>.inr (hn i (List.mem_append_left _ hi))),λ j hj=>?_⟩
  · rcases hf j hj with h | h
    · exact hd j h hj2
    · have:=B.lt h2 j hj2; omega
  · rcases List.mem_append.1 hj with h | h
    · rcases hf j h with h | h
      · exact hn j (List.mem_append_left _ h)
      · exact Nat.le_trans hc.size h
    · exact hn j (List.mem_append_right _ h)
theorem St.quiet{w0 w w' : World}{A:aD}(h:St w0 w A)(hc:az w w' []):St w0 w' A:=by
  obtain⟨F,hA,hc0,hn⟩:=h;exact⟨F,A.loc hA hc (by simp),hc0.trans hc (by simp),hn⟩
theorem St.add{w0 w w' : World}{A B:aD}{G:List Nat}(h:St w0 w A)(hc:az w w' [])(hB:B.p w' G)(hG:∀ k∈G,w.heap.size<=k):St w0 w' (star A B):=by
  obtain⟨F,hA,hc0,hn⟩:=h;refine⟨F++G,⟨F,G,rfl,A.loc hA hc (by simp),hB,λ k hk hk2=>?_⟩,hc0.trans hc (by simp),λ k hk=>?_⟩
  · have:=A.lt hA k hk;have:=hG k hk2;omega
  · rcases List.mem_append.1 hk with h | h
    · exact hn k h
    · exact Nat.le_trans hc0.size (hG k h)
def emp:aD where
  p _ F:=F=[]
  loc:=λ h _ _=>h
  lt:=λ h k hk=>by subst h; cases hk
theorem St.start(w:World):St w w emp:=⟨[],rfl,az.refl _ _,by simp⟩
theorem St.start'{w w' : World}(h:az w w' []):St w w' emp:=⟨[],rfl,h,by simp⟩
theorem St.first{w0 w:World}{A B:aD}(h:St w0 w (star A B)):St w0 w A:=by
  obtain⟨F,⟨F1,F2,rfl,h1,_,_⟩,hc,hn⟩:=h;exact⟨F1,h1,hc,λ k hk=>hn k (List.mem_append_left _ hk)⟩
theorem St.second{w0 w:World}{A B:aD}(h:St w0 w (star A B)):St w0 w B:=by
  obtain⟨F,⟨F1,F2,rfl,_,h2,_⟩,hc,hn⟩:=h;exact⟨F2,h2,hc,λ k hk=>hn k (List.mem_append_right _ hk)⟩
theorem St.swap{w0 w:World}{A B:aD}(h:St w0 w (star A B)):St w0 w (star B A):=by
  obtain⟨F,⟨F1,F2,rfl,h1,h2,hd⟩,hc,hn⟩:=h;exact⟨F2++F1,⟨F2,F1,rfl,h2,h1,λ k hk hk1=>hd k hk1 hk⟩,hc,λ k hk=>hn k (by simpa[or_comm] using hk)⟩
theorem St.get{w0 w:World}{A:aD}(h:St w0 w A):∃ F,A.p w F:=let ⟨F,hF,_⟩:=h; ⟨F,hF⟩
theorem St.AJ{w0 w:World}{A B C:aD}(h:St w0 w (star A (star B C))):St w0 w (star B (star A C)):=by
  obtain⟨F,⟨F1,F',rfl,h1,⟨F2,F3,rfl,h2,h3,hd2⟩,hd⟩,hc,hn⟩:=h;refine⟨F2++(F1++F3),⟨F2,F1++F3,rfl,h2,⟨F1,F3,rfl,h1,h3,λ k hk hk3=>hd k hk (List.mem_append_right _ hk3)⟩,λ k hk hk1=>?_⟩,hc,λ k hk=>hn k ?_⟩
  · rcases List.mem_append.1 hk1 with h | h
    · exact hd k h (List.mem_append_left _ hk)
    · exact hd2 k hk h
  · simp only[List.mem_append] at hk ⊢;rcases hk with h | h | h
    · exact .inr (.inl h)
    · exact .inl h
    · exact .inr (.inr h)
theorem St.assoc{w0 w:World}{A B C:aD}(h:St w0 w (star (star A B) C)):St w0 w (star A (star B C)):=by
  obtain⟨F,⟨F',F3,rfl,⟨F1,F2,rfl,h1,h2,hd2⟩,h3,hd⟩,hc,hn⟩:=h;refine⟨F1++(F2++F3),⟨F1,F2++F3,rfl,h1,⟨F2,F3,rfl,h2,h3,λ k hk hk3=>hd k (List.mem_append_right _ hk) hk3⟩,λ k hk hk1=>?_⟩,hc,λ k hk=>hn k ?_⟩
  · rcases List.mem_append.1 hk1 with h | h
    · exact hd2 k hk h
    · exact hd k (List.mem_append_left _ hk) h
  · simpa using hk
def ai(r:Nat)(cs:Array Value)(T:TypeId):aD where
  p w F:=w.heap[r]? = some (.cells cs T (0,0))/\F=[r]
  loc:=λ ⟨h,he⟩ hc hd=>⟨hc.keep h (hd _ (by rw[he]; simp)),he⟩
  lt:=λ ⟨h,he⟩ k hk=>by subst he; simp at hk; subst hk; exact dN h
theorem St.box{w0 w:World}{A:aD}(h:St w0 w A)(cs:Array Value)(T:TypeId):St w0 (w.alloc (.cells cs T)) (star A (ai w.heap.size cs T)) :=
  h.add (az.new _ _ _) (B:=ai w.heap.size cs T) ⟨by rw[ct,if_pos rfl],rfl⟩ (by simp)
theorem St.boxed{w0 w:World}{B:aD}{r:Nat}{cs:Array Value}{T:TypeId}(h:St w0 w (star (ai r cs T) B))(i:Nat):w.cell? ⟨r,i,none⟩=cs[i]?:=by
  obtain⟨F,hF⟩:=h.first.get;rw[cK,hF.1,cG]
theorem bT{w w' : World}{a:Addr}{v:Value}(h:w.cell? a=some v)(hc:az w w' []):w'.cell? a=some v:=by
  rw[World.cell?_of_block (hc.same a.block (World.block_lt_of_cell? w a h) (by simp))]; exact h
theorem br{w w' : World}{a:Addr}(hc:az w w' []):∀ {vs:List Value} {i:Nat},af w a i vs->af w' a i vs
  | [],_,_=>trivial
  | _ :: _,_,h=>⟨bT h.1 hc,br hc h.2⟩
def aS(A B:aD):Prop:=∀ w F,A.p w F->∃ F',B.p w F'/\∀ j,j∈F'<->j∈F
theorem aS.refl(A:aD):aS A A:=λ _ F h=>⟨F,h,λ _=>Iff.rfl⟩
theorem aS.trans{A B C:aD}(h:aS A B)(k:aS B C):aS A C:=λ w F hA =>
  let ⟨F',hB,h1⟩:=h w F hA;let ⟨F'',hC,h2⟩:=k w F' hB
  ⟨F'',hC,λ j=>(h2 j).trans (h1 j)⟩
theorem aS.right{A B C:aD}(h:aS B C):aS (star A B) (star A C):=by
  rintro w F ⟨F1,F2,rfl,h1,h2,hd⟩;obtain⟨F2',h2',hj⟩:=h w F2 h2;exact⟨F1++F2',⟨F1,F2',rfl,h1,h2',λ k hk hk2=>hd k hk ((hj k).1 hk2)⟩,λ j=>by simp[hj]⟩
theorem aS.AJ{A B C:aD}:aS (star A (star B C)) (star B (star A C)):=by
  rintro w F ⟨F1,F',rfl,h1,⟨F2,F3,rfl,h2,h3,hd2⟩,hd⟩;refine⟨F2++(F1++F3),⟨F2,F1++F3,rfl,h2,⟨F1,F3,rfl,h1,h3,λ k hk hk3=>hd k hk (List.mem_append_right _ hk3)⟩,λ k hk hk1=>?_⟩,λ j=>by simp; constructor<;>(rintro(h | h | h)<;>simp[h])⟩;rcases List.mem_append.1 hk1 with h | h
  · exact hd k h (List.mem_append_left _ hk)
  · exact hd2 k hk h
theorem St.eqv{w0 w:World}{A B:aD}(h:St w0 w A)(k:aS A B):St w0 w B:=by
  obtain⟨F,hA,hc,hn⟩:=h;obtain⟨F',hB,hj⟩:=k w F hA;exact⟨F',hB,hc,λ j hj'=>hn j ((hj j).1 hj')⟩
def Sep:List aD->aD
  | []=>emp
  | A :: l=>star A (Sep l)
def pull:Nat->List aD->List aD
  | 0,l=>l
  | _+1,[]=>[]
  | i+1,A :: l=>match pull i l with
    | []=>[A]
    | B :: l'=>B :: A :: l'
def push:Nat->List aD->List aD
  | 0,l=>l
  | i+1,A :: B :: l=>B :: push i (A :: l)
  | _+1,l=>l
theorem aS.pull:∀ (i:Nat) (l:List aD),aS (Sep l) (Sep (pull i l))
  | 0,_=>aS.refl _
  | _+1,[]=>aS.refl _
  | i+1,A :: l=>by
    have h:=aS.right (A:=A) (aS.pull i l);unfold Vc.pull
    cases hp:Vc.pull i l with
    | nil=>rw[hp] at h; exact h
    | cons B l'=>rw[hp] at h; exact h.trans aS.AJ
theorem aS.push:∀ (i:Nat) (l:List aD),aS (Sep l) (Sep (push i l))
  | 0,_=>aS.refl _
  | _+1,[]=>aS.refl _
  | _+1,[_]=>aS.refl _
  | i+1,A :: B :: l=>aS.AJ.trans (aS.right (A:=B) (aS.push i (A :: l)))
theorem St.pull{w0 w:World}{l:List aD}(h:St w0 w (Sep l))(i:Nat):St w0 w (Sep (Vc.pull i l)):=h.eqv (aS.pull i l)
theorem St.push{w0 w:World}{l:List aD}(h:St w0 w (Sep l))(i:Nat):St w0 w (Sep (Vc.push i l)):=h.eqv (aS.push i l)
end Go.Vc
namespace Go.Vc
def sA:Nat->Nat->List UInt8
  | 0,_=>[]
  | k+1,x=>UInt8.ofNat (x%256) :: sA k (x / 256)
theorem aJ:∀ (k x:Nat),(sA k x).length=k
  | 0,_=>rfl
  | k+1,x=>by simp[sA,aJ k]
theorem wJ:∀ (k x i:Nat),i<k->(sA k x)[i]? = some (UInt8.ofNat (x / 256 ^ i%256))
  | 0,_,_,h=>absurd h (by omega)
  | k+1,x,0,_=>by simp[sA]
  | k+1,x,i+1,h=>by
    simp only[sA,List.getElem?_cons_succ];rw[wJ k (x / 256) i (by omega),Nat.div_div_eq_div_mul,Nat.pow_succ,Nat.mul_comm 256]
theorem KD(k x:Nat):sA (k+1) x=sA k x++[UInt8.ofNat (x / 256 ^ k%256)]:=by
  apply List.ext_getElem?;intro i
  by_cases h:i<k
  · rw[wJ _ _ _ (by omega),List.getElem?_append_left (by rw[aJ]; exact h),wJ _ _ _ h]
  · by_cases h2:i=k
    · subst h2;rw[wJ _ _ _ (by omega),List.getElem?_append_right (by rw[aJ]; exact Nat.le_refl _)];simp[aJ]
    · rw[List.getElem?_eq_none (by rw[aJ]; omega),List.getElem?_eq_none (by simp[aJ]; omega)]
theorem Av{w:World}{g:Nat}{e:TypeId}{l:List UInt8}(h:w.heap[g]? = some (.cells (l.map cU).toArray e (0,0)))(hl:l.length<=9223372036854775807) :
    w.ownsRow 0 e 1 (.slice (some ⟨g,0,none⟩) l.length l.length) l.length (l.map cU):=by
  refine⟨by simp,.inr ⟨g,l.length,(l.map cU).toArray,rfl,Nat.zero_le _,h,Nat.le_refl _,?_,?_,?_⟩⟩
  · unfold maxLen; exact hl
  · simp
  · simp only[Nat.mul_one];exact List.take_of_length_le (by simp)
theorem ofNat_toNat(n:Nat):((UInt8.ofNat (n%256)).toNat:Int)=((n%256:Nat):Int):=by
  rw[UInt8.toNat_ofNat']; simp
theorem KG(x i:Nat)(hi:i<8):IntKind.u8.wrap (Int.fdiv (x:Int) (2 ^ (min ((IntKind.i64.wrap ((8:Int)*(i:Int)))).toNat IntKind.u64.bits)))=((UInt8.ofNat (x / 256 ^ i%256)).toNat:Int):=by
  have h1:IntKind.i64.wrap ((8:Int)*(i:Int))=((8*i:Nat):Int):=by rw[IntWalk.i64_in _ (by omega)]; omega
  have h2:min (8*i) IntKind.u64.bits=8*i:=by
    have:IntKind.u64.bits=64:=rfl;omega
  rw[h1,Int.toNat_natCast,h2,ofNat_toNat];have h3:((2:Int) ^ (8*i))=((256 ^ i:Nat):Int):=by
    rw[Int.pow_mul]; simp
  rw[h3];have h4:Int.fdiv (x:Int) ((256 ^ i:Nat):Int)=((x / 256 ^ i:Nat):Int):=by
    rw[Int.fdiv_eq_ediv_of_nonneg _ (Int.natCast_nonneg _)]; exact(Int.natCast_ediv _ _).symm
  rw[h4,IntKind.wrap_u8];omega
theorem DH{P:Program}{t:TypeId}{by_:Nat}(hT:gL P t 5 (.int .u8 0) 1 by_)(hby:by_=1)(x k:Nat)(hk:k<=8){w:World}{A:Option Addr->Nat->Nat->World->Prop}(hA:∀ w2 g,az w w2 []->w2.heap[g]? = some (.cells ((sA k x).map cU).toArray 5 (0,0))->w.heap.size<=g->A (some ⟨g,0,none⟩) k k w2) :
    aZ P (Instr.makeSlice t (.int .i64 (k:Int)) (.int .i64 (k:Int))) w λ e1 w1=>∃ (a1:OA) (l1 c1:Nat),e1=(.slice a1 l1 c1) /\
      ∃ I1:Int->World->Nat->Prop,(∃ m1,I1 (0:Int) w1 m1)/\∀ (w2:World) (m1:Nat) (n3:Int),I1 n3 w2 m1->∀ _:Nat->Value,
        cond (decide (n3<((l1:Nat):Int))) (0<=(IntKind.i64.wrap ((8:Int)*n3))/\an a1 λ q1=>0<=n3/\n3<((l1:Nat):Int) /\
            aN w2 (Addr.add q1 ((n3).toNat*1)) (.int .u8 (IntKind.u8.wrap (Int.fdiv (x:Int) (2 ^ (min ((IntKind.i64.wrap ((8:Int)*n3))).toNat IntKind.u64.bits))))) λ w3 =>
            ∃ m2,m2<m1/\I1 (IntKind.i64.wrap (n3+(1:Int))) w3 m2) (A a1 l1 c1 w2):=by
  subst hby;refine KL hT rfl (by omega) (by omega) (by omega) ⟨_,_,_,rfl,?_⟩;obtain⟨g,hg⟩:∃ g,w.heap.size=g:=⟨_,rfl⟩;rw[hg,Int.toNat_natCast];refine⟨λ n3 w2 m=>∃ i:Nat,n3=(i:Int)/\i<=k/\m=k-i/\az w w2 []/\w2.heap[g]? = some (.cells (((sA i x).map cU)++List.replicate (k-i) (Value.int .u8 0)).toArray 5 (0,0)),
    ⟨k,0,rfl,by omega,by omega,az.new _ _ _,by rw[ct,if_pos hg.symm]; simp[sA]⟩,?_⟩
  rintro w2 m n3 ⟨i,rfl,hi,rfl,hc,hgg⟩ -
  by_cases hlt:i<k
  · refine cT (decide_eq_true (by omega)) ⟨?_,by omega,by omega,?_⟩
    · rw[IntWalk.i64_in _ (by omega)]; omega
    · rw[Int.toNat_natCast,fQ,Nat.mul_one];refine oE hgg (by simp[aJ]; omega) rfl ⟨k-(i+1),by omega,i+1,?_,by omega,rfl,?_,?_⟩
      · rw[IntWalk.i64_in _ (by omega)]; omega
      · refine hc.trans (az.set w2 g i _ (F:=[g]) (by simp)) (λ j hj=>.inr (by simp at hj; omega))
      · rw[heap_set,if_pos rfl,hgg,yS,KG x i (by omega),KD]
        congr 2
        rw[List.setIfInBounds_toArray]
        congr 1
        rw[List.set_append_right _ _ (by simp[aJ])];rw[show k-i=(k-(i+1))+1 by omega,List.replicate_succ];simp[aJ,cU]
  · obtain rfl:i=k:=by omega
    refine cF (decide_eq_false (by omega)) (hA w2 g hc ?_ (by omega));rw[hgg]; simp
def cw(e:TypeId)(sz:Nat)(v:Value)(n:Nat)(xs:List Value):aD where
  p w F:=w.ownsRow 0 e sz v n xs/\F=v.ownBlock.toList
  loc:=λ ⟨h,he⟩ hc hd=>⟨ei h hc λ k hk=>hd k (by rw[he]; simp[hk]),he⟩
  lt:=λ ⟨h,he⟩ k hk=>by subst he; simp at hk; exact(h.lt k hk).2
theorem St.Fj{w0 w:World}{A:aD}(h:St w0 w A)(e:TypeId)(sz:Nat):St w0 w (star A (cw e sz (.slice none 0 0) 0 [])) :=
  h.add (az.refl _ _) (B:=cw e sz _ 0 []) (G:=[]) ⟨⟨by simp,.inl ⟨rfl,rfl⟩⟩,rfl⟩ (by simp)
theorem Bi{P:Program}{w0 w:World}{B:aD}{t ty e:TypeId}{z:Value}{sz by_:Nat}(hT:gL P t e z sz by_){v:Value}{n:Nat}{xs:List Value}(h:St w0 w (star (cw e sz v n xs) B)){a:Addr}{m c:Nat}{news:List Value}(hl:news.length=m*sz)(hnews:∀ j u,news[j]? = some u->w.cell? (a.add j)=some u)(h1:∀ u∈news,u.oneCell' = true)(hb:(n+m)*by_<=140737488355328)(hm:n+m<=9223372036854775807){K:KP}(k:∀ v' w',St w0 w' (star (cw e sz v' (n+m) (xs++news)) B)->K v' w'):aZ P (Builtin.append_ #[t,t] ty #[v,.slice (some a) m c]) w K:=by
  obtain⟨F,⟨own,rfl⟩,use⟩:=h.use;refine CR hT own hl hnews h1 hb hm λ v' w' own' hc hn=>k v' w' (use w' (cw e sz v' (n+m) (xs++news)) ⟨_,⟨own',rfl⟩,hc,λ j hj=>?_⟩);rcases hn j (by simpa using hj) with h' | h'
  · exact .inl (by simp[h'])
  · exact .inr h'
theorem wD{P:Program}{w0 w:World}{B:aD}{t ty e:TypeId}{z:Value}{sz by_:Nat}(hT:gL P t e z sz by_){v:Value}{n:Nat}{xs:List Value}(h:St w0 w (star (cw e sz v n xs) B)){news:List Value}(hl:news.length=sz)(h1:∀ u∈news,u.oneCell' = true)(hb:(n+1)*by_<=140737488355328)(hm:n+1<=9223372036854775807){R:Option Addr->Nat->Nat->World->Prop}(k:∀ a c w',St w0 w' (star (cw e sz (.slice a (n+1) c) (n+1) (xs++news)) B)->R a (n+1) c w'){cs:Array Value}(hcs:cs=news.toArray) :
    ak w (.cells cs e) λ r w1=>aZ P (Builtin.append_ #[t,t] ty #[v,.slice (some ⟨r,0,none⟩) 1 1]) w1 λ e w2=>∃ a l c,e=.slice a l c/\R a l c w2:=by
  subst hcs;refine aG ?_;have h' : St w0 (w.alloc (.cells news.toArray e)) (star (cw e sz v n xs) B):=h.quiet (az.new _ _ _);refine Bi hT h' (m:=1) (news:=news) (by omega) (λ j u hj=>?_) h1 hb hm λ v' w' h''=>?_
  · rw[fQ,cK,ct,if_pos rfl,cG]; simpa using hj
  · obtain⟨F,⟨own,_⟩,_⟩:=h''.use;obtain⟨a,c,rfl⟩:=bA own;exact⟨a,_,c,rfl,k a c w' h''⟩
theorem L3{P:Program}{w0 w:World}{B:aD}{t e dst:TypeId}(ht:P.underlying t=some (.slice e))(he:P.underlying e=some (.int .u8))(hd:P.underlying dst=some .string){v:Value}{l:List UInt8}{e' : TypeId}(h:St w0 w (star (cw e' 1 v l.length (l.map cU)) B)){K:KP}(k:K (.string ⟨l.toArray⟩) w):aZ P (convert t dst v) w K:=by
  obtain⟨F,⟨own,_⟩,_⟩:=h.use;exact tv ht he hd own k
theorem St.rowOf{w0 w:World}{B:aD}{e:TypeId}{sz n:Nat}{v:Value}{xs:List Value}(h:St w0 w (star (cw e sz v n xs) B)):w.ownsRow 0 e sz v n xs:=by
  obtain⟨F,⟨own,_⟩,_⟩:=h.use;exact own
def aK(b:Nat)(o:Obj):aD where
  p w F:=w.heap[b]? = some o/\F=[b]
  loc:=λ ⟨h,he⟩ hc hd=>⟨hc.keep h (hd b (by rw[he]; simp)),he⟩
  lt:=λ ⟨h,he⟩ k hk=>by subst he; simp at hk; subst hk; exact dN h
theorem az.put(w:World)(b:Nat)(o:Obj){F:List Nat}(h:b∈F):az w (w.putObj b o) F :=
  ⟨by simp[World.putObj],λ i _ hn=>World.putObj_heap_other (λ e=>hn (e▸h)),⟨rfl,rfl,rfl⟩⟩
theorem St.obj{w0 w:World}{B:aD}{b:Nat}{o:Obj}(h:St w0 w (star (aK b o) B)):w.heap[b]? = some o:=by
  obtain⟨F,⟨ho,_⟩,_⟩:=h.use;exact ho
theorem St.put{w0 w:World}{B:aD}{b:Nat}{o:Obj}(h:St w0 w (star (aK b o) B))(o' : Obj):St w0 (w.putObj b o') (star (aK b o') B):=by
  obtain⟨F,⟨ho,rfl⟩,use⟩:=h.use;exact use _ (aK b o') ⟨[b],⟨World.putObj_heap_same (dN ho),rfl⟩,az.put w b o' (by simp),λ j hj=>.inl hj⟩
theorem St.newObj{w0 w:World}{A:aD}(h:St w0 w A)(o:Obj):St w0 (w.alloc o) (star A (aK w.heap.size o)) :=
  h.add (az.new _ _ _) (B:=aK w.heap.size o) (G:=[w.heap.size]) ⟨by rw[ct,if_pos rfl],rfl⟩ (by simp)
def iO(h:Nat)(b:UInt8):Nat:=(h ^^^ b.toNat)*1099511628211%18446744073709551616
def GI(l:List UInt8):Nat:=l.foldl iO 14695981039346656037
theorem vf(h:Nat)(b:UInt8):iO h b<18446744073709551616:=Nat.mod_lt _ (by decide)
theorem Dm(h:Nat)(hh:h<18446744073709551616)(b:UInt8) :
    IntKind.u64.wrap ((Rv .u64 (h:Int) (IntKind.u64.wrap (b.toNat:Int)))*(1099511628211:Int))=((iO h b:Nat):Int):=by
  have hb:=b.toNat_lt;have h1:IntKind.u64.wrap (b.toNat:Int)=(b.toNat:Int):=IntWalk.u64_in _ (by omega);have h2:Rv .u64 (h:Int) (b.toNat:Int)=((h ^^^ b.toNat:Nat):Int):=by
    show IntKind.u64.wrap (((BitVec.ofInt 64 (h:Int) ^^^ BitVec.ofInt 64 (b.toNat:Int)).toNat:Nat):Int)=_;have h3:(BitVec.ofInt 64 (h:Int) ^^^ BitVec.ofInt 64 (b.toNat:Int)).toNat=h ^^^ b.toNat:=by
      rw[BitVec.toNat_xor,BitVec.toNat_ofInt,BitVec.toNat_ofInt];have e1:((h:Int)%((2 ^ 64:Nat):Int)).toNat=h:=by omega
      have e2:((b.toNat:Int)%((2 ^ 64:Nat):Int)).toNat=b.toNat:=by omega
      rw[e1,e2]
    rw[h3];have h4:h ^^^ b.toNat<2 ^ 64:=Nat.xor_lt_two_pow (by omega) (by omega);exact IntWalk.u64_in _ (by omega)
  rw[h1,h2,IntKind.wrap_u64];unfold iO;omega
end Go.Vc
namespace Go.Vc
def Jh{α:Type}(f:α->aD):aD where
  p w F:=∃ a,(f a).p w F
  loc:=λ ⟨a,h⟩ hc hd=>⟨a,(f a).loc h hc hd⟩
  lt:=λ ⟨a,h⟩=>(f a).lt h
theorem St.ex{α:Type}{f:α->aD}{w0 w:World}{B:aD}(h:St w0 w (star (Jh f) B)):∃ a,St w0 w (star (f a) B):=by
  obtain⟨F,⟨F1,F2,rfl,⟨a,h1⟩,h2,hd⟩,hc,hn⟩:=h;exact⟨a,_,⟨F1,F2,rfl,h1,h2,hd⟩,hc,hn⟩
theorem St.kK{α:Type}{f:α->aD}{w0 w:World}{B:aD}(a:α)(h:St w0 w (star (f a) B)):St w0 w (star (Jh f) B):=by
  obtain⟨F,⟨F1,F2,rfl,h1,h2,hd⟩,hc,hn⟩:=h;exact⟨_,⟨F1,F2,rfl,⟨a,h1⟩,h2,hd⟩,hc,hn⟩
theorem aS.swap{A B:aD}:aS (star A B) (star B A):=by
  rintro w F ⟨F1,F2,rfl,h1,h2,hd⟩;exact⟨F2++F1,⟨F2,F1,rfl,h2,h1,λ k hk hk'=>hd k hk' hk⟩,λ j=>by simp[or_comm]⟩
theorem aS.assoc{A B C:aD}:aS (star (star A B) C) (star A (star B C)):=by
  rintro w F ⟨F1,F2,rfl,⟨G1,G2,rfl,h1,h2,hd1⟩,h3,hd⟩;refine⟨G1++(G2++F2),⟨G1,G2++F2,rfl,h1,⟨G2,F2,rfl,h2,h3,λ k hk=>hd k (by simp[hk])⟩,λ k hk hk'=>?_⟩,λ j=>by simp⟩;rcases List.mem_append.1 hk' with h | h
  · exact hd1 k hk h
  · exact hd k (by simp[hk]) h
theorem aS.assoc'{A B C:aD}:aS (star A (star B C)) (star (star A B) C):=by
  rintro w F ⟨F1,F2,rfl,h1,⟨G1,G2,rfl,h2,h3,hd1⟩,hd⟩;refine⟨(F1++G1)++G2,⟨F1++G1,G2,rfl,⟨F1,G1,rfl,h1,h2,λ k hk hk'=>hd k hk (by simp[hk'])⟩,h3,λ k hk hk'=>?_⟩,λ j=>by simp⟩;rcases List.mem_append.1 hk with h | h
  · exact hd k h (by simp[hk'])
  · exact hd1 k h hk'
theorem aS.unit(A:aD):aS A (star A emp):=λ _ F h=>⟨F++[],⟨F,[],rfl,h,rfl,by simp⟩,λ j=>by simp⟩
theorem aS.flat{B:aD}:∀ (l:List aD),aS (star (Sep l) B) (Sep (l++[B]))
  | []=>aS.swap
  | _ :: l=>aS.assoc.trans (aS.right (aS.flat l))
theorem aS.Cy{B:aD}:∀ (l:List aD),aS (Sep (l++[B])) (star (Sep l) B)
  | []=>aS.swap
  | _ :: l=>(aS.right (aS.Cy l)).trans aS.assoc'
theorem St.flat{w0 w:World}{l:List aD}{B:aD}(h:St w0 w (star (Sep l) B)):St w0 w (Sep (l++[B])):=h.eqv (aS.flat l)
theorem St.Cy{w0 w:World}{B:aD}(l:List aD)(h:St w0 w (Sep (l++[B]))):St w0 w (star (Sep l) B):=h.eqv (aS.Cy l)
end Go.Vc
namespace Go.Vc
theorem aS.unit'(A:aD):aS (star A emp) A:=by
  rintro w F ⟨F1,F2,rfl,h,rfl,_⟩;exact⟨F1,h,λ j=>by simp⟩
theorem aS.out:∀ {l:List aD} (i:Nat) {A:aD},l[i]? = some A->aS (Sep l) (star A (Sep (l.eraseIdx i)))
  | [],_,_,h=>by simp at h
  | B :: l,0,A,h=>by simp at h; subst h; exact aS.refl _
  | B :: l,i+1,A,h=>(aS.right (aS.out (l:=l) i (by simpa using h))).trans aS.AJ
theorem aS.back:∀ {l:List aD} (i:Nat) {A:aD},i<l.length->aS (star A (Sep (l.eraseIdx i))) (Sep (l.set i A))
  | [],_,_,h=>by simp at h
  | B :: l,0,A,h=>aS.refl _
  | B :: l,i+1,A,h=>aS.AJ.trans (aS.right (aS.back (l:=l) i (by simpa using h)))
theorem St.out{w0 w:World}{l:List aD}(h:St w0 w (Sep l))(i:Nat){A:aD}(e:l[i]? = some A):St w0 w (star A (Sep (l.eraseIdx i))):=h.eqv (aS.out i e)
theorem St.back{w0 w:World}{l:List aD}{A:aD}{i:Nat}(h:St w0 w (star A (Sep (l.eraseIdx i))))(hi:i<l.length:=by decide):St w0 w (Sep (l.set i A)):=h.eqv (aS.back i hi)
section at_
variable {w0 w:World} {l:List aD}
theorem St.ag{r:Nat}{cs:Array Value}{T:TypeId}(h:St w0 w (Sep l))(i:Nat)(e:l[i]? = some (ai r cs T))(j:Nat):w.cell? ⟨r,j,none⟩=cs[j]?:=(h.out i e).boxed j
theorem St.dY{b:Nat}{o:Obj}(h:St w0 w (Sep l))(i:Nat)(e:l[i]? = some (aK b o)):w.heap[b]? = some o:=(h.out i e).obj
theorem St.rowAt{e:TypeId}{sz n:Nat}{v:Value}{xs:List Value}(h:St w0 w (Sep l))(i:Nat)(e1:l[i]? = some (cw e sz v n xs)):w.ownsRow 0 e sz v n xs:=(h.out i e1).rowOf
theorem dO{i:Nat}{A:aD}(e:l[i]? = some A):i<l.length:=by
  rcases Nat.lt_or_ge i l.length with h | h
  · exact h
  · rw[List.getElem?_eq_none h] at e; cases e
theorem St.putAt{b:Nat}{o:Obj}(h:St w0 w (Sep l))(i:Nat)(e:l[i]? = some (aK b o))(o' : Obj):St w0 (w.putObj b o') (Sep (l.set i (aK b o'))) :=
  (St.put (h.out i e) o').back (dO e)
theorem St.bI(h:St w0 w (Sep l))(cs:Array Value)(T:TypeId):St w0 (w.alloc (.cells cs T)) (Sep (ai w.heap.size cs T :: l)):=(h.box cs T).swap
theorem St.Fk(h:St w0 w (Sep l))(o:Obj):St w0 (w.alloc o) (Sep (aK w.heap.size o :: l)):=(h.newObj o).swap
theorem St.Tg(h:St w0 w (Sep l))(e:TypeId)(sz:Nat):St w0 w (Sep (cw e sz (.slice none 0 0) 0 [] :: l)):=(h.Fj e sz).swap
theorem St.aH{cs:Array Value}{r:Nat}{T:TypeId}{v:Value}{j:Nat}{R:World->Prop}(h:St w0 w (Sep l))(i:Nat)(e:l[i]? = some (ai r cs T))(hj:j<cs.size)(hv:v.oneCell' = true)(k:∀ w',St w0 w' (Sep (l.set i (ai r (cs.setIfInBounds j v) T)))->R w'):aN w ⟨r,j,none⟩ v R:=by
  obtain⟨F,⟨ho,rfl⟩,use⟩:=(h.out i e).use;refine oE ho hj hv (k _ ((use _ (ai r (cs.setIfInBounds j v) T) ⟨[r],⟨?_,rfl⟩,az.set _ _ _ _ (by simp),λ j hj=>.inl hj⟩).back (dO e)));rw[heap_set,if_pos rfl,ho]; rfl
theorem St.aA{x:Nat}{cs:Array Value}{T:TypeId}{R:World->Prop}(h:St w0 w (Sep l))(i:Nat)(e:l[i]? = some (ai x cs T))(vs:List Value)(hn:vs.length=cs.size)(h1:∀ v∈vs,v.oneCell' = true)(k:∀ w',St w0 w' (Sep (l.set i (ai x vs.toArray T)))->R w'):aQ ⟨x,0,none⟩ 0 vs w R:=by
  obtain⟨F,⟨ho,rfl⟩,use⟩:=(h.out i e).use;refine yY vs 0 w cs ho (by omega) h1 λ w' hb hc _=>k w' ((use w' (ai x vs.toArray T) ⟨[x],⟨?_,rfl⟩,hc,λ j hj=>.inl hj⟩).back (dO e));rw[hb];have:cs.toList.drop (0+0+vs.length)=[]:=List.drop_of_length_le (by simp; omega);rw[this]
  simp
end at_
def bH(A B:aD):Prop:=∀ w F,A.p w F->∃ F',B.p w F'/\∀ j∈F',j∈F
theorem aS.weak{A B:aD}(h:aS A B):bH A B:=λ w F hA=>let ⟨F',hB,hj⟩:=h w F hA; ⟨F',hB,λ j hj'=>(hj j).1 hj'⟩
theorem bH.trans{A B C:aD}(h:bH A B)(k:bH B C):bH A C:=λ w F hA =>
  let ⟨_,hB,h1⟩:=h w F hA;let ⟨F'',hC,h2⟩:=k w _ hB
  ⟨F'',hC,λ j hj=>h1 j (h2 j hj)⟩
theorem bH.right{A B C:aD}(h:bH B C):bH (star A B) (star A C):=by
  rintro w F ⟨F1,F2,rfl,h1,h2,hd⟩;obtain⟨F2',h2',hj⟩:=h w F2 h2;exact⟨F1++F2',⟨F1,F2',rfl,h1,h2',λ k hk hk2=>hd k hk (hj k hk2)⟩,λ j hj'=>by rcases List.mem_append.1 hj' with h | h<;>simp[h,hj j]⟩
theorem bH.none(A:aD):bH A emp:=λ _ _ _=>⟨[],rfl,by simp⟩
theorem St.weak{w0 w:World}{A B:aD}(h:St w0 w A)(k:bH A B):St w0 w B:=by
  obtain⟨F,hA,hc,hn⟩:=h;obtain⟨F',hB,hs⟩:=k w F hA;exact⟨F',hB,hc,λ j hj=>hn j (hs j hj)⟩
def aq:List Nat->List aD->List aD
  | [],_=>[]
  | i :: is,l=>l.getD i emp :: aq is (l.set i emp)
theorem bH.pick:∀ (is:List Nat) (l:List aD),bH (Sep l) (Sep (aq is l))
  | [],l=>bH.none _
  | i :: is,l=>by
    by_cases hi:i<l.length
    · have e:l[i]? = some (l.getD i emp):=by simp[hi]
      refine(aS.out i e).weak.trans (bH.right ?_);refine bH.trans ?_ (bH.pick is (l.set i emp));refine bH.trans (aS.weak ?_) (aS.back (l:=l) (A:=emp) i hi).weak;exact(aS.unit _).trans aS.swap
    · have e:l.getD i emp=emp:=by simp[List.getElem?_eq_none (Nat.le_of_not_lt hi)]
      have e2:l.set i emp=l:=List.set_eq_of_length_le (Nat.le_of_not_lt hi);unfold Vc.aq;rw[e,e2];exact(bH.pick is l).trans ((aS.unit _).trans aS.swap).weak
theorem St.aq{w0 w:World}{l:List aD}(h:St w0 w (Sep l))(is:List Nat):St w0 w (Sep (Vc.aq is l)):=h.weak (bH.pick is l)
theorem aS.split{m:List aD}:∀ (l:List aD),aS (Sep (l++m)) (star (Sep l) (Sep m))
  | []=>(aS.unit _).trans aS.swap
  | _ :: l=>(aS.right (aS.split l)).trans aS.assoc'
theorem aS.cat{m:List aD}:∀ (l:List aD),aS (star (Sep l) (Sep m)) (Sep (l++m))
  | []=>aS.swap.trans (aS.unit' _)
  | _ :: l=>aS.assoc.trans (aS.right (aS.cat l))
theorem St.split{w0 w:World}{m:List aD}(l:List aD)(h:St w0 w (Sep (l++m))):St w0 w (star (Sep l) (Sep m)):=h.eqv (aS.split l)
theorem St.cat{w0 w:World}{l m:List aD}(h:St w0 w (star (Sep l) (Sep m))):St w0 w (Sep (l++m)):=h.eqv (aS.cat l)
theorem St.two{w0 w:World}{A B:aD}{l:List aD}(h:St w0 w (Sep (star A B :: l))):St w0 w (Sep (A :: B :: l)):=h.assoc
theorem St.join{w0 w:World}{A B:aD}{l:List aD}(h:St w0 w (Sep (A :: B :: l))):St w0 w (Sep (star A B :: l)):=h.eqv aS.assoc'
theorem St.one{w0 w:World}{A:aD}(h:St w0 w A):St w0 w (Sep [A]):=h.eqv (aS.unit A)
theorem St.single{w0 w:World}{A:aD}(h:St w0 w (Sep [A])):St w0 w A:=h.eqv (aS.unit' A)
theorem St.pair{w0 w:World}{A B:aD}(h:St w0 w (Sep [A,B])):St w0 w (star A B):=h.eqv (aS.right (aS.unit' B))
theorem St.vn{w0 w:World}{A B:aD}(h:St w0 w (star A B)):St w0 w (Sep [A,B]):=h.eqv (aS.right (aS.unit B))
theorem St.triple{w0 w:World}{A B C:aD}(h:St w0 w (Sep [A,B,C])):St w0 w (star A (star B C)):=h.eqv (aS.right (aS.right (aS.unit' C)))
theorem St.pF{w0 w:World}{A B C:aD}(h:St w0 w (star A (star B C))):St w0 w (Sep [A,B,C]):=h.eqv (aS.right (aS.right (aS.unit C)))
end Go.Vc
