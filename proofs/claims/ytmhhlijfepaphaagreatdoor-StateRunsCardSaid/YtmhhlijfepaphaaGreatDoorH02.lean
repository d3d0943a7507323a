import Derived.KernelRfl
import Derived.Test.YtmhhlijfepaphaaGreatDoorH01
set_option linter.all false
set_option maxRecDepth 100000
namespace Go.Vc
open Go
def IY{P:Program}{w:World}{t ty e:TypeId}{z:Value}{sz by_:Nat}(d:ru P t e z sz by_){a:OA}{n c f:Nat}(b:n<=c):(Builtin.append_ #[t,t] ty #[.slice a n c,.slice none 0 f]).run P w=.ok (.slice a n c) w:=by
 obtain⟨i,h,k,j,g⟩:=d.i;simp[Builtin.append_,run_underlying d.u,sizeOf,typeInfo,h,Builtin.lenOf,b,Builtin.firstCells]
 cases a<;>simp[storeCells]
abbrev iQ {α:Type} (e:TypeId) (sz:Nat) (f:α->List Value) (a:OA) (c:Nat) (l:List α):bP:=vN e sz (.slice a l.length c) l.length (l.flatMap f)
section
variable {α:Type} {e:TypeId} {sz:Nat} {f:α->List Value} {w0 w:World} {B:bP} {a:OA} {c:Nat} {l:List α}
def dS(b:∀x,(f x).length=sz):nY (iQ e sz f a c l) λw=>iA sz f w a l:=λ_ _ h=>Ug b h.1
def St.rd(b:∀x,(f x).length=sz)(h:St w0 w (star (iQ e sz f a c l) B)):iA sz f w a l:=Ug b h.rowOf
def St.nj(h:St w0 w (star (iQ e sz f a c l) B)):l.length<=c/\(a=none->c=0):=xC h.rowOf
def St.kN(h:St w0 w (star (iQ e sz f a c l) B))(b:0<l.length):∃g,a=some ⟨g,0,none⟩:=let ⟨g,hg,_⟩:=Ou h.rowOf b;⟨g,hg⟩
def St.gB(h:St w0 w B):St w0 w (star (iQ e sz f none 0 []) B):=h.Tj e sz |>.swap
theorem JC(b:∀x,(f x).length=sz):∀(l:List α) (i:Nat) (x:α),i<l.length->(l.set i x).flatMap f=(l.flatMap f).take (i*sz)++f x++(l.flatMap f).drop (i*sz+sz)
 |[],_,_,h=>absurd h (by simp)
 |y::l,0,x,_=>by
  have a:=b y;simp[bQ,<-a]
 |y::l,i+1,x,h=>by
  have d:=JC b l i x (by grind);have a:=b y;rw[od,bQ,d,bQ];have c:(i+1)*sz=(f y).length+i*sz:=by rw[a,cH];omega
  rw[c,j0,kC,List.drop_length_add_append]
  simp
def St.wh(n:∀x,(f x).length=sz){x:α}(y:∀v∈f x,v.oneCell'=true){g:Nat}(h:St w0 w (star (iQ e sz f (some ⟨g,0,none⟩) c l) B)){i:Nat}(hi:i<l.length){R:World->Prop}(k:∀m,St w0 m (star (iQ e sz f (some ⟨g,0,none⟩) c (l.set i x)) B)->R m):yY (Addr.add ⟨g,0,none⟩ (i*sz)) 0 (f x) w R:=by
 obtain⟨F,⟨own,rfl⟩,use⟩:=h.use;rcases own.2 with⟨s,_⟩|⟨H,cap,b,s,z,C,E,q,A,a⟩
 .cases s
 cases s
 have G:=n x;have r:=jB n l;have d:(b.toList.take (l.length*sz)).length=l.length*sz:=by rw[a,r]
 have t:l.length*sz<=b.size:=by rw[aW] at d;simp at d;omega
 have I:i*sz+sz<=l.length*sz:=by
  have:=dZ sz (show i+1<=l.length by omega);rw[cH] at this;omega
 rw[wq];refine Iy (f x) 0 w b C (by omega) y λm o p _=>k m (use m _ ⟨[g],⟨⟨?_,.inr ⟨g,c,_,?_,z,o,?_,q,?_,?_⟩⟩,rfl⟩,p,λj D=>.inl D⟩)
 .rw[jB n,bf]
 .rw[bf]
 .grind
 .simp only[js,aA,aW,bG,fG];omega
 rw[bf,JC n l i x hi,<-a];simp only[gX,dA];rw[List.take_append,List.take_append,jh,jh,Nat.min_eq_right (by omega),gu (by omega),G,List.drop_take];have u:(List.take (i*sz) b.toList).length=i*sz:=by rw[aW];simp;omega
 rw[u,bB (by omega:(f x).length<=l.length*sz-i*sz)]
 congr 3
 omega
def St.kP{v:α->Value}{x:α}(d:(v x).oneCell'=true){g:Nat}(h:St w0 w (star (iQ e 1 (λx=>[v x]) (some ⟨g,0,none⟩) c l) B)){i:Nat}(hi:i<l.length){R:World->Prop}(k:∀a,St w0 a (star (iQ e 1 (λx=>[v x]) (some ⟨g,0,none⟩) c (l.set i x)) B)->R a):kB w (Addr.add ⟨g,0,none⟩ (i*1)) (v x) R:=by
 have:=St.wh (f:=λx=>[v x]) (λ_=>rfl) (x:=x) (by simpa using d) h hi (R:=R) k;have b:(Addr.add ⟨g,0,none⟩ (i*1)).add 0=Addr.add ⟨g,0,none⟩ (i*1):=by rfl
 simpa only[yY,b] using this
end
section
variable {α:Type} {P:Program} {t ty e:TypeId} {z:Value} {sz by_:Nat} {f:α->List Value} {w0 w:World} {B:bP} {a:OA} {c:Nat} {l:List α}
def iA.cell(b:∀x,(f x).length=sz)(h:iA sz f w a l):∀(j:Nat) (u:Value),(l.flatMap f)[j]?=some u->∃q,a=some q/\w.cell? (q.add j)=some u:=by
 suffices H:∀(l:List α) (j:Nat) (u:Value),(l.flatMap f)[j]?=some u->∃i r x,j=i*sz+r/\l[i]?=some x/\(f x)[r]?=some u by
  intro j u c;obtain⟨i,r,x,rfl,e,k⟩:=H l j u c;obtain⟨q,g,d⟩:=h.at e;refine⟨q,g,?_⟩;have:=bX d r u k;rw[az,Addr.add_add] at this;exact this
 intro l
 induction l with
 |nil=>intro j u h;simp at h
 |cons x l e=>
  intro j u h;rw[bQ] at h
  by_cases c:j<sz
  .rw[dK (by rw[b];exact c)] at h;exact⟨0,j,x,by omega,rfl,h⟩
  rw[dJ (by rw[b];omega),b] at h;obtain⟨i,r,y,g,k,d⟩:=e _ _ h;exact⟨i+1,r,y,by grind,by grind,d⟩
def dW(n:ru P t e z sz by_)(o:∀x,(f x).length=sz)(C:∀x,∀v∈f x,v.oneCell'=true)(h:St w0 w (star (iQ e sz f a c l) B)){a2:OA}{c2:Nat}{l2:List α}(p:iA sz f w a2 l2)(s:(l.length+l2.length)*by_<=140737488355328)(A:l.length+l2.length<=9223372036854775807){R:Option Addr->Nat->Nat->World->Prop}(k:∀b d g,St w0 g (star (iQ e sz f b d (l++l2)) B)->R b (l++l2).length d g):
  kg P (Builtin.append_ #[t,t] ty #[.slice a l.length c,.slice a2 l2.length c2]) w λe i=>∃a l c,e=.slice a l c/\R a l c i:=by
 have one:∀u∈l2.flatMap f,u.oneCell'=true:=λu D=>by
  grind
 cases a2 with
 |some q=>
  refine Ls n h (jB o l2) (λj u y=>?_) one s A λF g i=>?_
  .obtain⟨E,m,r⟩:=p.cell o j u y
   cases m;exact r
  obtain⟨b,d,rfl⟩:=yh i.rowOf;refine⟨b,_,d,rfl,?_⟩;have r:St w0 g (star (iQ e sz f b d (l++l2)) B):=by
   show St w0 g (star (vN e sz (.slice b (l++l2).length d) (l++l2).length ((l++l2).flatMap f)) B);rw[aA,fH];exact i
  have:=k b d g r
  rwa [aA] at this
 |none=>
  have i:l2=[]:=by
   cases l2 with
   |nil=>rfl
   |cons x l2=>obtain⟨q,_,m,_⟩:=p 0 x rfl;cases m
  subst i;rw[aT];refine⟨_,w,IY n (xC h.rowOf).1,a,_,c,rfl,?_⟩;rw[fu] at k;exact k a c w h
def iT(o:ru P t e z sz by_)(q:∀x,(f x).length=sz){x:α}(m:∀v∈f x,v.oneCell'=true)(h:St w0 w (star (iQ e sz f a c l) B))(p:(l.length+1)*by_<=140737488355328)(s:l.length+1<=9223372036854775807){R:Option Addr->Nat->Nat->World->Prop}(k:∀b d g,St w0 g (star (iQ e sz f b d (l++[x])) B)->R b (l++[x]).length d g){cs:Array Value}(i:cs=(f x).toArray):
  gK w (.cells cs e) λr j=>kg P (Builtin.append_ #[t,t] ty #[.slice a l.length c,.slice (some ⟨r,0,none⟩) 1 1]) j λe n=>∃a l c,e=.slice a l c/\R a l c n:=by
 refine GR o h (q x) m p s (λb d g j=>?_) i;have n:St w0 g (star (iQ e sz f b d (l++[x])) B):=by
  show St w0 g (star (vN e sz (.slice b (l++[x]).length d) (l++[x]).length ((l++[x]).flatMap f)) B);rw[aA,fH,jw];exact j
 have:=k b d g n
 rwa [aA] at this
def Ax{g:Nat}{cs:Array Value}(a:∀x,(f x).length=sz)(b:w.heap[g]?=some (.cells cs e (0,0)))(hc:cs.toList=l.flatMap f)(d:l.length<=maxLen):
  w.ownsRow 0 e sz (.slice (some ⟨g,0,none⟩) l.length l.length) l.length (l.flatMap f):=by
 have c:cs.size=l.length*sz:=by rw[<-fG,hc,jB a]
 refine⟨jB a l,.inr ⟨g,l.length,cs,rfl,e9 _,b,aD _,d,c,?_⟩⟩;rw[hc];exact bB (by rw[jB a];omega)
def PG{cs:Array Value}{x:α}(i:cs.toList=f x)(e:0<cs.size):∀n,(madeCells cs (n*cs.size)).toList=(List.replicate n x).flatMap f:=by
 have get:∀m j,j<m->(madeCells cs m)[j]?=cs[j%cs.size]?:=λm j b=>by
  have:j%cs.size<cs.size:=jE _ e;simp[madeCells,b,this]
 intro n;apply aX;intro j;rw[dy];have a:∀y:α,y=x->(f y).length=cs.size:=λy l=>by rw[l,<-i];simp
 by_cases b:j<n*cs.size
 .rw[get _ _ b];have k:=mY (by rw[lq];exact b);have d:((List.replicate n x).flatMap f)[j / cs.size*cs.size+j%cs.size]?=cs[j%cs.size]?:=by
   suffices H:∀n q r,q<n->r<cs.size->((List.replicate n x).flatMap f)[q*cs.size+r]?=cs[r]? from H n _ _ k (jE _ e)
   intro n
   induction n with
   |zero=>intro q r h;omega
   |succ n c=>
    intro q r h g;rw[jZ,bQ]
    cases q with
    |zero=>
     rw[gz,az,dK (by rw[a x rfl];exact g),<-i,dy]
    |succ q=>
     rw[dJ (by rw[a x rfl,cH];omega),a x rfl];rw[show(q+1)*cs.size+r-cs.size=q*cs.size+r by rw[cH];omega];exact c q r (by omega) g
  rw[Nat.div_add_mod' j cs.size] at d;rw[d]
 rw[Array.getElem?_eq_none (by rw[size_madeCells];omega),aJ];have:∀n,((List.replicate n x).flatMap f).length=n*cs.size:=λn=>by
  induction n with
  |zero=>simp
  |succ n c=>rw[jZ,bQ,aA,c,a x rfl,cH];omega
 rw[this];omega
def iD(b:ru P t e z sz by_)(v:∀x,(f x).length=sz){x:α}(C:z.cells.toList=f x)(h:St w0 w B){n:Nat}(D:by_*n<=281474976710656)(q:n<=9223372036854775807){R:Option Addr->Nat->Nat->World->Prop}(k:∀g m,aZ w m []->St w0 m (star (iQ e sz f (some ⟨g,0,none⟩) n (List.replicate n x)) B)->R (some ⟨g,0,none⟩) n n m):
  kg P (Instr.makeSlice t (iv n) (iv n)) w λe d=>∃a l c,e=.slice a l c/\R a l c d:=by
 obtain⟨i,y,j,A,r⟩:=b.i;have d:(i.bytes:Int)*(n:Int)<=281474976710656:=by
  grind
 have o:=run_make (P:=P) w t e i z b.u y j .i64 .i64 (n:Int) (n:Int) (by omega) (bR _) d (by omega);rw[aq,A,<-b.zc] at o;refine⟨_,_,o,_,_,_,rfl,k _ _ (aZ.new _ _ _) ?_⟩;have own:(w.alloc (.cells (madeCells z.cells (n*z.cells.size)) e)).ownsRow 0 e sz (.slice (some ⟨w.heap.size,0,none⟩) (List.replicate n x).length (List.replicate n x).length) (List.replicate n x).length ((List.replicate n x).flatMap f):=
  Ax v (by rw[pR,ag rfl]) (PG C (by rw[b.zc];exact b.pos) n) (by grind[maxLen])
 have s:=h.add (aZ.new w (.cells (madeCells z.cells (n*z.cells.size)) e) []) (B:=vN e sz _ _ _) (G:=[w.heap.size]) ⟨own,rfl⟩ (by simp);have p:=s.swap;rw[bS] at p;unfold iQ;rw[bS];exact p
def EM(w:World)(dT sT ty elem:TypeId)(g n a:Nat)(ad:Addr)(e:Nat)(cur:Array Value)(t:TypeId)(cs:List Value){sz:Nat}(p:P.underlying dT=some (.slice elem))(o:(P.info? elem).map (·.size)=some sz)(h:w.heap[g]?=some (.cells cur t (0,0)))(m:cs.length=n*sz)(c:∀j v,cs[j]?=some v->w.cell? (ad.add j)=some v)(b:cs.length<=cur.size)(f:∀v∈cs,v.oneCell'=true):
  (Builtin.copy_ #[dT,sT] ty #[.slice (some ⟨g,0,none⟩) n a,.slice (some ad) n e]).run P w =
   .ok (goInt n) (w.setRow g (cs++cur.toList.drop cs.length).toArray):=by
 have l:=run_loadCells_list (P:=P) w ad cs c;have d:=run_storeCells_at P g 0 t cs 0 cur w h (by simpa using b) f
 cases hq:P.info? elem with
 |none=>simp[hq] at o
 |some i=>
  have k:i.size=sz:=by grind
  rw[az,ji,bZ] at d;simp[Builtin.copy_,run_underlying p,Builtin.lenOf,Builtin.firstCells,sizeOf,typeInfo,hq,k,<-m,l,d]
def Nz(C:ru P t e z sz by_)(G:∀x,(f x).length=sz)(Y:∀x,∀v∈f x,v.oneCell'=true){g n:Nat}(S:l.length=n)(h:St w0 w (star (iQ e sz f (some ⟨g,0,none⟩) c l) B)){a2:OA}{c2:Nat}{l2:List α}(d:l2.length=n)(J:iA sz f w a2 l2){K:KP}(k:∀v L,St w0 L (star (iQ e sz f (some ⟨g,0,none⟩) c l2) B)->K v L):
  kg P (Builtin.copy_ #[t,t] ty #[.slice (some ⟨g,0,none⟩) n c,.slice a2 n c2]) w K:=by
 obtain⟨i,R,W,Z,O⟩:=C.i;have A:(P.info? e).map (·.size)=some sz:=by grind
 subst S;have one:∀u∈l2.flatMap f,u.oneCell'=true:=λu hu=>by
  grind
 have b:=jB G l2;have s:=jB G l;obtain⟨F,⟨own,rfl⟩,I⟩:=h.use;rcases own.2 with⟨H,_⟩|⟨X,cap,a,H,N,y,T,D,E,o⟩
 .cases H
 cases H
 have r:l.length*sz<=a.size:=by
  have:=congrArg List.length o;rw[aW,s] at this;simp at this;omega
 by_cases M:l.length=0
 .obtain rfl:l=[]:=fh M;obtain rfl:l2=[]:=fh d
  cases a2 with
  |some ad=>
   have m:=EM (P:=P) w t t ty e g 0 c ad c2 a e [] C.u A y (by simp) (by simp) (by simp) (by simp);refine⟨_,_,m,k _ _ ?_⟩;have:w.setRow g ([]++a.toList.drop ([]:List Value).length).toArray=w.setRow g a:=by simp
   rw[this];refine h.quiet ⟨by simp[World.setRow],λj _ _=>?_,⟨rfl,rfl,rfl⟩⟩
   by_cases p:j=g
   .subst p;rw[setRow_heap w j a _ e _ y,y]
   exact setRow_other w g j _ p
  |none=>
   refine⟨goInt 0,w,?_,k _ _ h⟩;simp[Builtin.copy_,run_underlying C.u,Builtin.lenOf,Builtin.firstCells,sizeOf,typeInfo,R,storeCells]
 obtain⟨x,V⟩:∃x,l2[0]?=some x:=by
  cases l2 with
  |nil=>grind
  |cons x l2=>exact⟨x,rfl⟩
 obtain⟨ad,rfl,_⟩:=J.at V;have m:=EM (P:=P) w t t ty e g l.length c ad c2 a e (l2.flatMap f) C.u A y (by rw[b,d]) (λj v p=>by obtain⟨q,U,Q⟩:=J.cell G j v p;cases U;exact Q) (by rw[b,d];exact r) one;refine⟨_,_,m,k _ _ (I _ _ ⟨[g],⟨⟨b,.inr ⟨g,c,_,by rw[d],N,setRow_heap w g a _ e _ y,by omega,D,?_,?_⟩⟩,rfl⟩,⟨by simp[World.setRow],λj _ p=>setRow_other w g j _ (by grind[Value.ownBlock]),⟨rfl,rfl,rfl⟩⟩,λj p=>.inl (by grind[Value.ownBlock])⟩)⟩
 .rw[<-E];simp only[js,aA,bG,fG,b,d];omega
 rw[jL (by rw[b,d];omega)];exact bB (by rw[b,d];omega)
def O5(C:ru P t e z sz by_)(n:∀x,(f x).length=sz){x:α}(M:∀v∈f x,v.oneCell'=true)(s:St w0 w B)(h:iA sz f w a l){r:Nat}(J:∀j u,(f x)[j]?=some u->w.cell? ⟨r,j,none⟩=some u)(T:(l.length+1)*by_<=140737488355328)(U:l.length+1<=9223372036854775807){R:Option Addr->Nat->Nat->World->Prop}(k:∀b d o,St w0 o (star (iQ e sz f b d (l++[x])) B)->R b (l++[x]).length d o):
  kg P (Builtin.append_ #[t,t] ty #[.slice a l.length l.length,.slice (some ⟨r,0,none⟩) 1 1]) w λe g=>∃a l c,e=.slice a l c/\R a l c g:=by
 cases a with
 |none=>
  have p:l=[]:=by
   cases l with
   |nil=>rfl
   |cons x l=>obtain⟨q,_,E,_⟩:=h 0 x rfl;cases E
  subst p;refine Ls C (s.gB (e:=e) (sz:=sz) (f:=f)) (m:=1) (news:=f x) (by rw[n];omega) (λj u y=>by rw[wq];exact J j u y) M (by omega) (by simp) λA o g=>?_;obtain⟨b,d,rfl⟩:=yh g.rowOf;have i:St w0 o (star (iQ e sz f b d ([]++[x])) B):=by
   show St w0 o (star (vN e sz (.slice b 1 d) 1 ([x].flatMap f)) B);rw[jw];simpa using g
  exact⟨b,_,d,rfl,k b d o i⟩
 |some q=>
  obtain⟨i,Q,S,I,N⟩:=C.i;have g:=jB n l;have H:=run_append_grow (P:=P) w t ty e i z C.u Q S q l.length l.length (l.flatMap f) (by rw[g,I]) (λj u y=>by obtain⟨V,E,O⟩:=h.cell n j u y;cases E;exact O)
   ⟨r,0,none⟩ 1 1 (f x) (by rw[n,I];omega) (λj u y=>by rw[wq];exact J j u y) (by omega) (by omega) (growslice_fits (by omega) (by grind))
  have D:=grownCap_ge w (l.length+1) l.length e;have p:grownCap w (l.length+1) l.length e<=maxLen:=grownCap_le_maxLen w (l.length+1) l.length e (by grind[maxLen]);generalize grownCap w (l.length+1) l.length e=cap at H D p;refine⟨_,_,H,_,_,_,rfl,?_⟩;have K:aZ w w.drew []:=aZ.drew w [];have L:aZ w (w.drew.alloc (.cells ((l.flatMap f).toArray++(f x).toArray++Builtin.zeroCells z.cells (cap-(l.length+1))) e)) []:=K.trans (aZ.new _ _ []) (by simp);have own:(w.drew.alloc (.cells ((l.flatMap f).toArray++(f x).toArray++Builtin.zeroCells z.cells (cap-(l.length+1))) e)).ownsRow 0 e sz (.slice (some ⟨w.heap.size,0,none⟩) (l++[x]).length cap) (l++[x]).length ((l++[x]).flatMap f):=by
   have A:=n x;refine⟨jB n _,.inr ⟨w.heap.size,cap,_,by simp,e9 _,by rw[pR,ag (show w.heap.size=w.drew.heap.size from rfl)],by grind,p,?_,?_⟩⟩
   .have F:z.cells.size=sz:=C.zc;simp only[Array.size_append,js,size_zeroCells,F,g,A];rw[show l.length*sz+sz=(l.length+1)*sz by grind,<-cH];grind
   rw[aA,aG,fH,jw];simp only[Array.toList_append,dA];rw[<-dA];have:(l.length+1)*sz=(l.flatMap f++f x).length:=by rw[aA,g,A,cH];omega
   rw[this,List.take_left]
  have A:=s.add L (B:=vN e sz _ _ _) (G:=[w.heap.size]) ⟨own,rfl⟩ (by simp);have:=k _ _ _ A.swap
  rwa [aA] at this
def wO(y:ru P t e z sz by_)(r:∀x,(f x).length=sz)(u:∀x,∀v∈f x,v.oneCell'=true)(s:St w0 w B)(h:iA sz f w a l)(C:l.length*by_<=140737488355328)(D:l.length<=9223372036854775807){K:KP}(k:∀b d g,St w0 g (star (iQ e sz f b d l) B)->K (.slice b l.length d) g):
  cond (a).isNone (K (.slice none 0 0) w) (gK w (.cells #[] e) λi m=>kg P (Builtin.append_ #[t,t] ty #[.slice (some ⟨i,0,none⟩) 0 0,.slice a l.length c]) m λj n=>∃(a2:OA) (l2 c2:Nat),j=(.slice a2 l2 c2)/\K (.slice a2 l2 c2) n):=by
 cases a with
 |none=>
  have j:l=[]:=by
   cases l with
   |nil=>rfl
   |cons x l=>obtain⟨q,_,n,_⟩:=h 0 x rfl;cases n
  subst j;exact cT rfl (k none 0 w s.gB)
 |some q=>
  refine cF rfl (dH ?_);have j:=s.box #[] e;have o:=aZ.new w (.cells #[] e) [];generalize w.alloc _=m at j o⊢;generalize w.heap.size=i at j⊢;have A:St w0 m (star (iQ e sz f (some ⟨i,0,none⟩) 0 []) B):=j.swap.weak (dU.left (by
   rintro w F ⟨h,rfl⟩;exact⟨[i],⟨Ax (f:=f) r h rfl (by simp),by rfl⟩,by simp⟩))
  exact dW (a2:=some q) (c2:=c) (l2:=l) y r u A (h.aK o) (by grind) (by grind) (R:=λb n d g=>K (.slice b n d) g) (λb d g p=>by rw[bZ] at p⊢;exact k b d g p)
def Bi(o:ru P t e z sz by_)(p:∀x,(f x).length=sz)(r:∀x,∀v∈f x,v.oneCell'=true){x0:α}(y:z.cells.toList=f x0)(s:St w0 w B)(h:iA sz f w a l)(C:by_*l.length<=140737488355328)(u:l.length<=9223372036854775807){K:KP}(k:∀g j,St w0 j (star (iQ e sz f (some ⟨g,0,none⟩) l.length l) B)->K (.slice (some ⟨g,0,none⟩) l.length l.length) j):
  kg P (Instr.makeSlice t (iv l.length) (iv l.length)) w λq A=>∃(b:OA) (i d:Nat),q=(.slice b i d) /\
   kg P (Builtin.copy_ #[t,t] ty #[.slice b i d,.slice a l.length c]) A λ_ m=>K (.slice b i d) m:=by
 exact iD o p y s (n:=l.length) (by omega) u λg j b d=>Nz o p r (by simp) d rfl (h.aK b) λ_ m i=>k g m i
end
def St.and{w0 w a:World}{A B:bP}(h:St w0 w A)(k:St w a B):St w0 a (star B A):=
 let ⟨_,hB,hc,hG⟩:=k
 (h.add hc hB hG).swap
def cB{b:Bool}{A B:Prop}(h:A)(k:B):cond b A B:=by grind
def St.open{w0 w:World}{B:bP}{l:List bP}(h:St w0 w (star (Sep l) B)):St w0 w (Sep (l++[B])):=St.cat (h.eqv (fF.right (fF.unit B)))
def St.shut{w0 w:World}{B:bP}{l:List bP}(h:St w0 w (Sep (l++[B]))):St w0 w (star (Sep l) B):=(h.split l).eqv (fF.right (fF.unit' B))
def nY.nil:nY (Sep []) λ_=>True:=λ_ _ _=>trivial
def nY.cons{A:bP}{l:List bP}{Q R:World->Prop}(h:nY A Q)(k:nY (Sep l) R):nY (Sep (A::l)) λw=>Q w/\R w:=h.star k
def St.bA{w0 w:World}{l:List bP}{r:Nat}{cs:Array Value}{T:TypeId}(h:St w0 w (Sep l))(i j:Nat)(e:l[i]?=some (ay r cs T)){vs:List Value}(f:(cs.toList.drop j).take vs.length=vs):aU w ⟨r,j,none⟩ 0 vs:=
 fm _ 0 λk v b=>by
  have d:=(ai.1 b).1;have c:(⟨r,j,none⟩:Addr).add (0+k)=⟨r,j+k,none⟩:=by simp[Addr.add]
  have a:((cs.toList.drop j).take vs.length)[k]?=vs[k]?:=by rw[f]
  rw[bz,ag d,cA,b] at a;rw[c,h.aj i e];simpa using a
def St.mA{w0 w:World}{l:List bP}{x:Nat}{cs:Array Value}{T:TypeId}{R:World->Prop}(h:St w0 w (Sep l))(i j:Nat)(e:l[i]?=some (ay x cs T)){vs:List Value}(a:Array Value)(n:j+vs.length<=cs.size)(d:∀v∈vs,v.oneCell'=true)(hc:(cs.toList.take j++vs++cs.toList.drop (j+vs.length)).toArray=a)(k:∀b,St w0 b (Sep (l.set i (ay x a T)))->R b):yY ⟨x,j,none⟩ 0 vs w R:=by
 obtain⟨F,⟨m,rfl⟩,use⟩:=(h.out i e).use;refine Iy vs 0 w cs m (by omega) d λb f c _=>k b ((use b (ay x a T) ⟨[x],⟨?_,rfl⟩,c,λj g=>.inl g⟩).back (kL e));rw[f,<-hc];simp
def St.oM{w0 w:World}{l:List bP}{Q:World->Prop}(h:St w0 w (Sep l))(a:∀b,Q b):St w0 w (Sep (Vc.held Q::l)):=
 (h.add (aZ.refl w []) (B:=Vc.held Q) (G:=[]) ⟨λ_ _ _ _=>a _,by simp⟩ (by simp)).swap
def St.we{w0 w:World}{A:bP}{l:List bP}{Q:World->Prop}(h:St w0 w (Sep (A::l)))(k:nY A Q):St w0 w (Sep (Vc.held Q::l)):=h.weak (dU.left k.weak)
def St.kr{w0 w:World}{A B:bP}{l:List bP}{Q R S:World->Prop}(h:St w0 w (Sep (A::B::l)))(c:nY A Q)(d:nY B R)(k:∀w,Q w->R w->S w):St w0 w (Sep (Vc.held S::l)):=
 h.join.we ((c.star d).mono λw ⟨a,b⟩=>k w a b)
def Ji{w:World}{a:Addr}{vs b:List Value}(h:aU w a 0 vs)(e:vs.take b.length=b):aU w a 0 b:=
 fm _ 0 λk v c=>bX h k v (by
  have d:(vs.take b.length)[k]?=b[k]?:=by rw[e]
  rwa [bz,ag (ai.1 c).1,c] at d)
def St.Ym{w0 w:World}{A B:bP}{m:List bP}(h:St w0 w (Sep (A::B::m))):St w0 w (Sep [A,B,Sep m]):=h.eqv (fF.right (fF.right (fF.unit _)))
def St.mT{w0 w:World}{m:List bP}(l:List bP)(h:St w0 w (Sep (l++[Sep m]))):St w0 w (Sep (l++m)):=St.cat ((h.split l).eqv (fF.right (fF.unit' _)))
def tQ{α:Type}(a b:List α)(k:Nat):List α:=a.take k++b.drop k
section
variable {α:Type} {a b:List α}
def D9(h:a.length=b.length){k:Nat}(c:k<=a.length):(tQ a b k).length=b.length:=by
 grind[tQ]
def An(h:a.length=b.length){k:Nat}(c:k<=a.length)(i:Nat):(tQ a b k)[i]?=if i<k then a[i]? else b[i]?:=by
 have e:(a.take k).length=k:=by grind
 split
 .simp_all[tQ,dK]
 grind[tQ]
def J9(h:a.length=b.length){k:Nat}{v:α}(c:a[k]?=some v):(tQ a b k).set k v=tQ a b (k+1):=by
 have d:=(ai.1 c).1;refine aX λi=>?_;rw[An h (by omega),bW,An h (by omega),D9 h (by omega)];grind
def F9(h:a.length=b.length){k:Nat}(c:k<a.length)(d:a[k]?=b[k]?):tQ a b k=tQ a b (k+1):=by
 refine aX λi=>?_;rw[An h (by omega),An h (by omega)];grind
def Ga:tQ a b 0=b:=by rfl
def F8(h:a.length=b.length):tQ a b b.length=a:=by
 grind[tQ]
end
def YM{a:OA}{n k:Nat}:(if n=0 then a else Option.map (λx=>Addr.add x (0*k)) a)=a:=by
 simp[Addr.add]
end Go.Vc
namespace Go.Vt
open Go.Vc
inductive X where
 |v (i:Nat)|int (n:Nat)|neg (n:Nat)|wr (k:IntKind) (x:X)|add (x y:X)|sub (x y:X)|mul (x y:X)|tdiv (x y:X)|tmod (x y:X)
 |shl (k:IntKind) (x y:X)|shr (k:IntKind) (x y:X)|bAnd (k:IntKind) (x y:X)|bOr (k:IntKind) (x y:X)|bXor (k:IntKind) (x y:X)|bNot (k:IntKind) (x y:X)
 |ofN (x:X)|ofC (x:X)|mn (x y:X)|mx (x y:X)|pj (i j:Nat)
 |tt (b:Bool)|not (x:X)|lt (x y:X)|le (x y:X)|gt (x y:X)|ge (x y:X)|eqI (x y:X)|neI (x y:X)|eqB (x y:X)|eqS (x y:X)|eqR (x y:X)
 |ls (x y:X)|or (x y:X)|and (x y:X)|eqU (x y:X)|isN (x:X)
 |str (l:List Nat)|ext (s l h:X)|app (s t:X)
 |nat (n:Nat)|toN (x:X)|nsub (x y:X)|size (s:X)
 |ad (b:X) (n:Nat)|iC (b o:X) (n:Nat)|adn (x:X) (n:Nat)|adx (a i:X) (k:Nat)
 |onil|osome (a:X)|oif (m l o:X) (k:Nat)
 |six (a b c d e f:X)|z6
 |vint (k:IntKind) (x:X)|vbool (x:X)|vstr (x:X)|vptr (x:X)|vslice (p l c:X)|vmap (x:X)|mnil|vnilf|vnili|viface (t:Nat) (x:X)|vfn (f:Nat) (a b:X)
 |vagg (l:X)|vaggx (l i:X) (k:Nat)|vtup (l:X)|undef|xa (j k:Nat)
 |nil|cons (x r:X)|csix (j:Nat) (r:X)|cvs (j:Nat)|cz6
 |drew (w:X)
inductive Bu where
 |a|c|r|l
inductive Cn where
 |fa|kk (v w:X)|an (c d:Cn)|orr (c d:Cn)
 |ex (k:SK) (c:Cn)
 |cl (w a v:X) (c:Cn)|cs (w a l:X) (c:Cn)|os (p:X) (c:Cn)|cd (b:X) (c d:Cn)
 |sk (w a v:X) (c:Cn)|sl (a l w:X) (c:Cn)|nw (w l:X) (ty:Nat) (c:Cn)
 |ev (e v:X) (c:Cn)|er (e v:X) (c:Cn)|z0 (i:X) (c:Cn)|ln (i n:X) (c:Cn)|le (i n:X) (c:Cn)|ne (i:X) (c:Cn)|ms (s t:X) (c:Cn)
 |ix (s i:X) (c:Cn)|ar (l i:X) (sz:Nat) (v:X) (c:Cn)
 |ca (f:Nat) (l w:X) (c:Cn)|cf (f l w:X) (c:Cn)|ni (v:X) (c:Cn)|nf (v:X) (c:Cn)
 |cv (s d:Nat) (x w:X) (c:Cn)|mk (ty:Nat) (l k w:X) (c:Cn)
 |ap (o:Bu) (tys:List Nat) (ty:Nat) (l w:X) (c:Cn)
 |lk (ty:Nat) (x i:X) (b:Bool) (w:X) (c:Cn)|mu (ty:Nat) (m k x w:X) (c:Cn)|mm (ty:Nat) (r w:X) (c:Cn)|rg (ty:Nat) (x w:X) (c:Cn)|nx (i:X) (s:Bool) (ty:Nat) (w:X) (c:Cn)|en (i w:X) (c:Cn)
 |jn (ks:List SK) (c d:Cn)|jp (j:Nat) (l w:X)|lo (ks:List SK) (l w:X) (c:Cn)|lp (i m:Nat) (l w:X)|lm (i m:Nat) (l w:X)
 |al (k:SK) (c:Cn)|aw (c:Cn)|am (c:Cn)|ax (c:Cn)|im (c d:Cn)|pa (k:SK) (c:Cn)|pw (c:Cn)|st (f:Nat) (l:X) (c:Cn)
inductive Ud where
 |o|bo|sr|it (k:IntKind)|pt (e:Nat)|sl (e:Nat)|ar (n e:Nat)|mp (e:Nat)|st (l:List Nat)|tu (l:List Nat)|ifc|fn
inductive Tr where
 |o
 |n (x:Ud) (a b:Tr)
def trG:Nat->Tr->Nat->Ud
 |0,_,_=>.o
 |_,.o,_=>.o
 |f+1,.n x a b,n=>match n with
  |0=>x
  |n+1=>cond (((n%2)==0)) (trG f a (n / 2)) (trG f b (n / 2))
def skU:Ud->SK
 |.bo=>.bool
 |.it k=>.int k
 |.sr=>.str
 |.pt _=>.ptr
 |.sl _=>.slice
 |.mp _=>.map
 |_=>.raw
def Zh:Ud->Bool
 |.it .i64=>true
 |_=>false
def ceT(T:Nat->Ud):Nat->Nat->List SK
 |0,_=>[]
 |n+1,t=>match T t with
  |.st l=>l.flatMap (ceT T n)
  |.ar l e=>cond ((l==6)&&Zh (T e)) [.six] (List.replicate l (ceT T n e)).flatten
  |u=>[skU u]
def QN(T:Nat->Ud)(t:Nat):TK:=match T t with
 |.st _=>.agg (ceT T 12 t)
 |.ar _ _=>.agg (ceT T 12 t)
 |u=>.s (skU u)
def Zm:List SK->Nat
 |[]=>0
 |.six::l=>Zm l+6
 |_::l=>Zm l+1
def szT(T:Nat->Ud)(t:Nat):Nat:=Zm (ceT T 12 t)
def kdT(T:Nat->Ud)(t:Nat):Kd:=match T t with
 |.tu l=>.tup (l.map (QN T))
 |_=>.t (QN T t)
abbrev Fr:=List (List X)
def g1:List X->Nat->X
 |[],_=>.undef
 |x::_,0=>x
 |_::l,n+1=>g1 l n
def g2:Fr->Nat->List X
 |[],_=>[]
 |x::_,0=>x
 |_::l,n+1=>g2 l n
def p1:List X->Nat->X->List X
 |[],0,v=>[v]
 |[],n+1,v=>.undef::p1 [] n v
 |_::l,0,v=>v::l
 |x::l,n+1,v=>x::p1 l n v
def p2:Fr->Nat->Nat->X->Fr
 |[],0,m,v=>[p1 [] m v]
 |[],n+1,m,v=>[]::p2 [] n m v
 |x::l,0,m,v=>p1 x m v::l
 |x::l,n+1,m,v=>x::p2 l n m v
def lkF(t:Fr)(n:Nat):X:=g1 (g2 t (n / 8)) (n%8)
def ZW(t:Fr)(n:Nat)(v:X):Fr:=p2 t (n / 8) (n%8) v
def PY:Fr->List (Nat×X)->Fr
 |t,[]=>t
 |t,(n,v)::l=>PY (ZW t n v) l
def cs0:Value->X
 |.bool b=>.vbool (.tt b)
 |.int k (.ofNat n)=>.vint k (.int n)
 |.int k (.negSucc n)=>.vint k (.neg (n+1))
 |.string s=>.vstr (.str (s.data.toList.map (·.toNat)))
 |.pointer none=>.vptr .onil
 |.pointer (some a)=>.vptr (.osome (.ad (.nat a.block) a.off))
 |.slice none l c=>.vslice .onil (.nat l) (.nat c)
 |.slice (some a) l c=>.vslice (.osome (.ad (.nat a.block) a.off)) (.nat l) (.nat c)
 |.map none=>.vmap .mnil
 |.nilFunc=>.vnilf
 |.nilIface=>.vnili
 |.func (.func f) _ _=>.vfn f .nil .nil
 |_=>.undef
def Ff:List X->X
 |[]=>.nil
 |x::l=>.cons x (Ff l)
def OO:X->List X
 |.cons x r=>x::OO r
 |_=>[]
def cst:Value->X
 |.agg l=>.vagg (Ff (l.toList.map cs0))
 |.iface t v=>.viface t (cs0 v)
 |v=>cs0 v
def th(t:Fr):Operand->X
 |.tmp i=>lkF t i
 |.const v=>cst v
 |.global g=>.vptr (.osome (.ad (.nat g) 0))
 |.func f=>.vfn f .nil .nil
def acg:List X->Option Nat
 |.vint .i64 (.pj 0 a)::.vint .i64 (.pj 1 b)::.vint .i64 (.pj 2 c)::.vint .i64 (.pj 3 d)::.vint .i64 (.pj 4 e)::.vint .i64 (.pj 5 f)::_=>
  cond ((a==b)&&((a==c)&&((a==d)&&((a==e)&&(a==f))))) (some a) none
 |_=>none
def isZ:X->Bool
 |.vint .i64 (.int n)=>n==0
 |_=>false
def acf(l:List X):Bool:=(l.length==6)&&l.all isZ
def Bn:Nat->List X->X
 |0,_=>.nil
 |_,[]=>.nil
 |n+1,x::l=>match acg (x::l) with
  |some j=>match (x::l).drop 6 with
   |[]=>.cvs j
   |r=>.csix j (Bn n r)
  |none=>.cons x (Bn n l)
def gl(l:List X):X:=cond (acf l) .cz6 (Bn (l.length+1) l)
def em0:X->X
 |.vagg l=>.vagg (gl (OO l))
 |x=>x
def em:X->X
 |.vtup l=>.vtup (Ff ((OO l).map em0))
 |.viface t x=>.viface t (em0 x)
 |x=>em0 x
def ems(l:List X):X:=Ff (l.map em)
def Sv:List SK->Cn->Cn
 |[],c=>c
 |k::a,c=>.ex k (Sv a c)
def kks:TK->List SK
 |.s k=>[k]
 |.agg a=>a
def sS(k:SK)(d:Nat):List X×Nat:=match k with
 |.int k=>([.vint k (.v d)],d+1)
 |.bool=>([.vbool (.v d)],d+1)
 |.str=>([.vstr (.v d)],d+1)
 |.ptr=>([.vptr (.v d)],d+1)
 |.slice=>([.vslice (.v d) (.v (d+1)) (.v (d+2))],d+3)
 |.map=>([.vmap (.v d)],d+1)
 |.blk=>([.vptr (.osome (.ad (.v d) 0))],d+1)
 |.raw=>([.v d],d+1)
 |.six=>([.vint .i64 (.pj 0 d),.vint .i64 (.pj 1 d),.vint .i64 (.pj 2 d),.vint .i64 (.pj 3 d),.vint .i64 (.pj 4 d),.vint .i64 (.pj 5 d)],d+1)
def sL:List SK->Nat->List X×Nat
 |[],d=>([],d)
 |k::f,d=>match sS k d with
  |(a,e)=>match sL f e with
   |(b,c)=>(a++b,c)
def hd:List X->X
 |x::_=>x
 |[]=>.undef
def sT(k:TK)(d:Nat):X×Nat:=match k with
 |.s k=>match sS k d with
  |(a,b)=>(hd a,b)
 |.agg c=>match sL c d with
  |(a,b)=>(.vagg (Ff a),b)
def sTL:List TK->Nat->List X×Nat
 |[],d=>([],d)
 |k::f,d=>match sT k d with
  |(a,e)=>match sTL f e with
   |(b,c)=>(a::b,c)
def bT(k:TK)(d:Nat)(F:X->Nat->Cn):Cn:=match sT k d with
 |(v,a)=>Sv (kks k) (F v a)
def bK(k:Kd)(d:Nat)(F:X->Nat->Cn):Cn:=match k with
 |.t k=>bT k d F
 |.tup a=>match sTL a d with
  |(v,b)=>Sv (a.flatMap kks) (F (.vtup (Ff v)) b)
abbrev Pn:=List (Bool×X×X)
abbrev KX:=X->X->Nat->Pn->Cn
def onX(p:X)(d:Nat)(F:X->Nat->Cn):Cn:=match p with
 |.onil=>.fa
 |.osome a=>F a d
 |p=>.os p (F (.v d) (d+1))
def acS(a:X)(n:Nat):X:=match n with
 |0=>a
 |n=>match a with
  |.ad b m=>.ad b (m+n)
  |.iC b o m=>.iC b o (m+n)
  |a=>.adn a n
def wN:X->List X
 |.vagg l=>OO l
 |x=>[x]
def XI(T:Nat->Ud)(t:TypeId):Nat:=szT T t
def Y9(T:Nat->Ud)(t:TypeId)(f:Nat):Nat×Nat:=match T t with
 |.st l=>((l[f]?).getD 0,((l.take f).map (szT T)).sum)
 |_=>(0,0)
def zSK:SK->List X
 |.int k=>[.vint k (.int 0)]
 |.bool=>[.vbool (.tt false)]
 |.str=>[.vstr (.str [])]
 |.ptr=>[.vptr .onil]
 |.slice=>[.vslice .onil (.nat 0) (.nat 0)]
 |.map=>[.vmap .mnil]
 |.six=>List.replicate 6 (.vint .i64 (.int 0))
 |_=>[.vnili]
def zTy(T:Nat->Ud):Nat->Nat->List X
 |0,_=>[]
 |n+1,t=>match T t with
  |.st l=>l.flatMap (zTy T n)
  |.ar l e=>(List.replicate l (zTy T n e)).flatten
  |.fn=>[.vnilf]
  |u=>zSK (skU u)
def OW(T:Nat->Ud)(t:TypeId):X:=match T t with
 |.st _=>.vagg (Ff (zTy T 12 t))
 |.ar _ _=>.vagg (Ff (zTy T 12 t))
 |_=>hd (zTy T 12 t)
def adq:List X->Nat->List X->List X
 |l,off,cs=>l.take off++(cs++l.drop (off+cs.length))
def GY(a:Nat->Nat)(t:Fr):List (Nat×Operand)->List X->List X
 |[],l=>l
 |(i,o)::b,l=>GY a t b (adq l (a i) (wN (th t o)))
def Zi:TK->Bool
 |.agg _=>true
 |_=>false
def bnX(i:X)(F:X->Cn)(a top:X):Option X->Cn
 |none=>F a
 |some (.vint _ i)=>.z0 i (.le i top (F (.toN i)))
 |some _=>.fa
def oJ(neg:Bool)(r:X)(w:X)(d:Nat)(k:KX):Cn:=match r with
 |.tt b=>k (.vbool (.tt (cond neg (!b) b))) w d []
 |r=>k (.vbool (cond neg (.not r) r)) w d []
def SQ:Operand->Bool
 |.const .nilIface=>true
 |.const .nilFunc=>true
 |.const (.pointer none)=>true
 |.const (.slice none _ _)=>true
 |_=>false
def abS(x:X)(neg:Bool)(w:X)(d:Nat)(k:KX):Option Cn:=match x with
 |.vptr .onil=>some (oJ neg (.tt true) w d k)
 |.vptr (.osome _)=>some (oJ neg (.tt false) w d k)
 |.vptr p=>some (oJ neg (.isN p) w d k)
 |.vslice .onil _ _=>some (oJ neg (.tt true) w d k)
 |.vslice (.osome _) _ _=>some (oJ neg (.tt false) w d k)
 |.vslice p _ _=>some (oJ neg (.isN p) w d k)
 |_=>none
def Yc(x:X)(neg:Bool)(w:X)(d:Nat)(k:KX):Cn:=match x with
 |.vnili=>oJ neg (.tt true) w d k
 |.viface _ _=>oJ neg (.tt false) w d k
 |x=>.ni x (oJ neg (.v d) w (d+1) k)
def Yb(x:X)(neg:Bool)(w:X)(d:Nat)(k:KX):Cn:=match x with
 |.vnilf=>oJ neg (.tt true) w d k
 |.vfn _ _ _=>oJ neg (.tt false) w d k
 |x=>.nf x (oJ neg (.v d) w (d+1) k)
def ac5:X->X->Option X
 |.vint _ a,.vint _ b=>some (.eqI a b)
 |.vbool a,.vbool b=>some (.eqB a b)
 |.vstr a,.vstr b=>some (.eqR a b)
 |_,_=>none
def Rr:List (Option X)->Option X
 |[]=>some (.tt true)
 |none::_=>none
 |some x::l=>match Rr l with
  |some r=>some (.and x r)
  |none=>none
def aai(l:List X):Option X:=match acg l with
 |some j=>some (.v j)
 |none=>cond (acf l) (some .z6) none
def abU(T:Nat->Ud):List Nat->Nat->List (Nat×Nat)
 |[],_=>[]
 |t::l,n=>(t,n)::abU T l (n+szT T t)
def eqX(T:Nat->Ud):Nat->TypeId->List X->List X->Option X
 |0,_,_,_=>none
 |n+1,t,c,d=>match T t with
  |.st g=>Rr ((abU T g 0).map λf=>eqX T n f.1 ((c.drop f.2).take (szT T f.1)) ((d.drop f.2).take (szT T f.1)))
  |.ar l e=>match cond ((l==6)&&Zh (T e)) (aai c) none,cond ((l==6)&&Zh (T e)) (aai d) none with
   |some a,some b=>some (.eqU a b)
   |_,_=>match XI T e with
    |z=>Rr ((List.range l).map λi=>eqX T n e ((c.drop (i*z)).take z) ((d.drop (i*z)).take z))
  |_=>match c,d with
   |x::_,y::_=>ac5 x y
   |_,_=>none
def WB:X->Option Int
 |.int n=>some n
 |.neg n=>some (-n)
 |_=>none
def abD(T:Nat->Ud)(ty:TypeId)(neg:Bool)(x y:X)(w:X)(d:Nat)(k:KX):Cn:=match x,y with
 |.vint _ a,.vint _ b=>match WB a,WB b with
  |some m,some n=>oJ neg (.tt (m==n)) w d k
  |_,_=>k (.vbool (cond neg (.neI a b) (.eqI a b))) w d []
 |.vbool a,.vbool b=>oJ neg (.eqB a b) w d k
 |.vstr a,.vstr b=>oJ neg (.eqS a b) w d k
 |.viface _ _,.vnili=>oJ neg (.tt false) w d k
 |.vnili,.viface _ _=>oJ neg (.tt false) w d k
 |.viface s a,.viface t b=>cond ((s==t)) (match a,b with
  |.vint _ a,.vint _ b=>match WB a,WB b with
   |some m,some n=>oJ neg (.tt (m==n)) w d k
   |_,_=>oJ neg (.eqI a b) w d k
  |_,_=>.fa) (oJ neg (.tt false) w d k)
 |.vagg a,.vagg b=>match eqX T 12 ty (OO a) (OO b) with
  |some r=>oJ neg r w d k
  |none=>.fa
 |_,_=>.fa
def abE(T:Nat->Ud)(ty:TypeId)(neg:Bool)(x y:X)(b a:Operand)(w:X)(d:Nat)(k:KX):Cn:=
 match T ty with
 |.ifc=>cond (SQ a) (Yc x neg w d k) (cond (SQ b) (Yc y neg w d k) (abD T ty neg x y w d k))
 |.fn=>cond (SQ a) (Yb x neg w d k) (Yb y neg w d k)
 |_=>match cond (SQ a) (abS x neg w d k) none with
  |some c=>c
  |none=>match cond (SQ b) (abS y neg w d k) none with
   |some c=>c
   |none=>abD T ty neg x y w d k
def acY(T:Nat->Ud)(o:BinOp)(ty:TypeId)(x y:X)(c e:Operand)(w:X)(d:Nat)(k:KX):Cn:=match o with
 |.eql=>abE T ty false x y c e w d k
 |.neq=>abE T ty true x y c e w d k
 |o=>match x,y with
  |.vint q a,.vint _ b=>match o with
   |.add=>k (.vint q (.wr q (.add a b))) w d []
   |.sub=>k (.vint q (.wr q (.sub a b))) w d []
   |.mul=>k (.vint q (.wr q (.mul a b))) w d []
   |.lss=>k (.vbool (.lt a b)) w d []
   |.leq=>k (.vbool (.le a b)) w d []
   |.gtr=>k (.vbool (.gt a b)) w d []
   |.geq=>k (.vbool (.ge a b)) w d []
   |.quo=>.ne b (k (.vint q (.wr q (.tdiv a b))) w d [])
   |.rem=>.ne b (k (.vint q (.tmod a b)) w d [])
   |.shl=>.z0 b (k (.vint q (.shl q a b)) w d [])
   |.shr=>.z0 b (k (.vint q (.shr q a b)) w d [])
   |.and=>k (.vint q (.bAnd q a b)) w d []
   |.or=>k (.vint q (.bOr q a b)) w d []
   |.xor=>k (.vint q (.bXor q a b)) w d []
   |.andNot=>k (.vint q (.bNot q a b)) w d []
   |_=>.fa
  |.vstr a,.vstr b=>match o with
   |.add=>.ms a b (k (.vstr (.app a b)) w d [])
   |.lss=>k (.vbool (.ls a b)) w d []
   |.leq=>k (.vbool (.or (.ls a b) (.eqS a b))) w d []
   |.gtr=>k (.vbool (.not (.or (.ls a b) (.eqS a b)))) w d []
   |.geq=>k (.vbool (.not (.ls a b))) w d []
   |_=>.fa
  |_,_=>.fa
def mmX(mx:Bool):X->List X->X
 |r,[]=>r
 |.vint q a,.vint _ b::l=>mmX mx (.vint q (cond mx (.mx a b) (.mn a b))) l
 |r,_=>r
def vw(o:Bu)(c:Call)(ty:TypeId)(a:List X)(w:X)(d:Nat)(F:Nat->Cn):Cn:=.ap o c.argTypes.toList ty (ems a) w (F (d+2))
def abq(T:Nat->Ud)(f:FuncId)(a:List X)(ty:TypeId)(w:X)(d:Nat)(k:KX):Cn:=.ca f (ems a) w (bK (kdT T ty) (d+2) λv b=>.er (.v d) (em v) (k v (.v (d+1)) b []))
def goX(T:Nat->Ud)(c:Call)(t:Fr)(ty:TypeId)(w:X)(d:Nat)(k:KX):Cn:=
 match c.args.toList.map (th t),c.callee with
 |a,.builtin .len=>match a with
  |.vstr s::_=>k (.vint .i64 (.ofN (.size s))) w d []
  |.vslice _ l _::_=>k (.vint .i64 (.ofN l)) w d []
  |_=>match T ((c.argTypes[0]?).getD 0) with
   |.ar n _=>k (.vint .i64 (.int n)) w d []
   |.pt e=>match T e with
    |.ar n _=>k (.vint .i64 (.int n)) w d []
    |_=>.fa
   |.mp _=>vw .l c ty a w d λb=>bT (QN T ty) b λv h=>.ev (.v d) (em v) (k v (.v (d+1)) h [])
   |_=>.fa
 |x::a,.builtin .min=>k (mmX false x a) w d []
 |x::a,.builtin .max=>k (mmX true x a) w d []
 |a,.builtin .append=>vw .a c ty a w d λb=>bT (QN T ty) b λv h=>.ev (.v d) (em v) (k v (.v (d+1)) h [])
 |a,.builtin .copy=>vw .c c ty a w d λb=>k (.v d) (.v (d+1)) b []
 |a,.builtin .clear=>vw .r c ty a w d λb=>k (.v d) (.v (d+1)) b []
 |a,.value f=>match th t f with
  |.vfn g x y=>abq T g (OO x++(a++OO y)) ty w d k
  |.undef=>.fa
  |f=>.cf f (ems a) w (bK (kdT T ty) (d+2) λv b=>.er (.v d) (em v) (k v (.v (d+1)) b []))
 |_,_=>.fa
def adA(l:X)(h m:X)(sz:Nat)(a:X):X:=.vslice (.oif m l a sz) (.nsub h l) (.nsub m l)
def Tz(t:Fr):Option Operand->Option X
 |none=>none
 |some o=>some (th t o)
def V8(T:Nat->Ud)(d:Option Nat)(i:Nat):List Oper->TK
 |[]=>.s .raw
 |o::l=>match o.op,d with
  |.extract (.tmp x) j,some y=>cond ((x==y)&&(i==j)) (QN T o.type) (V8 T d i l)
  |_,_=>V8 T d i l
def opX(T:Nat->Ud)(u:List Oper)(o:Oper)(t:Fr)(w:X)(d:Nat)(k:KX):Cn:=match o.op with
 |.move x=>k (th t x) w d []
 |.assign x=>k (th t x) w d []
 |.pick c a b=>match th t c with
  |.vbool (.tt true)=>k (th t a) w d []
  |.vbool (.tt false)=>k (th t b) w d []
  |.vbool c=>.cd c (k (th t a) w d []) (k (th t b) w d [])
  |_=>.fa
 |.nilCheck x=>match th t x with
  |.vptr p=>onX p d λa d=>k (.vptr (.osome a)) w d []
  |.vfn f a b=>k (.vfn f a b) w d []
  |.viface a b=>k (.viface a b) w d []
  |_=>.fa
 |.fieldAddr g x f=>match th t x with
  |.vptr (.osome a)=>k (.vptr (.osome (acS a (Y9 T g f).2))) w d []
  |_=>.fa
 |.load g x=>match th t x with
  |.vptr p=>onX p d λa d=>bT (QN T g) d λv j=>match v with
   |.vagg l=>cond (Zi (QN T g)) (match gl (OO l) with
    |r=>.cs w a r (k v w j [(true,a,r)])) .fa
   |v=>.cl w a v (k v w j [(false,a,v)])
  |_=>.fa
 |.store _ x y=>match th t x,wN (th t y) with
  |.vptr (.osome _),[]=>k .undef w d []
  |.vptr (.osome a),[v]=>.sk w a (em v) (k .undef (.v d) (d+1) [])
  |.vptr (.osome a),l=>.sl a (gl l) w (k .undef (.v d) (d+1) [])
  |_,_=>.fa
 |.box g x=>.nw w (gl (wN (th t x))) g (k (.vptr (.osome (.ad (.v d) 0))) (.v (d+1)) (d+2) [])
 |.alloc g=>.nw w (gl (wN (OW T g))) g (k (.vptr (.osome (.ad (.v d) 0))) (.v (d+1)) (d+2) [])
 |.build g A=>match T g with
  |.ar _ e=>match XI T e with
   |z=>k (.vagg (Ff (GY (λi=>i*z) t A.toList (wN (OW T g))))) w d []
  |_=>k (.vagg (Ff (GY (λi=>(Y9 T g i).2) t A.toList (wN (OW T g))))) w d []
 |.buildSlice g n A=>match T g with
  |.sl e=>match XI T e with
   |z=>.nw w (gl (GY (λi=>i*z) t A.toList (List.replicate n (wN (OW T e))).flatten)) e (k (.vslice (.osome (.ad (.v d) 0)) (.nat n) (.nat n)) (.v (d+1)) (d+2) [])
  |_=>.fa
 |.field g x f=>match th t x,Y9 T g f with
  |.vagg l,(h,off)=>cond (Zi (QN T h)) (k (.vagg (Ff (((OO l).drop off).take (XI T h)))) w d []) (k (hd ((OO l).drop off)) w d [])
  |_,_=>.fa
 |.extract x i=>match th t x with
  |.vtup l=>k (hd ((OO l).drop i)) w d []
  |_=>.fa
 |.makeInterface g x=>k (.viface g (th t x)) w d []
 |.makeFunc (.func f) a b=>k (.vfn f (Ff (a.toList.map (th t))) (Ff (b.toList.map (th t)))) w d []
 |.unOp .not _ x=>match th t x with
  |.vbool (.tt b)=>k (.vbool (.tt (!b))) w d []
  |.vbool x=>k (.vbool (.not x)) w d []
  |_=>.fa
 |.unOp .neg _ x=>match th t x with
  |.vint q x=>k (.vint q (.wr q (.sub (.int 0) x))) w d []
  |_=>.fa
 |.binOp b g x y _=>acY T b g (th t x) (th t y) x y w d k
 |.convert s e x=>match T e,th t x with
  |.it q,.vint _ x=>k (.vint q (.wr q x)) w d []
  |_,x=>.cv s e (em x) w (bT (QN T o.type) (d+2) λv j=>.ev (.v d) (em v) (k v (.v (d+1)) j []))
 |.makeSlice g l c=>.mk g (th t l) (th t c) w (bT (QN T o.type) (d+2) λv j=>.ev (.v d) (em v) (k v (.v (d+1)) j []))
 |.indexAddr g x i=>match T g,th t x,th t i with
  |.sl e,.vslice p l _,.vint _ i=>onX p d λa d=>.z0 i (.ln i l (k (.vptr (.osome (.adx a i (XI T e)))) w d []))
  |.ar n e,.vptr p,.vint _ i=>onX p d λa d=>.z0 i (.ln i (.nat n) (k (.vptr (.osome (.adx a i (XI T e)))) w d []))
  |_,_,_=>.fa
 |.index g x i=>match T g,th t x,th t i with
  |.sr,.vstr s,.vint _ i=>.z0 i (.ix s i (k (.vint .u8 (.ofC (.v d))) w (d+1) []))
  |.ar n e,.vagg l,.vint _ i=>.z0 i (.ln i (.nat n) (match (QN T e) with
   |.s q=>bT (.s q) d λv j=>.ar (gl (OO l)) i (XI T e) v (k v w j [])
   |.agg _=>k (.vaggx (gl (OO l)) i (XI T e)) w d []))
  |_,_,_=>.fa
 |.slice g x lo p mx=>match T g,th t x with
  |.sr,.vstr s=>bnX s (λh=>bnX s (λl=>k (.vstr (.ext s l h)) w d []) (.nat 0) h (Tz t lo)) (.size s) (.size s) (Tz t p)
  |.sl e,.vslice a l c=>bnX a (λm=>bnX a (λh=>bnX a (λr=>k (adA r h m (XI T e) a) w d []) (.nat 0) h (Tz t lo)) l m (Tz t p)) c c (Tz t mx)
  |_,_=>.fa
 |.lookup g x i b=>match T g with
  |.mp e=>.lk g (em (th t x)) (em (th t i)) b w (bT (QN T e) (d+2) λv j=>cond b (.ex .bool (match X.vtup (.cons v (.cons (.vbool (.v j)) .nil)) with
    |v=>.ev (.v d) (em v) (k v (.v (d+1)) (j+1) []))) (.ev (.v d) (em v) (k v (.v (d+1)) j [])))
  |_=>.fa
 |.mapUpdate g m q x=>.mu g (em (th t m)) (em (th t q)) (em (th t x)) w (k .undef (.v (d+1)) (d+2) [])
 |.insert g m q x=>.mu g (em (th t m)) (em (th t q)) (em (th t x)) w (k .undef (.v (d+1)) (d+2) [])
 |.makeMap g r=>.mm g (match r with
  |none=>.nil
  |some r=>.cons (em (th t r)) .nil) w (.ex .map (.ev (.v d) (.vmap (.v (d+2))) (k (.vmap (.v (d+2))) (.v (d+1)) (d+3) [])))
 |.range g x=>.rg g (em (th t x)) w (.ex .blk (match X.vptr (.osome (.ad (.v (d+2)) 0)) with
  |v=>.ev (.v d) v (k v (.v (d+1)) (d+3) [])))
 |.next i s=>.nx (em (th t i)) s o.type w (.orr (match X.vtup (.cons (.vbool (.tt false)) .nil) with
   |v=>.ev (.v d) v (k v (.v (d+1)) (d+2) []))
  (cond s (Sv [.int .i64,.int .i32] (match X.vtup (.cons (.vbool (.tt true)) (.cons (.vint .i64 (.v (d+2))) (.cons (.vint .i32 (.v (d+3))) .nil))) with
   |v=>.ev (.v d) v (k v (.v (d+1)) (d+4) [])))
   (Sv [.raw,.raw] (match X.vtup (.cons (.vbool (.tt true)) (.cons (.v (d+2)) (.cons (.v (d+3)) .nil))) with
   |v=>.ev (.v d) v (k v (.v (d+1)) (d+4) [])))))
 |.entry i=>.en (em (th t i)) w (bK (.tup [V8 T o.dst 0 u,V8 T o.dst 1 u]) (d+2) λv j=>.ev (.v d) (em v) (k v (.v (d+1)) j []))
 |.call c=>goX T c t o.type w d k
 |_=>.fa
def oD(t:Fr)(d:Option Nat)(v:X):Fr:=match d with
 |some d=>ZW t d v
 |none=>t
def Ze(d:List Oper)(o:Oper)(t:Fr)(A B:Fr->Cn):Cn:=match o.guard with
 |none=>A t
 |some (j,a)=>match (d[j]?).bind (·.dst) with
  |none=>B t
  |some s=>match lkF t s with
   |.vbool (.tt b)=>cond (cond a b (!b)) (A t) (B t)
   |.vbool c=>.cd c (cond a (A (ZW t s (.vbool (.tt true)))) (B (ZW t s (.vbool (.tt true))))) (cond a (B (ZW t s (.vbool (.tt false)))) (A (ZW t s (.vbool (.tt false)))))
   |_=>B t
def ZI(T:Nat->Ud)(all:List Oper):List Oper->Fr->X->Nat->(Fr->X->Nat->Cn)->Cn
 |[],t,w,d,k=>k t w d
 |o::l,t,w,d,k=>Ze all o t (λt=>opX T l o t w d λv w d _=>ZI T all l (oD t o.dst v) w d k) (λt=>ZI T all l (oD t o.dst .undef) w d k)
def bnd(e:Edge):Bool:=match e.ground with
 |.textOnly _=>false
 |.gcOnly _=>false
 |_=>true
def rdX(o:Op):Bool:=match o with
 |.move _|.assign _|.pick _ _ _|.load _ _|.nilCheck _|.binOp .. |.unOp .. |.makeInterface .. |.makeFunc .. |.slice .. |.fieldAddr .. |.field .. |.indexAddr .. |.index .. |.extract .. |.typeAssert .. |.build ..=>true
 |.call c=>match c.callee with
  |.builtin .len|.builtin .min|.builtin .max|.builtin .cap=>true
  |_=>false
 |_=>false
structure Eo where
 i:Nat
 r:Bool
 b:Nat
 m:Nat
 o:Oper
def bmX:List Edge->Nat->Nat
 |[],m=>m
 |e::l,m=>bmX l (cond (bnd e) (m |||1 <<< e.on) m)
def abT:List Nat->Nat->Nat
 |[],_=>0
 |x::_,0=>x
 |_::l,n+1=>abT l n
def dmX(ms:List Nat):List Edge->Nat->Nat
 |[],m=>m
 |e::l,m=>dmX ms l (cond (bnd e) (m |||(1 <<< e.on |||abT ms e.on)) m)
def abC:List Oper->Nat->List Nat->List Eo
 |[],_,_=>[]
 |o::l,i,ms=>match dmX ms o.after.toList 0 with
  |m=>⟨i,rdX o.op,bmX o.after.toList 0,m,o⟩::abC l (i+1) (ms++[m])
def ab5(ls:Nat)(e:Eo):Bool:=((e.b &&& ls)==e.b)
def Yf(ls:Nat):List Eo->Option (Eo×List Eo)
 |[]=>none
 |e::l=>match e.r&&ab5 ls e with
  |true=>some (e,l)
  |false=>match Yf ls l with
   |some (x,r)=>some (x,e::r)
   |none=>none
def TH(ls:Nat):List Eo->List Eo->List (Eo×List Eo)
 |_,[]=>[]
 |p,e::l=>match ab5 ls e with
  |true=>(e,p++l)::TH ls (p++[e]) l
  |false=>TH ls (p++[e]) l
def acZ(m i:Nat):Bool:=((m >>> i%2)==1)
def acR(i:Nat)(T:Pn)(a:List (Nat×Pn)):List (Nat×Pn):=match T with
 |[]=>a
 |T=>(i,T)::a
def ab1(w:X):List (Nat×Pn)->Cn->Cn
 |[],c=>c
 |(_,l)::r,c=>l.foldr (λ(g,a,v) c=>cond g (.cs w a v c) (.cl w a v c)) (ab1 w r c)
def cjX:List Cn->Cn
 |[]=>.fa
 |[c]=>c
 |c::l=>.an c (cjX l)
def Sd(T:Nat->Ud)(a:List Oper):Nat->Nat->List Eo->List (Nat×Pn)->Fr->X->Nat->(Fr->X->Nat->Cn)->Cn
 |0,_,_,_,t,w,d,k=>k t w d
 |n+1,ls,l,b,t,w,d,k=>match Yf ls l with
  |some (e,l)=>match ls |||1 <<< e.i with
   |ls=>Ze a e.o t (λt=>opX T [] e.o t w d λv w d q=>Sd T a n ls l (acR e.i q b) (oD t e.o.dst v) w d k) (λt=>Sd T a n ls l b (oD t e.o.dst .undef) w d k)
  |none=>match TH ls [] l with
   |[]=>k t w d
   |c=>cjX (c.map λx=>match x with
    |(e,l)=>match b.filter λq=>!acZ e.m q.1 with
     |b=>match ls |||1 <<< e.i with
      |ls=>Ze a e.o t (λt=>opX T [] e.o t w d λv w d _=>ab1 w b (Sd T a n ls l b (oD t e.o.dst v) w d k)) (λt=>Sd T a n ls l b (oD t e.o.dst .undef) w d k))
def acV(k:SK)(l:List X):List X×List X:=match k,l with
 |.six,l=>match aai (l.take 6) with
  |some u=>([u],l.drop 6)
  |none=>match l with
   |.vint _ a::.vint _ b::.vint _ c::.vint _ d::.vint _ e::.vint _ f::r=>([.six a b c d e f],r)
   |_=>([],[])
 |.raw,x::r=>([em x],r)
 |.int _,.vint _ x::r=>([x],r)
 |.bool,.vbool x::r=>([x],r)
 |.str,.vstr x::r=>([x],r)
 |.ptr,.vptr x::r=>([x],r)
 |.slice,.vslice p l c::r=>([p,l,c],r)
 |.map,.vmap x::r=>([x],r)
 |.blk,.vptr (.osome (.ad b 0))::r=>([b],r)
 |_,_=>([],[])
def aa8:List SK->List X->List X
 |[],_=>[]
 |k::b,l=>match acV k l with
  |(a,r)=>a++aa8 b r
def RA(t:Fr):Live->List X
 |[]=>[]
 |(s,k)::l=>aa8 (kks k) (cond (Zi k) (wN (lkF t s)) [lkF t s])++RA t l
def aaB:Live->Nat->List (Nat×X)×Nat
 |[],d=>([],d)
 |(s,k)::l,d=>match sT k d with
  |(v,b)=>match aaB l b with
   |(f,a)=>((s,v)::f,a)
def Yx:List SK->Cn->Cn
 |[],c=>c
 |k::a,c=>.al k (Yx a c)
def aa9(f:List (Nat×X))(l:Live):X:=Ff (RA (PY [] f) l)
def NF(l:Live):List SK:=l.flatMap λx=>kks x.2
abbrev QX:=Exit->Fr->X->Nat->Cn
def thX(F:Fr->X->Nat->Cn)(Q:QX):QX
 |.normal,t,w,d=>F t w d
 |e,t,w,d=>Q e t w d
def blX(id:Nat)(Q:QX):QX
 |.exit i,t,w,d=>cond ((i==id)) (Q .normal t w d) (Q (.exit i) t w d)
 |e,t,w,d=>Q e t w d
def gtX(c:Code)(b:Code->Code->QX->QX->Nat->Fr->X->Nat->Cn)(p:Nat)(Q:QX):QX
 |.goto l,t,w,d=>match findLabel c l with
  |some a=>b c a Q Q p t w d
  |none=>.fa
 |e,t,w,d=>Q e t w d
def Nw(T:Nat->Ud)(ann:Nat->Option Live)(e:Code->Code->QX->QX->Nat->Fr->X->Nat->Cn):Code->Nat->QX->Fr->X->Nat->Cn
 |.skip,_,Q,t,w,d=>Q .normal t w d
 |.label _,_,Q,t,w,d=>Q .normal t w d
 |.region _ h j,_,Q,t,w,d=>cond j (Sd T h.toList h.size 0 (abC h.toList 0 []) [] t (.drew w) d λt w d=>Q .normal t w d) (ZI T h.toList h.toList t w d λt w d=>Q .normal t w d)
 |.seq a b,p,Q,t,w,d=>match ann p with
  |none=>Nw T ann e a (2*p) (thX (Nw T ann e b (2*p+1) Q) Q) t w d
  |some g=>match aaB g (d+2) with
   |(f,i)=>.jn (NF g) (.aw (Yx (NF g) (.im (.jp d (aa9 f g) (.v (d+1))) (.ax (Nw T ann e b (2*p+1) Q (PY (PY t ((rT a).map λs=>(s,.xa i s))) f) (.v (d+1)) (i+1))))))
     (Nw T ann e a (2*p) (thX (λt w _=>.jp d (Ff (RA t g)) w) Q) t w (d+1))
 |.cond c a b,p,Q,t,w,d=>match th t c with
  |.vbool (.tt true)=>Nw T ann e a (2*p) Q t w d
  |.vbool (.tt false)=>Nw T ann e b (2*p+1) Q t w d
  |.vbool x=>.cd x (Nw T ann e a (2*p) Q t w d) (Nw T ann e b (2*p+1) Q t w d)
  |_=>.fa
 |.block id c,p,Q,t,w,d=>Nw T ann e c (2*p) (blX id Q) t w d
 |.loop c,p,Q,t,w,d=>match ann p with
  |none=>Nw T ann e c (2*p) (thX (λ_ _ _=>.fa) Q) t w d
  |some g=>match aaB g (d+3) with
   |(f,i)=>.lo (NF g) (Ff (RA t g)) w (.aw (.am (Yx (NF g) (.im (.lm d (d+2) (aa9 f g) (.v (d+1))) (.ax (Nw T ann e c (2*p) (thX (λt w _=>.lp d (d+2) (Ff (RA t g)) w) Q) (PY (PY t ((rT c).map λs=>(s,.xa i s))) f) (.v (d+1)) (i+1)))))))
 |.exit id,_,Q,t,w,d=>Q (.exit id) t w d
 |.ret,_,Q,t,w,d=>Q .ret t w d
 |.scope c,p,Q,t,w,d=>Nw T ann e c (2*p) (gtX c e p Q) t w d
 |.goto l,_,Q,t,w,d=>Q (.goto l) t w d
 |_,_,_,_,_,_=>.fa
def scX(T:Nat->Ud)(ann:Nat->Option Live):Nat->Code->Code->QX->QX->Nat->Fr->X->Nat->Cn
 |0=>λ_ _ _ _ _ _ _ _=>.fa
 |n+1=>λc a Q _ p t w d=>Nw T ann (scX T ann n) a (2*p+1) (gtX c (scX T ann n) p Q) t w d
def V1(T:Nat->Ud)(fn:Func):List ResultVar->List X->Fr->X->Nat->Cn
 |[],[v],_,w,_=>.kk (em v) w
 |[],b,_,w,_=>.kk (em (.vtup (Ff b))) w
 |.tmp s::l,b,t,w,d=>V1 T fn l (b++[lkF t s]) t w d
 |.cell a c::l,b,t,w,d=>opX T [] {dst:=none,op:=.load c (.tmp a),type:=c,pos:= "",after:=#[],guard:=none} t w d λv w d _=>V1 T fn l (b++[v]) t w d
def ads(T:Nat->Ud)(fn:Func):QX
 |.normal,t,w,d=>V1 T fn fn.results.toList [] t w d
 |.ret,t,w,d=>V1 T fn fn.results.toList [] t w d
 |_,_,_,_=>.fa
inductive Pa where
 |k (ks:TK)
 |c (v:Value)
 |adr
 |err (t:Nat)
 |clo (f n:Nat)
def abw:Nat->Nat->List X
 |0,_=>[]
 |n+1,d=>.vptr (.osome (.ad (.v d) 0))::abw n (d+1)
def adk(p:Pa)(d:Nat):List SK×X:=match p with
 |.k k=>(kks k,(sT k d).1)
 |.c v=>([],cst v)
 |.adr=>([.blk,.blk],.vptr (.osome (.iC (.v d) (.v (d+1)) 0)))
 |.err t=>([.int .i64],.viface t (.vint .i64 (.v d)))
 |.clo f n=>(List.replicate n .blk,.vfn f .nil (Ff (abw n d)))
def wid:List SK->Nat
 |[]=>0
 |.slice::l=>wid l+3
 |_::l=>wid l+1
def abZ(T:Nat->Ud):List TypeId->List (Nat×Pa)->Nat->Nat->List SK×List X
 |[],_,_,_=>([],[])
 |t::e,c,i,d=>match adk (match c.find? λq=>(q.1==i) with
   |some q=>q.2
   |none=>.k (QN T t)) d with
  |(b,x)=>match abZ T e c (i+1) (d+wid b) with
   |(a,f)=>(b++a,x::f)
def frm:Nat->List X->Fr->Fr
 |_,[],t=>t
 |i,x::l,t=>frm (i+1) l (ZW t i x)
def anX:List (Nat×Live)->Nat->Option Live
 |[],_=>none
 |(q,a)::l,p=>match q==p with
  |true=>some a
  |false=>anX l p
structure Cf where
 ks:List SK
 xs:X
 c:Cn
def cmp(T:Nat->Ud)(fn:Func)(ps:List (Nat×Pa))(ann:List (Nat×Live)):Cf:=
 match abZ T (fn.params.toList++List.replicate fn.nfree 0) ps 0 0 with
 |(a,b)=>match wid a with
  |d=>⟨a,ems b,Nw T (anX ann) (scX T (anX ann) 2) (kK fn) 1 (ads T fn) (frm 0 b []) (.v d) (d+1)⟩
def TJ:List SK->Type->Type
 |[],R=>R
 |.int _::a,R=>Int->TJ a R
 |.bool::a,R=>Bool->TJ a R
 |.str::a,R=>ByteArray->TJ a R
 |.ptr::a,R=>Option Addr->TJ a R
 |.slice::a,R=>Option Addr->Nat->Nat->TJ a R
 |.map::a,R=>Option Nat->TJ a R
 |.blk::a,R=>Nat->TJ a R
 |.six::a,R=>I6->TJ a R
 |.raw::a,R=>Value->TJ a R
inductive U where
 |i (n:Int)|b (b:Bool)|s (s:ByteArray)|n (n:Nat)|a (a:Addr)|o (o:OA)|w (w:World)|v (v:Value)|l (l:List Value)|u (u:I6)|c (c:UInt8)|m (m:Option Nat)|f (f:Nat->Value)|e (e:Ending)
 |j (ks:List SK) (J:TJ ks (World->Prop))|g (ks:List SK) (J:TJ ks (World->Nat->Prop))
def U.I:U->Int|.i x=>x|_=>0
def U.B:U->Bool|.b x=>x|_=>true
def U.S:U->ByteArray|.s x=>x|_=>bs []
def U.N:U->Nat|.n x=>x|_=>0
def U.A:U->Addr|.a x=>x|_=>⟨0,0,none⟩
def U.O:U->Option Addr|.o x=>x|_=>none
def U.W:U->World|.w x=>x|_=>default
def U.V:U->Value|.v x=>x|_=>Value.nilIface
def U.L:U->List Value|.l x=>x|_=>[]
def U.U6:U->I6|.u x=>x|_=>z6
def U.C:U->UInt8|.c x=>x|_=>0
def U.M:U->Option Nat|.m x=>x|_=>none
def U.F:U->Nat->Value|.f x=>x|_=>λ_=>Value.nilIface
def U.E:U->Ending|.e x=>x|_=>.outgrown
def gU:List U->Nat->U
 |[],_=>.n 0
 |u::_,0=>u
 |_::l,n+1=>gU l n
def ID:List U->List U
 |[]=>[]
 |_::l=>l
def HV(i:Nat)(u:I6):Int:=match i with
 |0=>u.a
 |1=>u.b
 |2=>u.c
 |3=>u.d
 |4=>u.e
 |_=>u.f
def HA(k:IntKind)(n:Int):Value:=match k with
 |.i64=>iv n
 |.i32=>.int .i32 n
 |.i16=>.int .i16 n
 |.i8=>.int .i8 n
 |.u64=>.int .u64 n
 |.u32=>.int .u32 n
 |.u16=>.int .u16 n
 |.u8=>.int .u8 n
def GM(b:Nat)(o:Nat)(n:Nat):Addr:=match n with
 |0=>⟨b,o,none⟩
 |n=>⟨b,o+n,none⟩
def ltB(x y:Int):Bool:=decide (x<y)
def F0(x y:Int):Bool:=decide (x<=y)
def gtB(x y:Int):Bool:=decide (x>y)
def geB(x y:Int):Bool:=decide (x>=y)
def mnI(x y:Int):Int:=if y<x then y else x
def mxI(x y:Int):Int:=if y>x then y else x
def oiF(m l:Nat)(o:OA)(k:Nat):Option Addr:=if m=l then o else Option.map (λx=>Addr.add x (l*k)) o
def qq(x y:Int):ltB x y=decide (x<y):=rfl
def qm(x y:Int):F0 x y=decide (x<=y):=rfl
def qk(x y:Int):gtB x y=decide (x>y):=rfl
def qj(x y:Int):geB x y=decide (x>=y):=rfl
def qy(x y:Int):mnI x y=if y<x then y else x:=rfl
def qA(x y:Int):mxI x y=if y>x then y else x:=rfl
def qB(m l:Nat)(o:OA)(k:Nat):oiF m l o k=if m=l then o else Option.map (λx=>Addr.add x (l*k)) o:=rfl
def GH:List Nat->List UInt8
 |[]=>[]
 |n::l=>UInt8.ofNat n::GH l
def dn(d:Nat)(e:List U):X->U
 |.v i=>gU e (d-(i+1))
 |.int n=>.i (Int.ofNat n)
 |.neg n=>.i (-(Int.ofNat n))
 |.wr k x=>.i (k.wrap (dn d e x).I)
 |.add x y=>.i ((dn d e x).I+(dn d e y).I)
 |.sub x y=>.i ((dn d e x).I-(dn d e y).I)
 |.mul x y=>.i ((dn d e x).I*(dn d e y).I)
 |.tdiv x y=>.i (Int.tdiv (dn d e x).I (dn d e y).I)
 |.tmod x y=>.i (Int.tmod (dn d e x).I (dn d e y).I)
 |.shl k x y=>.i (k.wrap ((dn d e x).I*2 ^ (min (dn d e y).I.toNat k.bits)))
 |.shr k x y=>.i (Int.fdiv (dn d e x).I (2 ^ (min (dn d e y).I.toNat k.bits)))
 |.bAnd k x y=>.i (O2 k (dn d e x).I (dn d e y).I)
 |.bOr k x y=>.i (orI k (dn d e x).I (dn d e y).I)
 |.bXor k x y=>.i (aaM k (dn d e x).I (dn d e y).I)
 |.bNot k x y=>.i (Vh k (dn d e x).I (dn d e y).I)
 |.ofN x=>.i (((dn d e x).N:Nat):Int)
 |.ofC x=>.i ((dn d e x).C.toNat:Int)
 |.mn x y=>.i (mnI (dn d e x).I (dn d e y).I)
 |.mx x y=>.i (mxI (dn d e x).I (dn d e y).I)
 |.pj i j=>.i (HV i (gU e (d-(j+1))).U6)
 |.tt b=>.b b
 |.not x=>.b (!(dn d e x).B)
 |.lt x y=>.b (ltB (dn d e x).I (dn d e y).I)
 |.le x y=>.b (F0 (dn d e x).I (dn d e y).I)
 |.gt x y=>.b (gtB (dn d e x).I (dn d e y).I)
 |.ge x y=>.b (geB (dn d e x).I (dn d e y).I)
 |.eqI x y=>.b ((dn d e x).I==(dn d e y).I)
 |.neI x y=>.b ((dn d e x).I !=(dn d e y).I)
 |.eqB x y=>.b ((dn d e x).B==(dn d e y).B)
 |.eqS x y=>.b ((dn d e x).S.toList==(dn d e y).S.toList)
 |.eqR x y=>.b ((dn d e x).S==(dn d e y).S)
 |.ls x y=>.b (Op.bytesLess (dn d e x).S.toList (dn d e y).S.toList)
 |.or x y=>.b ((dn d e x).B||(dn d e y).B)
 |.and x y=>.b ((dn d e x).B&&(dn d e y).B)
 |.eqU x y=>.b (I6.beq (dn d e x).U6 (dn d e y).U6)
 |.isN x=>.b (dn d e x).O.isNone
 |.str l=>.s (bs (GH l))
 |.ext s l h=>.s ((dn d e s).S.extract (dn d e l).N (dn d e h).N)
 |.app s t=>.s ((dn d e s).S++(dn d e t).S)
 |.nat n=>.n n
 |.toN x=>.n (dn d e x).I.toNat
 |.nsub x y=>.n ((dn d e x).N-(dn d e y).N)
 |.size s=>.n (dn d e s).S.size
 |.ad b n=>.a ⟨(dn d e b).N,n,none⟩
 |.iC b o n=>.a (GM (dn d e b).N (dn d e o).N n)
 |.adn x n=>.a (Addr.add (dn d e x).A n)
 |.adx a i k=>.a (Addr.add (dn d e a).A ((dn d e i).I.toNat*k))
 |.onil=>.o none
 |.osome a=>.o (some (dn d e a).A)
 |.oif m l o k=>.o (oiF (dn d e m).N (dn d e l).N (dn d e o).O k)
 |.six a b c f g h=>.u ⟨(dn d e a).I,(dn d e b).I,(dn d e c).I,(dn d e f).I,(dn d e g).I,(dn d e h).I⟩
 |.z6=>.u Vc.z6
 |.vint k x=>.v (HA k (dn d e x).I)
 |.vbool x=>.v (.bool (dn d e x).B)
 |.vstr x=>.v (.string (dn d e x).S)
 |.vptr x=>.v (.pointer (dn d e x).O)
 |.vslice p l c=>.v (.slice (dn d e p).O (dn d e l).N (dn d e c).N)
 |.vmap x=>.v (.map (dn d e x).M)
 |.mnil=>.m none
 |.vnilf=>.v .nilFunc
 |.vnili=>.v .nilIface
 |.viface t x=>.v (.iface t (dn d e x).V)
 |.vfn f a b=>.v (.func (.func f) (dn d e a).L.toArray (dn d e b).L.toArray)
 |.vagg l=>.v (.agg (dn d e l).L.toArray)
 |.vaggx l i k=>.v (.agg (Array.extract (dn d e l).L.toArray ((dn d e i).I.toNat*k) ((dn d e i).I.toNat*k+k)))
 |.vtup l=>.v (.tuple (dn d e l).L.toArray)
 |.undef=>.v Go.undef
 |.xa j k=>.v ((gU e (d-(j+1))).F k)
 |.nil=>.l []
 |.cons x r=>.l ((dn d e x).V::(dn d e r).L)
 |.csix j r=>.l ((gU e (d-(j+1))).U6.on (dn d e r).L)
 |.cvs j=>.l (gU e (d-(j+1))).U6.vs
 |.cz6=>.l Vc.z6.vs
 |.drew w=>.w (dn d e w).W.drew
def DH(d:Nat)(e:List U):X->List U
 |.cons x r=>dn d e x::DH d e r
 |_=>[]
def zS{R:Type}(z:R):(a:List SK)->TJ a R->List U->R
 |[],J,_=>J
 |.int _::a,J,u::l=>zS z a (J u.I) l
 |.bool::a,J,u::l=>zS z a (J u.B) l
 |.str::a,J,u::l=>zS z a (J u.S) l
 |.ptr::a,J,u::l=>zS z a (J u.O) l
 |.slice::a,J,u::c::b::l=>zS z a (J u.O c.N b.N) l
 |.map::a,J,u::l=>zS z a (J u.M) l
 |.blk::a,J,u::l=>zS z a (J u.N) l
 |.six::a,J,u::l=>zS z a (J u.U6) l
 |.raw::a,J,u::l=>zS z a (J u.V) l
 |_::_,_,_=>z
def jU(u:U)(l:List U)(w:World):Prop:=match u with
 |.j a J=>zS (λ_=>False) a J l w
 |_=>False
def gJ(u:U)(l:List U)(w:World)(m:Nat):Prop:=match u with
 |.g a J=>zS (λ_ _=>False) a J l w m
 |_=>False
def vZ(P:Program)(o:Bu)(b:List Nat)(ty:Nat)(l:List Value)(w:World)(K:KP):Prop:=match o with
 |.a=>kg P (Builtin.append_ b.toArray ty l.toArray) w K
 |.c=>kg P (Builtin.copy_ b.toArray ty l.toArray) w K
 |.r=>kg P (Builtin.clear_ b.toArray ty l.toArray) w K
 |.l=>kg P (Builtin.len_ b.toArray ty l.toArray) w K
def vI:List Value->Option Value
 |v::_=>some v
 |[]=>none
def dc(P:Program)(K:KP):Cn->Nat->List U->Prop
 |.fa,_,_=>False
 |.kk v w,d,e=>K (dn d e v).V (dn d e w).W
 |.an c z,d,e=>dc P K c d e/\dc P K z d e
 |.orr c z,d,e=>dc P K c d e\/dc P K z d e
 |.ex (.int _) c,d,e=>∃n:Int,dc P K c (d+1) (.i n::e)
 |.ex .bool c,d,e=>∃b:Bool,dc P K c (d+1) (.b b::e)
 |.ex .str c,d,e=>∃s:ByteArray,dc P K c (d+1) (.s s::e)
 |.ex .ptr c,d,e=>∃p:Option Addr,dc P K c (d+1) (.o p::e)
 |.ex .slice c,d,e=>∃(a:OA) (l n:Nat),dc P K c (d+3) (.n n::.n l::.o a::e)
 |.ex .map c,d,e=>∃m:Option Nat,dc P K c (d+1) (.m m::e)
 |.ex .blk c,d,e=>∃r:Nat,dc P K c (d+1) (.n r::e)
 |.ex .six c,d,e=>∃u:I6,dc P K c (d+1) (.u u::e)
 |.ex .raw c,d,e=>∃v:Value,dc P K c (d+1) (.v v::e)
 |.cl w a v c,d,e=>(dn d e w).W.cell? (dn d e a).A=some (dn d e v).V/\dc P K c d e
 |.cs w a l c,d,e=>aU (dn d e w).W (dn d e a).A 0 (dn d e l).L/\dc P K c d e
 |.os p c,d,e=>fN (dn d e p).O λq=>dc P K c (d+1) (.a q::e)
 |.cd b c z,d,e=>cond (dn d e b).B (dc P K c d e) (dc P K z d e)
 |.sk w a v c,d,e=>kB (dn d e w).W (dn d e a).A (dn d e v).V λh=>dc P K c (d+1) (.w h::e)
 |.sl a l w c,d,e=>yY (dn d e a).A 0 (dn d e l).L (dn d e w).W λh=>dc P K c (d+1) (.w h::e)
 |.nw w l y c,d,e=>gK (dn d e w).W (.cells (dn d e l).L.toArray y) λr h=>dc P K c (d+2) (.w h::.n r::e)
 |.ev x v c,d,e=>(dn d e x).V=(dn d e v).V/\dc P K c d e
 |.er x v c,d,e=>(dn d e x).E=.returned (dn d e v).V/\dc P K c d e
 |.z0 i c,d,e=>0<=(dn d e i).I/\dc P K c d e
 |.ln i n c,d,e=>(dn d e i).I<(((dn d e n).N:Nat):Int)/\dc P K c d e
 |.le i n c,d,e=>(dn d e i).I<=(((dn d e n).N:Nat):Int)/\dc P K c d e
 |.ne i c,d,e=>(dn d e i).I≠0/\dc P K c d e
 |.ms s t c,d,e=>(((dn d e s).S.size+(dn d e t).S.size:Nat):Int)<=IntKind.i64.max/\dc P K c d e
 |.ix s i c,d,e=>fN (dn d e s).S[(dn d e i).I.toNat]? λb=>dc P K c (d+1) (.c b::e)
 |.ar l i G v c,d,e=>(dn d e l).L.toArray[(dn d e i).I.toNat*G]?=some (dn d e v).V/\dc P K c d e
 |.ca f l w c,d,e=>Calls P f (dn d e l).L.toArray (dn d e w).W λx h=>dc P K c (d+2) (.w h::.e x::e)
 |.cf f l w c,d,e=>rZ P (dn d e f).V (dn d e l).L.toArray (dn d e w).W λx h=>dc P K c (d+2) (.w h::.e x::e)
 |.ni v c,d,e=>Ti (dn d e v).V λb=>dc P K c (d+1) (.b b::e)
 |.nf v c,d,e=>Th (dn d e v).V λb=>dc P K c (d+1) (.b b::e)
 |.cv s t x w c,d,e=>kg P (convert s t (dn d e x).V) (dn d e w).W λx h=>dc P K c (d+2) (.w h::.v x::e)
 |.mk y l k w c,d,e=>kg P (Instr.makeSlice y (dn d e l).V (dn d e k).V) (dn d e w).W λx h=>dc P K c (d+2) (.w h::.v x::e)
 |.ap o D y l w c,d,e=>vZ P o D y (dn d e l).L (dn d e w).W λx h=>dc P K c (d+2) (.w h::.v x::e)
 |.lk y x i b w c,d,e=>kg P (Instr.lookup y (dn d e x).V (dn d e i).V b) (dn d e w).W λx h=>dc P K c (d+2) (.w h::.v x::e)
 |.mu y m k x w c,d,e=>kg P (Instr.mapUpdate y (dn d e m).V (dn d e k).V (dn d e x).V) (dn d e w).W λ_ h=>dc P K c (d+2) (.w h::.n 0::e)
 |.mm y r w c,d,e=>kg P (Instr.makeMap y (vI (dn d e r).L)) (dn d e w).W λx h=>dc P K c (d+2) (.w h::.v x::e)
 |.rg y x w c,d,e=>kg P (Instr.range y (dn d e x).V) (dn d e w).W λx h=>dc P K c (d+2) (.w h::.v x::e)
 |.nx i s y w c,d,e=>kg P (Instr.next (dn d e i).V s y) (dn d e w).W λx h=>dc P K c (d+2) (.w h::.v x::e)
 |.en i w c,d,e=>kg P (Instr.entry (dn d e i).V) (dn d e w).W λx h=>dc P K c (d+2) (.w h::.v x::e)
 |.jn C c z,d,e=>∃J:TJ C (World->Prop),dc P K c (d+1) (.j C J::e)/\dc P K z (d+1) (.j C J::e)
 |.jp j l w,d,e=>jU (gU e (d-(j+1))) (DH d e l) (dn d e w).W
 |.lo C l w c,d,e=>∃I:TJ C (World->Nat->Prop),(∃m,gJ (.g C I) (DH d e l) (dn d e w).W m)/\dc P K c (d+1) (.g C I::e)
 |.lp i m l w,d,e=>∃F,F<(gU e (d-(m+1))).N/\gJ (gU e (d-(i+1))) (DH d e l) (dn d e w).W F
 |.lm i m l w,d,e=>gJ (gU e (d-(i+1))) (DH d e l) (dn d e w).W (gU e (d-(m+1))).N
 |.al (.int _) c,d,e=>∀n:Int,dc P K c (d+1) (.i n::e)
 |.al .bool c,d,e=>∀b:Bool,dc P K c (d+1) (.b b::e)
 |.al .str c,d,e=>∀s:ByteArray,dc P K c (d+1) (.s s::e)
 |.al .ptr c,d,e=>∀p:Option Addr,dc P K c (d+1) (.o p::e)
 |.al .slice c,d,e=>∀(a:OA) (l n:Nat),dc P K c (d+3) (.n n::.n l::.o a::e)
 |.al .map c,d,e=>∀m:Option Nat,dc P K c (d+1) (.m m::e)
 |.al .blk c,d,e=>∀r:Nat,dc P K c (d+1) (.n r::e)
 |.al .six c,d,e=>∀u:I6,dc P K c (d+1) (.u u::e)
 |.al .raw c,d,e=>∀v:Value,dc P K c (d+1) (.v v::e)
 |.aw c,d,e=>∀h:World,dc P K c (d+1) (.w h::e)
 |.am c,d,e=>∀m:Nat,dc P K c (d+1) (.n m::e)
 |.ax c,d,e=>∀x:Nat->Value,dc P K c (d+1) (.f x::e)
 |.im c z,d,e=>dc P K c d e->dc P K z d e
 |.pa (.int _) c,d,e=>∀⦃n:Int⦄,dc P K c (d+1) (.i n::e)
 |.pa .bool c,d,e=>∀⦃b:Bool⦄,dc P K c (d+1) (.b b::e)
 |.pa .str c,d,e=>∀⦃s:ByteArray⦄,dc P K c (d+1) (.s s::e)
 |.pa .ptr c,d,e=>∀⦃p:Option Addr⦄,dc P K c (d+1) (.o p::e)
 |.pa .slice z,d,e=>∀⦃a:Option Addr⦄ ⦃l c:Nat⦄,dc P K z (d+3) (.n c::.n l::.o a::e)
 |.pa .map c,d,e=>∀⦃m:Option Nat⦄,dc P K c (d+1) (.m m::e)
 |.pa .blk c,d,e=>∀⦃r:Nat⦄,dc P K c (d+1) (.n r::e)
 |.pa .six c,d,e=>∀⦃u:I6⦄,dc P K c (d+1) (.u u::e)
 |.pa .raw c,d,e=>∀⦃v:Value⦄,dc P K c (d+1) (.v v::e)
 |.pw c,d,e=>∀⦃w:World⦄ ⦃K:KP⦄,dc P K c (d+1) (.w w::e)
 |.st f l c,d,e=>dc P K c d e->Calls P f (dn (d-1) (ID e) l).L.toArray (gU e 0).W (wo K)
def lam{R:Type}:(f:List SK)->Nat->List U->(Nat->List U->R)->TJ f R
 |[],d,e,F=>F d e
 |.int _::f,d,e,F=>λn=>lam f (d+1) (.i n::e) F
 |.bool::f,d,e,F=>λb=>lam f (d+1) (.b b::e) F
 |.str::f,d,e,F=>λs=>lam f (d+1) (.s s::e) F
 |.ptr::f,d,e,F=>λp=>lam f (d+1) (.o p::e) F
 |.slice::f,d,e,F=>λa l c=>lam f (d+3) (.n c::.n l::.o a::e) F
 |.map::f,d,e,F=>λm=>lam f (d+1) (.m m::e) F
 |.blk::f,d,e,F=>λr=>lam f (d+1) (.n r::e) F
 |.six::f,d,e,F=>λu=>lam f (d+1) (.u u::e) F
 |.raw::f,d,e,F=>λv=>lam f (d+1) (.v v::e) F
def Cw{R:Type}:(f:List SK)->Nat->List U->(Nat->List U->R)->TJ f R
 |[],d,e,F=>F d e
 |.int _::f,d,e,F=>λn=>Cw f (d+1) (.i n::e) F
 |.bool::f,d,e,F=>λb=>Cw f (d+1) (.b b::e) F
 |.str::f,d,e,F=>λs=>Cw f (d+1) (.s s::e) F
 |.ptr::f,d,e,F=>λp=>Cw f (d+1) (.o p::e) F
 |.slice::f,d,e,F=>λa l c=>Cw f (d+3) (.n c::.n l::.o a::e) F
 |.map::f,d,e,F=>λm=>Cw f (d+1) (.m m::e) F
 |.blk::f,d,e,F=>λr=>Cw f (d+1) (.n r::e) F
 |.six::f,d,e,F=>λu=>Cw f (d+1) (.u u::e) F
 |.raw::f,d,e,F=>λv=>Cw f (d+1) (.v v::e) F
def wrap:List SK->Cn->Cn
 |[],c=>c
 |k::a,c=>.pa k (wrap a c)
theorem qZ{P:Program}{Q:KP}{c:Cn}{R:Type}{F G:Nat->List U->R}:∀(a:List SK) (d:Nat) (e:List U),lam a d e F=Cw a d e G->(∀d e,F d e=G d e->dc P Q c d e)->dc P Q (wrap a c) d e
 |[],d,e,h,k=>k d e h
 |.int _::a,d,e,h,k=>λ_=>qZ a _ _ (congrFun h _) k
 |.bool::a,d,e,h,k=>λ_=>qZ a _ _ (congrFun h _) k
 |.str::a,d,e,h,k=>λ_=>qZ a _ _ (congrFun h _) k
 |.ptr::a,d,e,h,k=>λ_=>qZ a _ _ (congrFun h _) k
 |.slice::a,d,e,h,k=>λ_ _ _=>qZ a _ _ (congrFun (congrFun (congrFun h _) _) _) k
 |.map::a,d,e,h,k=>λ_=>qZ a _ _ (congrFun h _) k
 |.blk::a,d,e,h,k=>λ_=>qZ a _ _ (congrFun h _) k
 |.six::a,d,e,h,k=>λ_=>qZ a _ _ (congrFun h _) k
 |.raw::a,d,e,h,k=>λ_=>qZ a _ _ (congrFun h _) k
def dcF(P:Program)(c:Cn)(d:Nat)(e:List U):World->(KP)->Prop:=λw K=>dc P K c (d+1) (.w w::e)
def vcF(P:Program)(fn:Func)(ann:List (Nat×Live))(a:X)(d:Nat)(e:List U):World->(KP)->Prop:=λw K=>
 vc P (Dt ann) (kK fn) 1 (RL P fn K) ((dn d e a).L++List.replicate (fn.ntmps-(dn d e a).L.length) undef) [] w
def FG(P:Program)(f:FuncId)(c:Cf):Prop:=dc P (λ_ _=>True) (wrap c.ks (.pw (.st f c.xs c.c))) 0 []
def aau{P:Program}{f:FuncId}{fn:Func}(g:P.funcs[f]?=some fn)(b:fn.body=some (kK fn)){ann:List (Nat×Live)}{c:Cf}(i:lam c.ks 0 [] (dcF P c.c)=Cw c.ks 0 [] (vcF P fn ann c.xs)):FG P f c:=
 qZ c.ks 0 [] i λd e h w K a=>uK (Dt ann) g b (congrFun (congrFun h w) K) a
structure En (P:Program) where
 f:FuncId
 fn:Func
 h:P.funcs[f]?=some fn
 ps:List (Nat×Pa)
 an:List (Nat×Live)
def en{P:Program}{f:FuncId}{fn:Func}(h:P.funcs[f]?=some fn)(ps:List (Nat×Pa))(an:List (Nat×Live)):En P:=⟨f,fn,h,ps,an⟩
def cmpL{P:Program}(T:Nat->Ud):List (En P)->List Cf
 |[]=>[]
 |x::l=>cmp T x.fn x.ps x.an::cmpL T l
def HL:List Cf->Type
 |[]=>Unit
 |c::l=>(Option Code×TJ c.ks (World->(KP)->Prop))×HL l
def Wr(P:Program):List (En P)->(cs:List Cf)->HL cs
 |x::l,c::cs=>((x.fn.body,lam c.ks 0 [] (dcF P c.c)),Wr P l cs)
 |[],c::cs=>((none,lam c.ks 0 [] (dcF P c.c)),Wr P [] cs)
 |[],[]=>()
 |_::_,[]=>()
def Ws(P:Program):List (En P)->(cs:List Cf)->HL cs
 |x::l,c::cs=>((some (kK x.fn),Cw c.ks 0 [] (vcF P x.fn x.an c.xs)),Ws P l cs)
 |[],c::cs=>((none,lam c.ks 0 [] (dcF P c.c)),Ws P [] cs)
 |[],[]=>()
 |_::_,[]=>()
def uv{P:Program}:List (En P)->List Cf->Prop
 |x::l,c::cs=>FG P x.f c/\uv l cs
 |_,_=>True
theorem OF{P:Program}:∀(l:List (En P)) (cs:List Cf),Wr P l cs=Ws P l cs->uv l cs
 |[],[],_=>trivial
 |[],_::_,_=>trivial
 |_::_,[],_=>trivial
 |x::l,c::cs,h=>⟨aau x.h (congrArg (λp=>p.1.1) h) (congrArg (λp=>p.1.2) h),OF l cs (congrArg Prod.snd h)⟩
def many{P:Program}(T:Nat->Ud)(l:List (En P)){cs:List Cf}{S:Prop}(_:cmpL T l=cs)(h:Wr P l cs=Ws P l cs)(k:uv l cs->S):S:=k (OF l cs h)
end Go.Vt
namespace Go.Proofs.YtmhhlijfepaphaaGreatDoor
open Go Go.Vc Go.Vt _root_.Go.Proofs.Tryz
def tyT:Tr:=(.n (.tu []) (.n .o (.n (.it .i64) (.n (.st [2,3,4,6]) (.n (.pt 416) (.n (.sl 139) (.n .o (.n .o (.n (.tu [254,47]) .o .o) (.n (.st [5,5]) .o .o)) .o) (.n .o (.n .o .o (.n (.st [17,17,17,9]) .o .o)) (.n .o (.n (.tu [350,47]) .o .o) .o))) (.n (.it .i64) .o (.n .o (.n (.st [3,50]) .o .o) (.n .o (.n .ifc .o .o) .o)))) (.n (.st [2,3,3,3]) (.n (.sl 4) (.n (.pt 116) (.n (.st [9,3,2,3,3]) .o (.n (.pt 398) .o .o)) (.n .o (.n (.tu [50,2]) .o .o) .o)) (.n .o (.n .o .o (.n (.it .i32) .o .o)) .o)) (.n .o (.n (.tu [43,4]) (.n .o (.n (.it .u32) .o .o) .o) .o) .o))) (.n .sr (.n (.st [17]) (.n (.sl 147) (.n (.tu [66,64,47]) (.n .o (.n (.st [254,47]) .o .o) .o) (.n (.sl 5) (.n (.st [3,9,2,3]) .o .o) .o)) (.n (.pt 154) (.n .o .o (.n (.st [417]) .o .o)) (.n (.mp 2) .o .o))) (.n (.st [3,3,3,50,9,43]) (.n .o (.n (.st [37,38,38,39]) .o (.n (.st [9]) .o .o)) .o) (.n (.st [34,23,114,37,38,39,39,4]) .o (.n .o (.n (.tu [165,64]) .o .o) .o)))) (.n (.pt 78) (.n (.it .u64) (.n (.st [73,4,4]) (.n (.st [3,3,3]) .o (.n (.tu [43,367]) .o .o)) (.n (.tu [38,47]) .o .o)) (.n .o (.n .o (.n (.st [34,3,104]) .o .o) .o) (.n (.st [29,50]) (.n (.tu [21,3]) .o .o) .o))) (.n .o (.n .o (.n (.mp 2) (.n (.st [282]) .o .o) (.n (.ar 20 43) .o .o)) (.n (.st [64,165]) .o .o)) (.n .o (.n (.tu [71,47]) (.n (.st [29,312]) .o .o) .o) .o))))) (.n (.it .u8) (.n .sr (.n (.pt 426) (.n (.st [29,30,31,32]) (.n (.st [50,50,50,64,62]) (.n .o (.n (.pt 259) .o .o) (.n (.ar 16 384) .o .o)) .o) (.n .o (.n .o .o (.n (.ar 0 16) .o .o)) (.n .o (.n (.st [309,47]) .o .o) .o))) (.n (.ar 6 3) (.n .o (.n .o (.n (.tu [3,272]) .o .o) (.n (.pt 5) .o .o)) (.n (.tu [3,47]) (.n (.it .u64) .o .o) .o)) (.n .o (.n (.tu [50,50]) (.n (.ar 6 3) .o .o) .o) .o))) (.n .o (.n (.st [34,23,35,37,38,39,39,4]) (.n (.st [3,50,2,42]) (.n (.st [9,3,2,3]) .o .o) .o) (.n .o (.n .o .o (.n (.st [12,12,279,420,5,5,421,422,401,423,424]) .o .o)) (.n .o (.n (.tu [3,3]) .o .o) .o))) (.n .o (.n .o (.n (.st [34,152]) .o .o) .o) .o))) (.n (.st [9,12]) (.n (.it .i32) (.n (.ar 6 2) (.n (.st [3,50,2]) (.n .o .o (.n (.tu [2,367]) .o .o)) .o) (.n .o (.n (.sl 2) .o (.n (.it .u8) .o .o)) .o)) (.n (.tu [45,47]) (.n .o (.n .fn .o .o) .o) (.n .o (.n .o (.n (.sl 350) .o .o) .o) .o))) (.n (.sl 135) (.n (.st [23,3,34,41,39,42,39,43,3,43]) (.n (.st [23,3,34,71,76,43,3,43]) (.n (.st [3,3,3]) .o (.n (.st [9,9,367]) .o .o)) (.n (.tu [37,47]) .o .o)) .o) (.n .o (.n .o (.n (.st [37,50]) .o (.n (.ar 32 5) .o .o)) .o) .o))))) (.n (.it .i64) (.n .bo (.n (.st [2,3,4,6]) (.n (.pt 419) (.n (.sl 141) (.n (.sl 3) (.n .o .o (.n (.st [5,5]) .o .o)) (.n .o (.n (.tu [2,47]) .o .o) .o)) (.n .o (.n .o .o (.n (.st [17,17,17,9]) .o .o)) (.n (.it .u64) .o .o))) (.n .o (.n .o (.n .o (.n (.it .i64) .o .o) .o) .o) (.n .o (.n (.tu [3,4]) .o .o) (.n (.pt 34) (.n (.tu [3,367]) .o .o) .o)))) (.n (.sl 52) (.n (.st [34,23,35,37,38,39,39,4]) (.n (.st [3,50,2,42]) (.n (.st [9,3,2,3]) .o .o) .o) (.n (.sl 158) (.n .o (.n (.tu [64,47]) .o .o) (.n (.it .i32) .o .o)) (.n .o (.n (.pt 337) .o .o) .o))) (.n .o (.n .o (.n (.sl 155) .o (.n (.tu [195,9]) .o .o)) .o) (.n .o (.n .o (.n (.pt 354) .o .o) .o) .o)))) (.n (.it .u64) (.n .ifc (.n (.ar 6 2) (.n .o (.n .o .o (.n (.it .i64) .o .o)) (.n (.sl 9) (.n (.tu [323,47]) .o .o) .o)) (.n (.tu [99,47]) (.n .o .o (.n (.it .u8) .o .o)) .o)) (.n (.st [3,3,3,50,9,43]) (.n (.tu [9,47]) (.n (.st [37,38,38,39]) .o (.n (.st [9]) .o .o)) (.n .o (.n (.pt 3) .o .o) .o)) (.n (.st [34,23,114,37,38,39,39,4]) (.n (.ar 11 9) .o .o) .o))) (.n .o (.n (.st [23,3,34,41,39,42,39,43,3,43]) (.n (.ar 8 75) (.n (.st [3,3,3]) .o .o) .o) (.n .o (.n (.mp 3) .o .o) (.n (.st [29,50]) .o .o))) (.n .o (.n .o (.n .o (.n (.st [282]) .o .o) (.n (.ar 65 5) .o .o)) (.n (.st [64,165]) (.n (.ar 2 38) .o .o) .o)) (.n (.tu [34,3,47]) .o .o))))) (.n (.it .u8) (.n .sr (.n (.st [17]) (.n (.st [29,30,31,32]) (.n (.st [50,50,50,64,62]) (.n (.tu [73,47]) (.n (.st [254,47]) .o .o) (.n (.tu [279,279]) .o .o)) (.n .o (.n (.st [3,9,2,3]) .o .o) .o)) (.n .o (.n .o .o (.n (.st [417]) .o .o)) (.n .o (.n (.st [309,47]) .o .o) .o))) (.n (.ar 6 3) (.n .o (.n (.st [37,38,38,39]) .o (.n (.pt 404) .o .o)) .o) (.n (.sl 148) .o .o))) (.n .o (.n (.sl 73) (.n (.st [73,4,4]) (.n (.st [3,3,3]) .o (.n (.mp 4) .o .o)) .o) (.n (.tu [62,47]) (.n (.tu [2,4]) (.n (.st [34,3,104]) .o .o) (.n (.st [12,12,279,420,5,5,421,422,401,423,424]) .o .o)) .o)) (.n .o (.n .o (.n (.st [34,152]) (.n .fn .o .o) .o) (.n .o (.n (.tu [220,4]) .o .o) .o)) (.n .o (.n .o (.n (.st [29,312]) .o .o) .o) .o)))) (.n (.st [9,12]) (.n (.st [2,3,3,3]) (.n (.sl 50) (.n (.st [3,50,2]) (.n (.st [9,3,2,3,3]) .o .o) (.n (.tu [34,47]) .o .o)) (.n .o (.n (.tu [165,47]) .o (.n .fn .o .o)) (.n .o (.n (.tu [50,3,47]) .o .o) .o))) (.n .o (.n .o (.n .o .o (.n (.ar 24 5) .o .o)) (.n (.tu [3,2,3]) .o .o)) (.n .o (.n .o (.n (.tu [309,47]) .o .o) .o) .o))) (.n (.sl 137) (.n .o (.n (.st [23,3,34,71,76,43,3,43]) (.n .o .o (.n (.st [9,9,367]) .o .o)) .o) (.n .o (.n (.st [3,50]) .o .o) (.n .o (.n .ifc .o .o) .o))) (.n (.sl 70) (.n (.tu [73,4]) (.n (.st [37,50]) .o (.n (.ar 64 5) .o .o)) (.n .o (.n (.st [3,9,2,3]) .o .o) .o)) (.n (.tu [41,47]) (.n (.tu [4,47]) .o .o) (.n (.sl 323) (.n (.ar 256 5) .o .o) .o))))))))
def xP(n:Nat):Ud:=trG 12 tyT n
end Go.Proofs.YtmhhlijfepaphaaGreatDoor
set_option maxHeartbeats 4000000
namespace Go.Proofs.YtmhhlijfepaphaaGreatDoor
open Go Go.Vc Go.Vt _root_.Go.Proofs.Tryz
def p6{A B C D E F G:Prop}(h:A/\B/\C/\D/\E/\F/\G):G:=h.2.2.2.2.2.2
def zl{A S:Prop}(a:A)(k:A->S):S:=k a
def oC:=zl (And.intro (many xP [en func8 [] [],en func35 [(0,.k (.s .blk))] [],en func12 [(0,.k (.s .blk))] [],en func32 [(0,.k (.s .blk))] [],en func20 [] [(107,[(10,.s .bool)]),(431,[(16,.s .bool)])],en func21 [] [],en func24 [(0,.k (.s .blk))] [(431,[(10,.s .bool)])],en func63 [(0,.k (.s .blk))] [],en func64 [(0,.k (.s .blk))] [],en func65 [(0,.k (.s .blk))] [(7,[(5,.s .bool),(6,.s (.int .i64))]),(15,[])],en func66 [(0,.k (.s .blk))] [(7,[])],en func67 [(0,.k (.s .blk))] [],en func68 [(0,.k (.s .blk))] [],en func69 [(0,.k (.s .blk))] [(58,[(17,.s (.int .i64))])],en func70 [(0,.k (.s .blk))] [(7,[])],en func129 [(0,.k (.s .blk))] [(1018,[(55,.s (.int .i64))]),(130355,[(78,.s .bool)])],en func130 [(0,.k (.s .blk))] [],en func349 [] [],en func304 [] []] (by conv=>lhs;reduce) (by kernel_rfl) id) (many xP [en func306 [] [],en func305 [] [(28,[(7,.s (.int .i64))]),(112,[(20,.s .bool)])],en func219 [] [],en func168 [] [(122,[(3,.s (.int .i64)),(10,.s (.int .i64))])],en func57 [] [(26,[(6,.s (.int .i64))]),(1689,[(14,.s .bool)])],en func221 [] [],en func220 [] [(26,[(10,.s (.int .i64))])],en func48 [] [(58,[(8,.s (.int .i64))]),(467,[])],en func159 [] [(58,[(17,.s (.int .i64))]),(14951,[(57,.s .bool)])],en func222 [] [(26,[(10,.s (.int .i64))])],en func160 [] [(58,[(17,.s (.int .i64))]),(14951,[(63,.s .bool)])],en func161 [] [(58,[(14,.s (.int .i64))]),(7474,[(29,.s .bool)]),(14950,[(47,.s .bool)]),(59806,[(53,.s (.int .i64))]),(3827609,[(68,.s .bool)])],en func162 [] [(58,[(14,.s (.int .i64))]),(7474,[(29,.s .bool)]),(14950,[(54,.s .bool)]),(59806,[(60,.s (.int .i64))])],en func100 [] []] (by conv=>lhs;reduce) (by kernel_rfl) id)) λx=>by
 dsimp only[qq,qm,qk,qj,qy,qA,qB,GH,uv,en,FG,wrap,dc,dn,DH,gU,ID,U.I,U.B,U.S,U.N,U.A,U.O,U.W,U.V,U.L,U.U6,U.C,U.M,U.F,U.E,HV,HA,GM,zS,jU,gJ,vZ,vI,TJ,Nat.reduceSub,Nat.reduceAdd,Int.reduceOfNat,Int.reduceNeg,UInt8.reduceOfNat] at x
 exact x
def yL:=(p6 oC.1).2.1
def wA:=(p6 oC.1).2.2.1
def xK:=(p6 oC.1).2.2.2.1
def zD:=(p6 oC.1).2.2.2.2.1
def vl:=(p6 oC.1).2.2.2.2.2.1
def tT:=(p6 (p6 oC.1)).1
def xJ:=(p6 (p6 oC.1)).2.1
def wB:=(p6 (p6 oC.1)).2.2.1
def Kk:=oC.2.2.1
def Gg:=(p6 oC.2).1
def Gh:=(p6 oC.2).2.2.2.1
def uo(a:Nat)(b c d:Int)(e:I6)(f:ByteArray)(g:Int)(w:ah)(K:KP):=gK w (.cells #[qp a] 27) λa h=>gK h (.cells (iv b::iv c::iv d::e.on [.string f,.int .u64 g]:List Value).toArray 52) λb c=>gK c (.cells #[qz] 47) λc d=>∃e,d.cell? (qd a 0)=some (.pointer e)/\cond (e).isNone (kB d (qd c 0) (iv 6) λe=>∃f,e.cell? (qd c 0)=some (iv f)/\K (iv f) e) (∃e f g,∃h:I6,∃i j,aU d (qd b 0) 0 (iv e::iv f::iv g::h.on [.string i,.int .u64 j])/\CC 19 #[.agg (iv e::iv f::iv g::h.on [.string i,.int .u64 j]:List Value).toArray] d λd e=>∃f,d=.returned (iv f)/\cond (f !=0) (kB e (qd c 0) (iv f) λd=>∃f,d.cell? (qd c 0)=some (iv f)/\K (iv f) d) (∃d,e.cell? (qd a 0)=some (.pointer d)/\fN d λd=>∃f,e.cell? (Addr.add d 99)=some (iv f)/\cond (decide (f>=600)) (kB e (qd c 0) (iv 18) λd=>∃f,d.cell? (qd c 0)=some (iv f)/\K (iv f) d) (∃d,e.drew.cell? (qd b 0)=some (iv d)/\∃f,e.drew.cell? (qd a 0)=some (.pointer f)/\fN f λf=>∃g,e.drew.cell? (Addr.add f 4)=some (iv g)/\CC 20 #[iv d,iv g] e.drew λd e=>∃f,d=.returned (.bool f)/\cond (!f) (kB e (qd c 0) (iv 10) λd=>∃f,d.cell? (qd c 0)=some (iv f)/\K (iv f) d) (∃d:Bool->qW,(∀f g,d g f->∀h:qv,cond g (kB f (qd c 0) (iv 6) λg=>∃h,g.cell? (qd c 0)=some (iv h)/\K (iv h) g) (∃g:Bool->qW,(∀h i,g i h->∀j:qv,cond i (kB h (qd c 0) (iv 10) λi=>∃j,i.cell? (qd c 0)=some (iv j)/\K (iv j) i) (∃i,h.cell? (qd a 0)=some (.pointer i)/\fN i λi=>∃j k l m n o p q r s t u v x y z A B C,∃D:I6,∃E F G H I J L,∃M:I6,∃N O P Q R S T,∃U:I6,∃V W X Y Z a1 a2,∃a3:I6,∃a4 a5 a6 a7 a8 a9 b1,∃b2:I6,∃b3 b4 b5 b6 b7 b8 b9,∃c1:I6,∃c2 c3 c4 c5 c6 c7 c8,∃c9:I6,∃d1 d2 d3 d4 d5 d6 d7,∃d8:I6,∃d9 e1 e2 e3 e4 e5 e6 e7 e8,aU h i 0 (iv j::iv k::iv l::iv m::iv n::.slice o p q::.slice r s t::.slice u v x::.slice y z A::.pointer B::iv C::D.on (iv E::.slice F G H::.bool I::.bool J::iv L::M.on (iv N::.slice O P Q::.bool R::.bool S::iv T::U.on (iv V::.slice W X Y::.bool Z::.bool a1::iv a2::a3.on (iv a4::.slice a5 a6 a7::.bool a8::.bool a9::iv b1::b2.on (iv b3::.slice b4 b5 b6::.bool b7::.bool b8::iv b9::c1.on (iv c2::.slice c3 c4 c5::.bool c6::.bool c7::iv c8::c9.on (iv d1::.slice d2 d3 d4::.bool d5::.bool d6::iv d7::d8.on [iv d9,.slice e1 e2 e3,.bool e4,.bool e5,.int .u64 e6,iv e7,.int .u64 e8]))))))))/\gK h (.cells #[qz,qz,qz,qz,qz,qn,qn,qn,qn,.pointer none,qz,qz,qz,qz,qz,qz,qz,qz,qn,.bool false,.bool false,qz,qz,qz,qz,qz,qz,qz,qz,qn,.bool false,.bool false,qz,qz,qz,qz,qz,qz,qz,qz,qn,.bool false,.bool false,qz,qz,qz,qz,qz,qz,qz,qz,qn,.bool false,.bool false,qz,qz,qz,qz,qz,qz,qz,qz,qn,.bool false,.bool false,qz,qz,qz,qz,qz,qz,qz,qz,qn,.bool false,.bool false,qz,qz,qz,qz,qz,qz,qz,qz,qn,.bool false,.bool false,qz,qz,qz,qz,qz,qz,qz,qz,qn,.bool false,.bool false,.int .u64 0,qz,.int .u64 0] 78) λh i=>yY (qd h 0) 0 (iv j::iv k::iv l::iv m::iv n::.slice o p q::.slice r s t::.slice u v x::.slice y z A::.pointer B::iv C::D.on (iv E::.slice F G H::.bool I::.bool J::iv L::M.on (iv N::.slice O P Q::.bool R::.bool S::iv T::U.on (iv V::.slice W X Y::.bool Z::.bool a1::iv a2::a3.on (iv a4::.slice a5 a6 a7::.bool a8::.bool a9::iv b1::b2.on (iv b3::.slice b4 b5 b6::.bool b7::.bool b8::iv b9::c1.on (iv c2::.slice c3 c4 c5::.bool c6::.bool c7::iv c8::c9.on (iv d1::.slice d2 d3 d4::.bool d5::.bool d6::iv d7::d8.on [iv d9,.slice e1 e2 e3,.bool e4,.bool e5,.int .u64 e6,iv e7,.int .u64 e8])))))))) i λi=>∃j,i.drew.cell? (qd a 0)=some (.pointer j)/\∃k,i.drew.cell? (qd a 0)=some (.pointer k)/\fN k λk=>∃l,i.drew.cell? (Addr.add k 9)=some (.pointer l)/\CC 23 #[.pointer l] i.drew λi k=>∃l,i=.returned (.pointer l)/\k.cell? (qd a 0)=some (.pointer j)/\fN j λi=>kB k (Addr.add i 9) (.pointer l) λi=>∃j,i.cell? (qd a 0)=some (.pointer j)/\∃k,i.cell? (qd b 0)=some (iv k)/\CC 24 #[.pointer j,iv k] i λi j=>∃k:Value,i=.returned k/\∃i,j.cell? (qd a 0)=some (.pointer i)/\∃l m n,∃o:I6,∃p q,aU j (qd b 0) 0 (iv l::iv m::iv n::o.on [.string p,.int .u64 q])/\rZ prog k #[.pointer i,.agg (iv l::iv m::iv n::o.on [.string p,.int .u64 q]:List Value).toArray] j λi j=>∃k,i=.returned (iv k)/\kB j (qd c 0) (iv k) λi=>∃j,i.cell? (qd c 0)=some (iv j)/\cond (j !=0) (∃j,i.cell? (qd c 0)=some (iv j)/\kB i (qd c 0) (iv j) λj=>Li prog 22 #[qp c,qp h,qp a] j λj=>∃k,j.cell? (qd c 0)=some (iv k)/\K (iv k) j) (∃j k l,∃m:I6,∃n o,aU i (qd b 0) 0 (iv j::iv k::iv l::m.on [.string n,.int .u64 o])/\CC 25 #[.agg (iv j::iv k::iv l::m.on [.string n,.int .u64 o]:List Value).toArray] i λi j=>∃k l,i=.returned (.tuple #[.string k,iv l])/\∃i,j.cell? (qd a 0)=some (.pointer i)/\fN i λm=>∃n,j.cell? (Addr.add m 99)=some (iv n)/\fN i λi=>kB j (Addr.add i 99) (iv (IntKind.i64.wrap (n+1))) λi=>∃j,i.drew.cell? (qd a 0)=some (.pointer j)/\∃m,i.drew.cell? (qd a 0)=some (.pointer m)/\fN m λm=>∃n,i.drew.cell? (Addr.add m 100)=some (.int .u64 n)/\CC 26 #[.int .u64 n,.string k] i.drew λi k=>∃m,i=.returned (.int .u64 m)/\k.cell? (qd a 0)=some (.pointer j)/\fN j λi=>kB k (Addr.add i 100) (.int .u64 m) λi=>kB i (qd c 0) (iv l) λi=>Li prog 22 #[qp c,qp h,qp a] i λh=>∃i,h.cell? (qd c 0)=some (iv i)/\K (iv i) h)))/\∃c,f.drew.cell? (qd b 0)=some (iv c)/\CC 21 #[iv c] f.drew λc f=>∃h,c=.returned (.bool h)/\cond h (∃c,f.cell? (qd a 0)=some (.pointer c)/\∃h,f.cell? (qd b 1)=some (iv h)/\fN c λc=>0<=h/\h<8/\∃i,f.cell? (Addr.add (Addr.add (Addr.add c 10) ((h).toNat*11)) 10)=some (.bool i)/\g i f) (g false f)))/\∃c,e.drew.cell? (qd b 0)=some (iv c)/\CC 21 #[iv c] e.drew λc e=>∃f,c=.returned (.bool f)/\cond f (∃c,e.cell? (qd b 1)=some (iv c)/\∃b,e.cell? (qd a 0)=some (.pointer b)/\fN b λa=>∃b f g,e.cell? (Addr.add (Addr.add a 5) 1)=some (.slice b f g)/\d (decide (c>=(f:Int))) e) (d false e)))))
def xI{a n1 n2 n3 u1 b n4 w K}(h:uo a n1 n2 n3 u1 b n4 w K):CP 10 #[.pointer (some ⟨a,0,none⟩),.agg (iv n1::iv n2::iv n3::u1.on [.string b,.int .u64 n4]:List Value).toArray] w K:=uK (Dt [(975,[(32,.s .bool)]),(3903,[(47,.s .bool)])]) func10 (by kernel_rfl) (by kernel_rfl) h
def sy(a b c:Nat)(w:ah)(R:qW):Prop:=∃d,w.cell? (qd a 0)=some (iv d)/\cond (d !=0) (∃a,w.cell? (qd c 0)=some (.pointer a)/\∃c d e f g h i j k l m n o p q r s t u,∃v:I6,∃x y z A B C D,∃E:I6,∃F G H I J L M,∃N:I6,∃O P Q S T U V,∃W:I6,∃X Y Z K a2 a3 a4,∃a5:I6,∃a6 a7 a8 a9 b1 b2 b3,∃b4:I6,∃b5 b6 b7 b8 b9 c1 c2,∃c3:I6,∃c4 c5 c6 c7 c8 c9 d1,∃d2:I6,∃d3 d4 d5 d6 d7 d8 d9 e1 e2,aU w (qd b 0) 0 (iv c::iv d::iv e::iv f::iv g::.slice h i j::.slice k l m::.slice n o p::.slice q r s::.pointer t::iv u::v.on (iv x::.slice y z A::.bool B::.bool C::iv D::E.on (iv F::.slice G H I::.bool J::.bool L::iv M::N.on (iv O::.slice P Q S::.bool T::.bool U::iv V::W.on (iv X::.slice Y Z K::.bool a2::.bool a3::iv a4::a5.on (iv a6::.slice a7 a8 a9::.bool b1::.bool b2::iv b3::b4.on (iv b5::.slice b6 b7 b8::.bool b9::.bool c1::iv c2::c3.on (iv c4::.slice c5 c6 c7::.bool c8::.bool c9::iv d1::d2.on [iv d3,.slice d4 d5 d6,.bool d7,.bool d8,.int .u64 d9,iv e1,.int .u64 e2]))))))))/\fN a λa=>yY a 0 (iv c::iv d::iv e::iv f::iv g::.slice h i j::.slice k l m::.slice n o p::.slice q r s::.pointer t::iv u::v.on (iv x::.slice y z A::.bool B::.bool C::iv D::E.on (iv F::.slice G H I::.bool J::.bool L::iv M::N.on (iv O::.slice P Q S::.bool T::.bool U::iv V::W.on (iv X::.slice Y Z K::.bool a2::.bool a3::iv a4::a5.on (iv a6::.slice a7 a8 a9::.bool b1::.bool b2::iv b3::b4.on (iv b5::.slice b6 b7 b8::.bool b9::.bool c1::iv c2::c3.on (iv c4::.slice c5 c6 c7::.bool c8::.bool c9::iv d1::d2.on [iv d3,.slice d4 d5 d6,.bool d7,.bool d8,.int .u64 d9,iv e1,.int .u64 e2])))))))) w λa=>([]:Df)=[]/\R a) (([]:Df)=[]/\R w)
def vQ{a b c:Nat}{w:ah}{R:ah->Prop}(h:sy a b c w R):Li prog 22 #[.pointer (some ⟨a,0,none⟩),.pointer (some ⟨b,0,none⟩),.pointer (some ⟨c,0,none⟩)] w R:=VQ (Dt []) func22 (by kernel_rfl) (by kernel_rfl) (args:=[.pointer (some ⟨a,0,none⟩),.pointer (some ⟨b,0,none⟩),.pointer (some ⟨c,0,none⟩)]) (by kernel_rfl) h
end Go.Proofs.YtmhhlijfepaphaaGreatDoor
namespace Go.Proofs.YtmhhlijfepaphaaGreatDoor
open Go Go.Vc _root_.Go.Proofs.Tryz
def iK(k p:Int):Bool:=
 if k=1 then p==0 else if k=2\/k=3\/k=4 then p==1 else if k=5\/k=6\/k=9 then p==2
 else if k=7 then decide (1<=p)&&decide (p<=3) else if k=8 then p==1||p==2 else p==3
def gD(k:Int):Bool:=decide (k=2\/k=5\/k=6\/k=7)
def Md(w:ah)(k p:Int):CP 20 #[iv k,iv p] w (λr l=>r=.bool (iK k p)/\l=w):=by
 refine oC.1.2.2.2.2.1 ?_
 by_cases a:k=1
 .exact gM a ⟨by rw[iK,ag a],rfl⟩
 refine iI a ⟨λb i=>b=decide (k=2\/k=3\/k=4)/\i=w,?_,?_⟩
 .rintro i _ ⟨rfl,rfl⟩-
  by_cases c:k=2\/k=3\/k=4
  .exact di c ⟨by rw[iK,af a,ag c],rfl⟩
  refine dz c ⟨λb j=>b=decide (k=5\/k=6\/k=9)/\j=i,?_,?_⟩
  .rintro j _ ⟨rfl,rfl⟩-
   by_cases d:k=5\/k=6\/k=9
   .exact di d ⟨by rw[iK,af a,af c,ag d],rfl⟩
   refine dz d ?_
   by_cases f:k=7
   .have e:iK k p=(decide (1<=p)&&decide (p<=3)):=by rw[iK,af a,af c,af d,ag f]
    exact gM f (cBq (λg=>⟨by rw[e,dT g,aO],rfl⟩) λg=>⟨by rw[e,dF g,mO],rfl⟩)
   refine iI f ?_
   by_cases h:k=8
   .have e:iK k p=(p==1||p==2):=by rw[iK,af a,af c,af d,af f,ag h]
    exact gM h (cBq (λg=>⟨by rw[e,g];rfl,rfl⟩) λg=>⟨by rw[e,aC.2 g,fO],rfl⟩)
   exact iI h ⟨by rw[iK,af a,af c,af d,af f,af h],rfl⟩
  by_cases d:k=5
  .exact gM d ⟨by rw[dT (Or.inl d)];simpa using d,rfl⟩
  refine iI d (cBq (λe=>⟨by rw[dT (Or.inr (Or.inl e))];simpa using e,rfl⟩) λe=>⟨?_,rfl⟩)
  by_cases f:k=9
  .rw[dT (Or.inr (Or.inr f))];simpa using f
  rw[dF (by omega)];simpa using f
 by_cases g2:k=2
 .exact gM g2 ⟨by rw[dT (Or.inl g2)];simpa using g2,rfl⟩
 refine iI g2 (cBq (λc=>⟨by rw[dT (Or.inr (Or.inl c))];simpa using c,rfl⟩) λc=>⟨?_,rfl⟩)
 by_cases d:k=4
 .rw[dT (Or.inr (Or.inr d))];simpa using d
 rw[dF (by omega)];simpa using d
def NX(w:ah)(k:Int):CP 21 #[iv k] w (λr d=>r=.bool (gD k)/\d=w):=by
 refine oC.1.2.2.2.2.2.1 ?_
 by_cases g2:k=2
 .exact gM g2 ⟨by rw[gD,dT (Or.inl g2)],rfl⟩
 refine iI g2 ?_
 by_cases a:k=5
 .exact gM a ⟨by rw[gD,dT (Or.inr (Or.inl a))],rfl⟩
 refine iI a (cBq (λc=>⟨by rw[gD,dT (Or.inr (Or.inr (Or.inl c)))],rfl⟩) λc=>⟨?_,rfl⟩)
 by_cases b:k=7
 .rw[gD,dT (Or.inr (Or.inr (Or.inr b)))];simpa using b
 rw[gD,dF (by omega)];simpa using b
end Go.Proofs.YtmhhlijfepaphaaGreatDoor
namespace Go.Vc
open Go
section
variable {P:Program} {w0 w:World} {l:List bP}
def KO{t:TypeId}(d:P.underlying t=some .string)(s:St w0 w (Sep l))(b:ByteArray){R:Nat->World->Prop}(k:∀r a,St w0 a (Sep (iZ r (.stringIter b 0)::l))->R r a):
  kg P (Instr.range t (.string b)) w λe a=>∃r:Nat,e=.pointer (some ⟨r,0,none⟩)/\R r a:=by
 have c:(Instr.range t (.string b)).run P w=.ok (.pointer (some ⟨w.heap.size,0,none⟩)) (w.alloc (.stringIter b 0)):=by
  simp[Instr.range,cW d]
 exact⟨_,_,c,_,rfl,k _ _ (s.ZA _)⟩
def Ma{t:TypeId}{r pos:Nat}{b:ByteArray}(s:St w0 w (Sep l))(i:Nat)(e:l[i]?=some (iZ r (.stringIter b pos))){K:World->Prop}{F:Int->Int->World->Prop}(f:b.size<=pos->K w)(g:pos<b.size->∀a,St w0 a (Sep (l.set i (iZ r (.stringIter b (pos+(Utf8.decode b pos).2)))))->F pos ((Utf8.decode b pos).1:Int) a):
  kg P (Instr.next (.pointer (some ⟨r,0,none⟩)) true t) w λe a=>(e=.tuple #[.bool false]/\K a)\/∃n c:Int,e=.tuple #[.bool true,iv n,.int .i32 c]/\F n c a:=by
 have d:=s.xk i e
 by_cases c:pos<b.size
 .refine⟨_,_,?_,.inr ⟨_,_,rfl,g c _ (s.putAt i e _)⟩⟩;simp[Instr.next,d,c,getObj,setObj,Sem.run,goInt];rfl
 refine⟨_,w,?_,.inl ⟨rfl,f (by omega)⟩⟩;simp[Instr.next,d,c,getObj,Sem.run]
end
