import Derived.Maps.RangeRun
import Derived.KernelRfl
import Derived.Test.YtjcfdidmajodiaaGreatDoorH01
set_option linter.unusedVariables false
set_option linter.defProp false
set_option maxRecDepth 100000
namespace Go.Vc
open Go
def E7{P:Program}{w:World}{t ty e:TypeId}{z:Value}{sz by_:Nat}(d:j7 P t e z sz by_){a:OA}{n c c':Nat}(b:n<=c):(Builtin.append_ #[t,t] ty #[.slice a n c,.slice none 0 c']).run P w=.ok (.slice a n c) w:=by
 obtain⟨i,hi,h,g,f⟩:=d.i;simp[Builtin.append_,run_underlying d.u,sizeOf,typeInfo,hi,Builtin.lenOf,b,Builtin.firstCells]
 cases a<;>simp[storeCells]
abbrev dK {α:Type} (e:TypeId) (sz:Nat) (f:α->List Value) (a:OA) (c:Nat) (l:List α):aI:=o7 e sz (.slice a l.length c) l.length (l.flatMap f)
section
variable {α:Type} {e:TypeId} {sz:Nat} {f:α->List Value} {w0 w:World} {B:aI} {a:OA} {c:Nat} {l:List α}
def bn(b:∀ x,(f x).length=sz):js (dK e sz f a c l) λ w=>cP sz f w a l:=λ _ _ h=>PU b h.1
def St.rd(b:∀ x,(f x).length=sz)(h:St w0 w (star (dK e sz f a c l) B)):cP sz f w a l:=PU b h.rowOf
def St.lQ(h:St w0 w (star (dK e sz f a c l) B)):l.length<=c/\(a=none->c=0):=o8 h.rowOf
def St.iS(h:St w0 w (star (dK e sz f a c l) B))(b:0<l.length):∃ g,a=some ⟨g,0,none⟩:=let ⟨g,hg,_⟩:=EB h.rowOf b; ⟨g,hg⟩
def St.dy(h:St w0 w B):St w0 w (star (dK e sz f none 0 []) B):=h.O0 e sz |>.swap
theorem FG(b:∀ x,(f x).length=sz):∀ (l:List α) (i:Nat) (x:α),i<l.length->(l.set i x).flatMap f=(l.flatMap f).take (i*sz)++f x++(l.flatMap f).drop (i*sz+sz)
 | [],_,_,h=>absurd h (by simp)
 | y :: l,0,x,_=>by
  have a:(f y).length=sz:=b y;simp[j5,<- a]
 | y :: l,i+1,x,h=>by
  have d:=FG b l i x (by simpa using h);have a:(f y).length=sz:=b y;rw[List.set_cons_succ,j5,d,j5];have c:(i+1)*sz=(f y).length+i*sz:=by rw[a,gT]; omega
  rw[c,Np,Nat.add_assoc,List.drop_length_add_append]
  simp
def St.su(b:∀ x,(f x).length=sz){x:α}(h1:∀ v∈f x,v.oneCell'=true){g:Nat}(h:St w0 w (star (dK e sz f (some ⟨g,0,none⟩) c l) B)){i:Nat}(hi:i<l.length){R:World->Prop}(k:∀ w',St w0 w' (star (dK e sz f (some ⟨g,0,none⟩) c (l.set i x)) B)->R w'):uP (Addr.add ⟨g,0,none⟩ (i*sz)) 0 (f x) w R:=by
 obtain⟨F,⟨own,rfl⟩,use⟩:=h.use;rcases own.2 with⟨q,_⟩|⟨C,cap,cur,q,t,y,p,n,u,a⟩
 ·cases q
 ·cases q
  have A:=b x;have o:=gL b l;have hlen:(cur.toList.take (l.length*sz)).length=l.length*sz:=by rw[a,o]
  have r:l.length*sz<=cur.size:=by rw[di] at hlen; simp at hlen; omega
  have h4:i*sz+sz<=l.length*sz:=by
   have:=zG sz (show i+1<=l.length by omega);rw[gT] at this; omega
  rw[om];refine EL (f x) 0 w cur y (by omega) h1 λ w' d m _=>k w' (use w' _ ⟨[g],⟨⟨?_,.inr ⟨g,c,_,?_,t,d,?_,n,?_,?_⟩⟩,rfl⟩,m,λ j z=>.inl z⟩)
  ·rw[gL b,dN]
  ·rw[dN]
  ·rw[dN]; exact p
  ·simp only[HE,aY,di,gH,Dv]; omega
  ·rw[dN,FG b l i x hi,<- a];simp only[wL,mJ];rw[HF,HF,HG,HG,Nat.min_eq_right (by omega),wM (by omega),A,List.drop_take];have s:(List.take (i*sz) cur.toList).length=i*sz:=by rw[di]; simp; omega
   rw[s,fN (by omega:(f x).length<=l.length*sz-i*sz)]
   congr 3
   omega
def St.gu{v:α->Value}{x:α}(h1:(v x).oneCell'=true){g:Nat}(h:St w0 w (star (dK e 1 (λ x=>[v x]) (some ⟨g,0,none⟩) c l) B)){i:Nat}(hi:i<l.length){R:World->Prop}(k:∀ w',St w0 w' (star (dK e 1 (λ x=>[v x]) (some ⟨g,0,none⟩) c (l.set i x)) B)->R w'):fL w (Addr.add ⟨g,0,none⟩ (i*1)) (v x) R:=by
 have:=St.su (f:=λ x=>[v x]) (λ _=>rfl) (x:=x) (by simpa using h1) h hi (R:=R) k;have a:(Addr.add ⟨g,0,none⟩ (i*1)).add 0=Addr.add ⟨g,0,none⟩ (i*1):=by rw[Addr.add_add]; simp
 simpa only[uP,a] using this
end
section
variable {α:Type} {P:Program} {t ty e:TypeId} {z:Value} {sz by_:Nat} {f:α->List Value} {w0 w:World} {B:aI} {a:OA} {c:Nat} {l:List α}
def cP.cell(b:∀ x,(f x).length=sz)(h:cP sz f w a l):∀ (j:Nat) (u:Value),(l.flatMap f)[j]?=some u->∃ q,a=some q/\w.cell? (q.add j)=some u:=by
 suffices H:∀ (l:List α) (j:Nat) (u:Value),(l.flatMap f)[j]?=some u->∃ i r x,j=i*sz+r/\l[i]?=some x/\(f x)[r]?=some u by
  intro j u c;obtain⟨i,r,x,rfl,hi,e⟩:=H l j u c;obtain⟨q,d,hc⟩:=h.at hi;refine⟨q,d,?_⟩;have:=aM hc r u e;rw[aL,Addr.add_add] at this;exact this
 intro l
 induction l with
 | nil=>intro j u h; simp at h
 | cons x l g =>
  intro j u h;rw[j5] at h
  by_cases c:j<sz
  ·rw[lD (by rw[b]; exact c)] at h;exact⟨0,j,x,by omega,rfl,h⟩
  ·rw[kH (by rw[b]; omega),b] at h;obtain⟨i,r,y,k,h1,h2⟩:=g _ _ h;exact⟨i+1,r,y,by rw[gT]; omega,by simpa using h1,h2⟩
def bQ(g:j7 P t e z sz by_)(i:∀ x,(f x).length=sz)(h1:∀ x,∀ v∈f x,v.oneCell'=true)(h:St w0 w (star (dK e sz f a c l) B)){a2:OA}{c2:Nat}{l2:List α}(m:cP sz f w a2 l2)(n:(l.length+l2.length)*by_<=140737488355328)(hm:l.length+l2.length<=9223372036854775807){R:Option Addr->Nat->Nat->World->Prop}(k:∀ a' c' w',St w0 w' (star (dK e sz f a' c' (l++l2)) B)->R a' (l++l2).length c' w') :
  gi P (Builtin.append_ #[t,t] ty #[.slice a l.length c,.slice a2 l2.length c2]) w λ e s=>∃ a l c,e=.slice a l c/\R a l c s:=by
 have one:∀ u∈l2.flatMap f,u.oneCell'=true:=λ u hu=>by
  obtain⟨x,_,r⟩:=iO.1 hu;exact h1 x u r
 cases a2 with
 | some q =>
  refine HM g h (gL i l2) (λ j u o=>?_) one n hm λ v' w' b=>?_
  ·obtain⟨y,d,hc⟩:=m.cell i j u o
   cases d; exact hc
  ·obtain⟨a',c',rfl⟩:=tn b.rowOf;refine⟨a',_,c',rfl,?_⟩;have h3:St w0 w' (star (dK e sz f a' c' (l++l2)) B):=by
    show St w0 w' (star (o7 e sz (.slice a' (l++l2).length c') (l++l2).length ((l++l2).flatMap f)) B);rw[aY,uo]; exact b
   have:=k a' c' w' h3
   rwa [aY] at this
 | none =>
  have p:l2=[]:=by
   cases l2 with
   | nil=>rfl
   | cons x l2=>obtain⟨q,_,d,_⟩:=m 0 x rfl; cases d
  subst p;rw[eY];refine⟨_,w,E7 g (o8 h.rowOf).1,a,_,c,rfl,?_⟩;rw[zK] at k;exact k a c w h
def dw(g:j7 P t e z sz by_)(j:∀ x,(f x).length=sz){x:α}(h1:∀ v∈f x,v.oneCell'=true)(h:St w0 w (star (dK e sz f a c l) B))(i:(l.length+1)*by_<=140737488355328)(hm:l.length+1<=9223372036854775807){R:Option Addr->Nat->Nat->World->Prop}(k:∀ a' c' w',St w0 w' (star (dK e sz f a' c' (l++[x])) B)->R a' (l++[x]).length c' w'){cs:Array Value}(b:cs=(f x).toArray) :
  cR w (.cells cs e) λ r m=>gi P (Builtin.append_ #[t,t] ty #[.slice a l.length c,.slice (some ⟨r,0,none⟩) 1 1]) m λ e n=>∃ a l c,e=.slice a l c/\R a l c n:=by
 refine DA g h (j x) h1 i hm (λ a' c' w' d=>?_) b;have h3:St w0 w' (star (dK e sz f a' c' (l++[x])) B):=by
  show St w0 w' (star (o7 e sz (.slice a' (l++[x]).length c') (l++[x]).length ((l++[x]).flatMap f)) B);rw[aY,uo,HH]; exact d
 have:=k a' c' w' h3
 rwa [aY] at this
def vX{g:Nat}{cs:Array Value}(a:∀ x,(f x).length=sz)(b:w.heap[g]?=some (.cells cs e (0,0)))(hc:cs.toList=l.flatMap f)(hm:l.length<=maxLen) :
  w.ownsRow 0 e sz (.slice (some ⟨g,0,none⟩) l.length l.length) l.length (l.flatMap f):=by
 have c:cs.size=l.length*sz:=by rw[<- Dv,hc,gL a]
 refine⟨gL a l,.inr ⟨g,l.length,cs,rfl,jJ _,b,aO _,hm,c,?_⟩⟩;rw[hc];exact fN (by rw[gL a]; exact aO _)
def LZ{cs:Array Value}{x:α}(i:cs.toList=f x)(e:0<cs.size):∀ n,(madeCells cs (n*cs.size)).toList=(List.replicate n x).flatMap f:=by
 have get:∀ m j,j<m->(madeCells cs m)[j]?=cs[j%cs.size]?:=λ m j b=>by
  have:j%cs.size<cs.size:=Dt _ e;simp[madeCells,b,this]
 intro n;apply iC;intro j;rw[Dr];have a:∀ y:α,y=x->(f y).length=cs.size:=λ y l=>by rw[l,<- i]; simp
 by_cases b:j<n*cs.size
 ·rw[get _ _ b];have k:j / cs.size<n:=Nat.div_lt_of_lt_mul (by rw[Ds]; exact b);have d:((List.replicate n x).flatMap f)[j / cs.size*cs.size+j%cs.size]?=cs[j%cs.size]?:=by
   suffices H:∀ n q r,q<n->r<cs.size->((List.replicate n x).flatMap f)[q*cs.size+r]?=cs[r]? from H n _ _ k (Dt _ e)
   intro n
   induction n with
   | zero=>intro q r h; omega
   | succ n c =>
    intro q r h g;rw[HB,j5]
    cases q with
    | zero =>
     rw[wK,aL,lD (by rw[a x rfl]; exact g),<- i,Dr]
    | succ q =>
     rw[kH (by rw[a x rfl,gT]; omega),a x rfl];rw[show(q+1)*cs.size+r-cs.size=q*cs.size+r by rw[gT]; omega];exact c q r (by omega) g
  rw[Nat.div_add_mod' j cs.size] at d;rw[d]
 ·rw[Dp (by rw[size_madeCells]; omega),cr];have:∀ n,((List.replicate n x).flatMap f).length=n*cs.size:=λ n=>by
   induction n with
   | zero=>simp
   | succ n c=>rw[HB,j5,aY,c,a x rfl,gT]; omega
  rw[this]; omega
def cZ(b:j7 P t e z sz by_)(q:∀ x,(f x).length=sz){x:α}(v:z.cells.toList=f x)(h:St w0 w B){n:Nat}(A:by_*n<=281474976710656)(d:n<=9223372036854775807){R:Option Addr->Nat->Nat->World->Prop}(k:∀ g w',aC w w' []->St w0 w' (star (dK e sz f (some ⟨g,0,none⟩) n (List.replicate n x)) B)->R (some ⟨g,0,none⟩) n n w') :
  gi P (Instr.makeSlice t (iv n) (iv n)) w λ e y=>∃ a l c,e=.slice a l c/\R a l c y:=by
 obtain⟨i,hi,o,r,m⟩:=b.i;have j:(i.bytes:Int)*(n:Int)<=281474976710656:=by
  have h:((i.bytes*n:Nat):Int)<=281474976710656:=by rw[m]; omega
  rwa [Int.natCast_mul] at h
 have p:=run_make (P:=P) w t e i z b.u hi o .i64 .i64 (n:Int) (n:Int) (by omega) (cq _) j (by omega);rw[aD,r,<- b.zc] at p;refine⟨_,_,p,_,_,_,rfl,k _ _ (aC.new _ _ _) ?_⟩;have own:(w.alloc (.cells (madeCells z.cells (n*z.cells.size)) e)).ownsRow 0 e sz (.slice (some ⟨w.heap.size,0,none⟩) (List.replicate n x).length (List.replicate n x).length) (List.replicate n x).length ((List.replicate n x).flatMap f) :=
  vX q (by rw[iw,ak rfl]) (LZ v (by rw[b.zc]; exact b.pos) n) (by rw[j6]; unfold maxLen; exact d)
 have s:=h.add (aC.new w (.cells (madeCells z.cells (n*z.cells.size)) e) []) (B:=o7 e sz _ _ _) (G:=[w.heap.size]) ⟨own,rfl⟩ (by simp);have s2:=s.swap;rw[j6] at s2;unfold dK;rw[j6];exact s2
def AQ(w:World)(dT sT ty elem:TypeId)(g n a:Nat)(ad:Addr)(e:Nat)(cur:Array Value)(t:TypeId)(cs:List Value){sz:Nat}(hu:P.underlying dT=some (.slice elem))(f:(P.info? elem).map (·.size)=some sz)(h:w.heap[g]?=some (.cells cur t (0,0)))(l:cs.length=n*sz)(c:∀ j v,cs[j]?=some v->w.cell? (ad.add j)=some v)(b:cs.length<=cur.size)(h1:∀ v∈cs,v.oneCell'=true) :
  (Builtin.copy_ #[dT,sT] ty #[.slice (some ⟨g,0,none⟩) n a,.slice (some ad) n e]).run P w =
   .ok (goInt n) (w.setRow g (cs++cur.toList.drop cs.length).toArray):=by
 have k:=run_loadCells_list (P:=P) w ad cs c;have d:=run_storeCells_at P g 0 t cs 0 cur w h (by simpa using b) h1
 cases hq:P.info? elem with
 | none=>simp[hq] at f
 | some i =>
  have hi:i.size=sz:=by simpa[hq] using f
  rw[aL,zL,lC] at d;simp[Builtin.copy_,run_underlying hu,Builtin.lenOf,Builtin.firstCells,sizeOf,typeInfo,hq,hi,<- l,k,d]
def J3(A:j7 P t e z sz by_)(E:∀ x,(f x).length=sz)(h1:∀ x,∀ v∈f x,v.oneCell'=true){g n:Nat}(O:l.length=n)(h:St w0 w (star (dK e sz f (some ⟨g,0,none⟩) c l) B)){a2:OA}{c2:Nat}{l2:List α}(d:l2.length=n)(J:cP sz f w a2 l2){K:KP}(k:∀ v w',St w0 w' (star (dK e sz f (some ⟨g,0,none⟩) c l2) B)->K v w') :
  gi P (Builtin.copy_ #[t,t] ty #[.slice (some ⟨g,0,none⟩) n c,.slice a2 n c2]) w K:=by
 obtain⟨i,hi,S,R,N⟩:=A.i;have y:(P.info? e).map (·.size)=some sz:=by simp[hi,R]
 subst O;have one:∀ u∈l2.flatMap f,u.oneCell'=true:=λ u hu=>by
  obtain⟨x,_,I⟩:=iO.1 hu;exact h1 x u I
 have a:=gL E l2;have r:=gL E l;obtain⟨F,⟨own,rfl⟩,use⟩:=h.use;rcases own.2 with⟨H,_⟩|⟨T,cap,cur,H,M,s,G,C,D,o⟩
 ·cases H
 ·cases H
  have p:l.length*sz<=cur.size:=by
   have:=congrArg List.length o;rw[di,r] at this; simp at this; omega
  by_cases L:l.length=0
  ·obtain rfl:l=[]:=zH L;obtain rfl:l2=[]:=zH d
   cases a2 with
   | some ad =>
    have m:=AQ (P:=P) w t t ty e g 0 c ad c2 cur e [] A.u y s (by simp) (by simp) (by simp) (by simp);refine⟨_,_,m,k _ _ ?_⟩;have:w.setRow g ([]++cur.toList.drop ([]:List Value).length).toArray=w.setRow g cur:=by simp
    rw[this];refine h.quiet ⟨by simp[World.setRow],λ j _ _=>?_,⟨rfl,rfl,rfl⟩⟩
    by_cases b:j=g
    ·subst b; rw[setRow_heap w j cur _ e _ s,s]
    ·exact setRow_other w g j _ b
   | none =>
    refine⟨goInt 0,w,?_,k _ _ h⟩;simp[Builtin.copy_,run_underlying A.u,Builtin.lenOf,Builtin.firstCells,sizeOf,typeInfo,hi,storeCells]
  ·obtain⟨x,I⟩:∃ x,l2[0]?=some x:=by
    cases l2 with
    | nil=>simp at d; omega
    | cons x l2=>exact⟨x,rfl⟩
   obtain⟨ad,rfl,_⟩:=J.at I;have m:=AQ (P:=P) w t t ty e g l.length c ad c2 cur e (l2.flatMap f) A.u y s (by rw[a,d]) (λ j v b=>by obtain⟨q,Q,hc⟩:=J.cell E j v b; cases Q; exact hc) (by rw[a,d]; exact p) one;refine⟨_,_,m,k _ _ (use _ _ ⟨[g],⟨⟨a,.inr ⟨g,c,_,by rw[d],M,setRow_heap w g cur _ e _ s,by rw[d]; exact G,C,?_,?_⟩⟩,rfl⟩,⟨by simp[World.setRow],λ j _ b=>setRow_other w g j _ (by simp[Value.ownBlock] at b; exact b),⟨rfl,rfl,rfl⟩⟩,λ j b=>.inl (by simpa[Value.ownBlock] using b)⟩)⟩
   ·rw[<- D];simp only[HE,aY,gH,Dv,a,d];omega
   ·rw[List.take_append_of_le_length (by rw[a,d]; exact aO _)];exact fN (by rw[a,d]; exact aO _)
def Ly(y:j7 P t e z sz by_)(d:∀ x,(f x).length=sz){x:α}(h1:∀ v∈f x,v.oneCell'=true)(s:St w0 w B)(h:cP sz f w a l){r:Nat}(J:∀ j u,(f x)[j]?=some u->w.cell? ⟨r,j,none⟩=some u)(F:(l.length+1)*by_<=140737488355328)(hm:l.length+1<=9223372036854775807){R:Option Addr->Nat->Nat->World->Prop}(k:∀ a' c' w',St w0 w' (star (dK e sz f a' c' (l++[x])) B)->R a' (l++[x]).length c' w') :
  gi P (Builtin.append_ #[t,t] ty #[.slice a l.length l.length,.slice (some ⟨r,0,none⟩) 1 1]) w λ e M=>∃ a l c,e=.slice a l c/\R a l c M:=by
 cases a with
 | none =>
  have K:l=[]:=by
   cases l with
   | nil=>rfl
   | cons x l=>obtain⟨q,_,C,_⟩:=h 0 x rfl; cases C
  subst K;refine HM y (s.dy (e:=e) (sz:=sz) (f:=f)) (m:=1) (news:=f x) (by rw[d]; omega) (λ j u o=>by rw[om]; exact J j u o) h1 (by simpa using F) (by simp) λ v' w' E=>?_;obtain⟨a',c',rfl⟩:=tn E.rowOf;have h2:St w0 w' (star (dK e sz f a' c' ([]++[x])) B):=by
   show St w0 w' (star (o7 e sz (.slice a' 1 c') 1 ([x].flatMap f)) B);rw[HH]; simpa using E
  exact⟨a',_,c',rfl,k a' c' w' h2⟩
 | some q =>
  obtain⟨i,hi,L,I,A⟩:=y.i;have b:=gL d l;have H:=run_append_grow (P:=P) w t ty e i z y.u hi L q l.length l.length (l.flatMap f) (by rw[b,I]) (λ j u o=>by obtain⟨N,C,hc⟩:=h.cell d j u o; cases C; exact hc)
   ⟨r,0,none⟩ 1 1 (f x) (by rw[d,I]; omega) (λ j u o=>by rw[om]; exact J j u o) (by omega) (by omega) (growslice_fits (by omega) (by rw[A]; exact F))
  have n:=grownCap_ge w (l.length+1) l.length e;have g:grownCap w (l.length+1) l.length e<=maxLen:=grownCap_le_maxLen w (l.length+1) l.length e (by unfold maxLen; omega);generalize grownCap w (l.length+1) l.length e=cap at H n g;refine⟨_,_,H,_,_,_,rfl,?_⟩;have c0:aC w w.drew []:=aC.drew w [];have c1:aC w (w.drew.alloc (.cells ((l.flatMap f).toArray++(f x).toArray++Builtin.zeroCells z.cells (cap-(l.length+1))) e)) []:=c0.trans (aC.new _ _ []) (by simp);have own:(w.drew.alloc (.cells ((l.flatMap f).toArray++(f x).toArray++Builtin.zeroCells z.cells (cap-(l.length+1))) e)).ownsRow 0 e sz (.slice (some ⟨w.heap.size,0,none⟩) (l++[x]).length cap) (l++[x]).length ((l++[x]).flatMap f):=by
   have p:=d x;refine⟨gL d _,.inr ⟨w.heap.size,cap,_,by simp,jJ _,by rw[iw,ak (show w.heap.size=w.drew.heap.size from rfl)],by simpa using n,g,?_,?_⟩⟩
   ·have D:z.cells.size=sz:=y.zc;simp only[Array.size_append,HE,size_zeroCells,D,b,p];rw[show l.length*sz+sz=(l.length+1)*sz by rw[gT]; omega,<- gT]
    congr 1; omega
   ·rw[aY,bS,uo,HH];simp only[Array.toList_append,mJ];rw[<- mJ];have:(l.length+1)*sz=(l.flatMap f++f x).length:=by rw[aY,b,p,gT]; omega
    rw[this,List.take_left]
  have s2:=s.add c1 (B:=o7 e sz _ _ _) (G:=[w.heap.size]) ⟨own,rfl⟩ (by simp);have:=k _ _ _ s2.swap
  rwa [aY] at this
def rj(j:j7 P t e z sz by_)(g:∀ x,(f x).length=sz)(h1:∀ x,∀ v∈f x,v.oneCell'=true)(s:St w0 w B)(h:cP sz f w a l)(r:l.length*by_<=140737488355328)(hm:l.length<=9223372036854775807){K:KP}(k:∀ a' c' w',St w0 w' (star (dK e sz f a' c' l) B)->K (.slice a' l.length c') w') :
  cond (a).isNone (K (.slice none 0 0) w) (cR w (.cells #[] e) λ r1 b=>gi P (Builtin.append_ #[t,t] ty #[.slice (some ⟨r1,0,none⟩) 0 0,.slice a l.length c]) b λ i p=>∃ (a2:OA) (l2 c2:Nat),i=(.slice a2 l2 c2)/\K (.slice a2 l2 c2) p):=by
 cases a with
 | none =>
  have m:l=[]:=by
   cases l with
   | nil=>rfl
   | cons x l=>obtain⟨q,_,o,_⟩:=h 0 x rfl; cases o
  subst m;exact cT rfl (k none 0 w s.dy)
 | some q =>
  refine cF rfl (bg ?_);have s1:=s.box #[] e;have c1:=aC.new w (.cells #[] e) [];generalize w.alloc _=b at s1 c1 ⊢;generalize w.heap.size=r1 at s1 ⊢;have s2:St w0 b (star (dK e sz f (some ⟨r1,0,none⟩) 0 []) B):=s1.swap.weak (bz.left (by
   rintro w F ⟨h,rfl⟩;exact⟨[r1],⟨vX (f:=f) g h rfl (by simp),by simp[Value.ownBlock]⟩,by simp⟩))
  exact bQ (a2:=some q) (c2:=c) (l2:=l) j g h1 s2 (h.av c1) (by simp; omega) (by simp; omega) (R:=λ a' n c' w'=>K (.slice a' n c') w') (λ a' c' w' d=>by rw[lC] at d ⊢; exact k a' c' w' d)
def wU(d:j7 P t e z sz by_)(i:∀ x,(f x).length=sz)(h1:∀ x,∀ v∈f x,v.oneCell'=true){x0:α}(m:z.cells.toList=f x0)(s:St w0 w B)(h:cP sz f w a l)(q:by_*l.length<=140737488355328)(hm:l.length<=9223372036854775807){K:KP}(k:∀ g w',St w0 w' (star (dK e sz f (some ⟨g,0,none⟩) l.length l) B)->K (.slice (some ⟨g,0,none⟩) l.length l.length) w') :
  gi P (Instr.makeSlice t (iv l.length) (iv l.length)) w λ j p=>∃ (a2:OA) (l2 c2:Nat),j=(.slice a2 l2 c2) /\
   gi P (Builtin.copy_ #[t,t] ty #[.slice a2 l2 c2,.slice a l.length c]) p λ _ b=>K (.slice a2 l2 c2) b:=by
 exact cZ d i m s (n:=l.length) (by omega) hm λ g w' hc o=>J3 d i h1 (by simp) o rfl (h.av hc) λ _ b s2=>k g b s2
end
def K1(es:Array MapEntry)(ks:List Int):Prop:=es.toList.map (·.key)=ks.map iv/\∀ e∈es.toList,e.val=.bool true
def AX(r:Nat)(ks:List Int):aI:=W9 λ (x:{ p:Array MapEntry×Nat // K1 p.1 ks })=>dQ r (.map x.1.1 x.1.2)
theorem rB(k:Int):∀ (es:List MapEntry) (ks:List Int) (i:Nat),es.map (·.key)=ks.map iv->(∀ e∈es,e.val=.bool true) ->
  (k∈ks/\∃ j,Instr.findNow (.int .i64) (iv k) es i=some (some (j,.bool true)))\/(k∉ks/\Instr.findNow (.int .i64) (iv k) es i=some none)
 | [],[],_,_,_=>.inr ⟨by simp,rfl⟩
 | e :: es,x :: ks,i,h,d=>by
  simp only[jm,Dw] at h;have b:Instr.sameNow (.int .i64) (iv k) e.key=some (k==x):=by rw[h.1]; simp[Instr.sameNow]
  by_cases a:k=x
  ·subst a;refine .inl ⟨by simp,i,?_⟩;have:=d e (by simp);simp[Instr.findNow,b,this]
  ·have c:(k==x)=false:=by simpa using a
   rcases rB k es ks (i+1) h.2 (λ e he=>d e (by simp[he])) with⟨h1,j,h2⟩|⟨h1,h2⟩
   ·exact .inl ⟨by simp[h1],j,by simp[Instr.findNow,b,c,h2]⟩
   ·exact .inr ⟨by simp[h1,a],by simp[Instr.findNow,b,c,h2]⟩
 | [],_ :: _,_,h,_=>by simp at h
 | _ :: _,[],_,h,_=>by simp at h
structure YN (P:Program) (t k e:TypeId) (z:Value):Prop where
 u:P.underlying t=some (.map k e)
 z:(P.info? e).bind (·.zero)=some z
section
variable {P:Program} {t kt et:TypeId} {w0 w:World} {B:aI} {r:Nat} {ks:List Int}
def pZ(a:P.underlying kt=some (.int .i64))(b:Bool)(n:Nat)(k:Int)(w:World):(Instr.checkKey b (n+1) kt (iv k)).run P w=.ok () w:=by
 simp[Instr.checkKey,bu a]
def Aj(a:YN P t kt et (.bool false))(d:P.underlying kt=some (.int .i64))(s:St w0 w (star (AX r ks) B))(k:Int){R:Bool->World->Prop}(h:R (decide (k∈ks)) w) :
  gi P (Instr.lookup t (.map (some r)) (iv k) false) w λ e w'=>∃ b:Bool,e=.bool b/\R b w':=by
 obtain⟨⟨⟨es,cl⟩,h1,h2⟩,l⟩:=s.ex;have f:w.heap[r]?=some (.map es cl):=l.obj;have g:(zeroValue et).run P w=.ok (.bool false) w:=by
  have:=a.z
  cases hi:P.info? et with
  | none=>simp[hi] at this
  | some i=>simp[hi] at this; simp[zeroValue,typeInfo,hi,this]
 have hc:=pZ (P:=P) d es.isEmpty 9999 k w;rcases rB k es.toList ks 0 h1 h2 with⟨hm,j,c⟩|⟨hm,c⟩
 ·refine⟨.bool true,w,?_,true,rfl,by rwa [zC hm] at h⟩;simp[Instr.lookup,bu a.u,Instr.findKey,bu d,c,f,hc,getObj,Sem.run]
 ·refine⟨.bool false,w,?_,false,rfl,by rwa [zD hm] at h⟩;simp[Instr.lookup,bu a.u,Instr.findKey,bu d,c,f,hc,g,getObj,Sem.run]
def CD(d:YN P t kt et (.bool false))(b:P.underlying kt=some (.int .i64))(s:St w0 w (star (AX r ks) B))(k:Int)(i:k∉ks){R:World->Prop}(h:∀ w',aC w w' [r]->St w0 w' (star (AX r (ks++[k])) B)->R w'):gi P (Instr.mapUpdate t (.map (some r)) (iv k) (.bool true)) w λ _ w'=>R w':=by
 obtain⟨⟨⟨es,cl⟩,h1,h2⟩,c⟩:=s.ex;have j:w.heap[r]?=some (.map es cl):=c.obj;have hc:=pZ (P:=P) b false 9999 k w;rcases rB k es.toList ks 0 h1 h2 with⟨hm,_⟩|⟨hm,g⟩
 ·exact absurd hm i
 ·have m:=c.put (.map (es.push { key:=iv k,val:=.bool true,born:=cl }) (cl+1));have l:(Instr.mapUpdate t (.map (some r)) (iv k) (.bool true)).run P w=.ok () { w with heap:=w.heap.setIfInBounds r (.map (es.push { key:=iv k,val:=.bool true,born:=cl }) (cl+1)) }:=by
   simp[Instr.mapUpdate,bu d.u,Instr.findKey,bu b,g,j,hc,setObj,getObj,Sem.run]
  refine⟨_,_,l,h _ (aC.put w r _ (by simp)) (St.Al (f:=λ (x:{ p:Array MapEntry×Nat // K1 p.1 (ks++[k]) })=>dQ r (.map x.1.1 x.1.2)) ⟨(_,_),?_,?_⟩ m)⟩
  ·simp[h1]
  ·intro e he;have a:e∈es.toList++[{ key:=iv k,val:=.bool true,born:=cl }]:=by simpa using he
   rcases aV.1 a with he|he
   ·exact h2 e he
   ·rw[bp.1 he]
def Fs{ty:TypeId}(b:YN P t kt et (.bool false))(s:St w0 w (star (AX r ks) B)){R:World->Prop}(h:∀ w',aC w w' [r]->St w0 w' (star (AX r []) B)->R w') :
  gi P (Builtin.clear_ #[t] ty #[.map (some r)]) w λ _ w'=>R w':=by
 obtain⟨⟨⟨es,cl⟩,h1,h2⟩,a⟩:=s.ex;have c:w.heap[r]?=some (.map es cl):=a.obj;have e:=a.put (.map #[] cl);have d:(Builtin.clear_ #[t] ty #[.map (some r)]).run P w=.ok (.tuple #[]) { w with heap:=w.heap.setIfInBounds r (.map #[] cl) }:=by
  simp[Builtin.clear_,bu b.u,c,setObj,getObj,Sem.run]
 exact⟨_,_,d,h _ (aC.put w r _ (by simp)) (St.Al (f:=λ (x:{ p:Array MapEntry×Nat // K1 p.1 [] })=>dQ r (.map x.1.1 x.1.2)) ⟨(_,_),by simp,by simp⟩ e)⟩
def xh{a:TypeId}(s:St w0 w B){R:Option Nat->World->Prop}(h:∀ r w',aC w w' []->St w0 w' (star (dQ r (.map #[] 0)) B)->R (some r) w'):gi P (Instr.makeMap a none) w λ e w'=>∃ m:Option Nat,e=.map m/\R m w':=by
 refine⟨_,_,?_,_,rfl,h _ _ (aC.new w (.map #[] 0) []) (s.newObj (.map #[] 0)).swap⟩;simp[Instr.makeMap,newObj,Sem.run]
def St.YI(s:St w0 w (star (dQ r (.map #[] 0)) B)):St w0 w (star (AX r []) B) :=
 St.Al (f:=λ (x:{ p:Array MapEntry×Nat // K1 p.1 [] })=>dQ r (.map x.1.1 x.1.2)) ⟨(#[],0),by simp,by simp⟩ s
end
end Go.Vc
namespace Go.Vc
structure Lo where
 v:Nat->Int
 f:Nat->Int
 lr:Nat->Nat
 ch:Int
def oC{α:Type}(f:Nat->α)(i:Nat)(x:α):Nat->α:=λ j=>if j=i then x else f j
def eB{α:Type}(f:Nat->α)(i:Nat)(x:α):oC f i x i=x:=ak rfl
def iF{α:Type}(f:Nat->α){i j:Nat}(x:α)(h:j≠i):oC f i x j=f j:=ah h
def zh{α:Type}(f:Nat->α)(n i:Nat)(x:α):((List.range n).map f).set i x=(List.range n).map (oC f i x):=by
 refine iC λ j=>?_;rw[iW,dU,HC,dD,dD]
 by_cases h:i=j
 ·subst h;rw[ak rfl]
  by_cases a:i<n
  ·rw[ak a,uY a,nL,eB]
  ·rw[ah a,cr (by simpa using a),Option.map_none]
 ·rw[ah h]
  cases hj:(List.range n)[j]? with
  | none=>rfl
  | some k =>
   have:k=j:=by
    obtain⟨a,e⟩:=aR.1 hj;simpa using e.symm
   subst this;rw[nL,nL,iF _ _ (Dq h)]
def Xa:Lo:=⟨λ _=>0,λ _=>-1,λ _=>0,-1⟩
def Bm(g:Nat->Nat->Int)(r a b:Nat)(t:Lo):Lo:=if t.v a+g a b<t.v b then { v:=oC t.v b (t.v a+g a b),f:=oC t.f b a,lr:=oC t.lr b r,ch:=b } else t
def BD(g:Nat->Nat->Int)(r a:Nat):Nat->Lo->Lo
 | 0,t=>t
 | b+1,t=>Bm g r a b (BD g r a b t)
def EZ(g:Nat->Nat->Int)(n r:Nat):Nat->Lo->Lo
 | 0,t=>t
 | a+1,t=>BD g r a n (EZ g n r a t)
def LU(g:Nat->Nat->Int)(n r:Nat)(s:Lo):Lo:=EZ g n r n { s with ch:=-1 }
def OH(g:Nat->Nat->Int)(n:Nat):Nat->Nat->Lo->Lo
 | 0,_,s=>s
 | k+1,r,s=>if (LU g n (r+1) s).ch<0 then LU g n (r+1) s else OH g n k (r+1) (LU g n (r+1) s)
def nQ(g:Nat->Nat->Int)(n:Nat):Lo:=OH g n n 0 Xa
structure Jt (g:Nat->Nat->Int) (n:Nat) (G T:Int) (r a b:Nat) (s:Lo):Prop where
 lo:∀ x,x<n->-(G*(T+1))<=s.v x/\s.v x<=0
 la:a<n->-(G*T)<=s.v a
 lr:∀ x,x<n->s.lr x<=r
 f:∀ y,y<n->(s.f y=-1/\s.lr y=0)\/∃ p,p<n/\s.f y=(p:Int)/\1<=s.lr y/\s.lr y<=s.lr p+1
 ch:s.ch<0\/∃ c,c<n/\s.ch=(c:Int)/\s.lr c=r
 dn:∀ x,x<n->x<a->s.lr x<r->∀ y,y<n->s.v y<=s.v x+g x y
 nx:∀ x,x<n->a<=x->s.lr x+1<r->∀ y,y<n->s.v y<=s.v x+g x y
 cu:a<n->∀ y,y<b->s.v y<=s.v a+g a y
structure Lq (g:Nat->Nat->Int) (n:Nat) (G T:Int) (r a:Nat) (s:Lo):Prop where
 i:Jt g n G T r a 0 s
 b:∀ x,x<n->-(G*T)<=s.v x
section
variable {g:Nat->Nat->Int} {n:Nat} {G T:Int} {r a b:Nat} {s:Lo}
def Jt.Up(h:Jt g n G T r n 0 s)(c:∀ x,x<n->-(G*T)<=s.v x):Jt g n G T (r+1) 0 0 { s with ch:=-1 } :=
 ⟨h.lo,λ e=>c 0 e,λ x a=>iX (h.lr x a),h.f,.inl (show(-1:Int)<0 by decide),λ x _ a=>absurd a (sQ x),λ x a _ d y b=>h.dn x a a (Nat.lt_of_succ_lt_succ d) y b,λ _ y b=>absurd b (sQ y)⟩
def Jt.Bm(h:Jt g n G T r a b s)(g0:∀ a,g a a=0)(w:∀ a b,a<n->b<n->-G<=g a b/\g a b<=G)(A:1<=r)(ha:a<n)(t:b<n):Jt g n G T r a (b+1) (Bm g r a b s):=by
 unfold Vc.Bm
 split
 ·rename_i m;have q:a≠b:=λ e=>by subst e; rw[g0 a] at m; omega
  have B:r<=s.lr a+1:=by
   rcases bw (s.lr a+1) r with h1|h1
   ·have:=h.nx a ha (aO a) h1 b t;omega
   ·exact h1
  have o:∀ x,oC s.v b (s.v a+g a b) x<=s.v x:=λ x=>by
   by_cases e:x=b
   ·subst e; rw[eB]; omega
   ·rw[iF _ _ e]; exact cq _
  have u:oC s.v b (s.v a+g a b) a=s.v a:=iF _ _ q;refine⟨λ x d=>?_,λ _=>?_,λ x d=>?_,λ y l=>?_,.inr ⟨b,t,rfl,eB _ _ _⟩,λ x d k c y l=>?_,λ x d k c y l=>?_,λ _ y l=>?_⟩
  ·show -(G*(T+1))<=oC s.v b _ x/\oC s.v b _ x<=0;have z:=h.lo x d;have h1:=o x;refine⟨?_,by omega⟩
   by_cases e:x=b
   ·subst e;rw[eB];have h2:=h.la ha;have h3:=(w a x ha d).1;rw[C5,yG];omega
   ·rw[iF _ _ e]; exact z.1
  ·show -(G*T)<=oC s.v b _ a;rw[u]; exact h.la ha
  ·show oC s.lr b r x<=r
   by_cases e:x=b
   ·subst e; rw[eB]; exact aO _
   ·rw[iF _ _ e]; exact h.lr x d
  ·show(oC s.f b (a:Int) y=-1/\oC s.lr b r y=0)\/∃ p,p<n/\oC s.f b (a:Int) y=(p:Int)/\1<=oC s.lr b r y/\oC s.lr b r y<=oC s.lr b r p+1;have up:∀ p,p<n->s.lr p<=oC s.lr b r p:=λ p hp=>by
    by_cases e:p=b
    ·subst e; rw[eB]; exact h.lr p hp
    ·rw[iF _ _ e]; exact aO _
   by_cases e:y=b
   ·subst e;rw[eB,eB];exact .inr ⟨a,ha,rfl,A,by have:=up a ha; omega⟩
   ·rw[iF _ _ e,iF _ _ e];rcases h.f y l with h1|⟨p,hp,h1,h2,h3⟩
    ·exact .inl h1
    ·exact .inr ⟨p,hp,h1,h2,by have:=up p hp; omega⟩
  ·show oC s.v b _ y<=oC s.v b _ x+g x y;have c:oC s.lr b r x<r:=c;have e:x≠b:=λ e=>by subst e; rw[eB] at c; omega
   rw[iF _ _ e] at c;rw[iF (i:=b) (j:=x) _ _ e];have:=h.dn x d k c y l;have:=o y;omega
  ·show oC s.v b _ y<=oC s.v b _ x+g x y;have c:oC s.lr b r x+1<r:=c;have e:x≠b:=λ e=>by subst e; rw[eB] at c; omega
   rw[iF _ _ e] at c;rw[iF (i:=b) (j:=x) _ _ e];have:=h.nx x d k c y l;have:=o y;omega
  ·show oC s.v b _ y<=oC s.v b _ a+g a y;rw[u]
   by_cases e:y=b
   ·subst e; rw[eB]; exact cq _
   ·have:=h.cu ha y (by omega);have:=o y;omega
 ·rename_i m;exact⟨h.lo,h.la,h.lr,h.f,h.ch,h.dn,h.nx,λ _ y l=>by
   by_cases e:y=b
   ·subst e; omega
   ·exact h.cu ha y (by omega)⟩
theorem Jt.BD(h:Jt g n G T r a 0 s)(g0:∀ a,g a a=0)(c:∀ a b,a<n->b<n->-G<=g a b/\g a b<=G)(e:1<=r)(ha:a<n):∀ b,b<=n->Jt g n G T r a b (BD g r a b s)
 | 0,_=>h
 | b+1,d=>(Jt.BD h g0 c e ha b (Ju d)).Bm g0 c e ha d
def Jt.XX(h:Jt g n G T r a n s)(j:0<=G)(ha:a<n):Lq g n G (T+1) r (a+1) s:=by
 have e:G*(T+1+1)=G*(T+1)+G:=by rw[C5 G (T+1),yG]
 refine⟨⟨λ x b=>?_,λ b=>(h.lo (a+1) b).1,h.lr,h.f,h.ch,λ x b i d y c=>?_,λ x b i d y c=>h.nx x b (by omega) d y c,λ _ y c=>absurd c (sQ y)⟩,λ x b=>(h.lo x b).1⟩
 ·have:=h.lo x b;rw[e];omega
 ·by_cases e:x=a
  ·subst e; exact h.cu b y c
  ·exact h.dn x b (by omega) d y c
theorem Lq.EZ(h:Lq g n G T r 0 s)(d:0<=G)(g0:∀ a,g a a=0)(c:∀ a b,a<n->b<n->-G<=g a b/\g a b<=G)(e:1<=r):∀ a,a<=n->Lq g n G (T+(a:Int)) r a (EZ g n r a s)
 | 0,_=>by rw[show T+((0:Nat):Int)=T by omega]; exact h
 | a+1,ha=>by
  have f:=Lq.EZ h d g0 c e a (Ju ha);have:=(f.i.BD g0 c e ha n (aO n)).XX d ha;rw[show T+((a+1:Nat):Int)=T+(a:Int)+1 by omega];exact this
def Um(a:0<=G):Lq g n G 0 0 n Xa:=by
 refine⟨⟨λ x _=>?_,λ h=>absurd h (C6 n),λ _ _=>aO 0,λ _ _=>.inl ⟨rfl,rfl⟩,.inl (show(-1:Int)<0 by decide),λ _ _ _ h=>absurd h (C6 0),λ _ _ _ h=>absurd h (sQ _),λ h=>absurd h (C6 n)⟩,λ x _=>?_⟩
 ·show -(G*(0+1))<=0/\(0:Int)<=0;rw[Int.zero_add,yG]; omega
 ·show -(G*0)<=0;rw[Int.mul_zero]; omega
theorem Un(d:0<=G)(g0:∀ a,g a a=0)(c:∀ a b,a<n->b<n->-G<=g a b/\g a b<=G):∀ (k r:Nat) (T:Int) (s:Lo),r+k=n->Lq g n G T r n s->∃ f j,Lq g n G j f n (OH g n k r s)/\(0<=(OH g n k r s).ch->f=n)
 | 0,r,T,s,e,h=>⟨r,T,h,λ _=>e⟩
 | k+1,r,T,s,e,h=>by
  have h1:Lq g n G T (r+1) 0 { s with ch:=-1 }:=⟨h.i.Up h.b,h.b⟩;have h2:Lq g n G (T+(n:Int)) (r+1) n (LU g n (r+1) s):=h1.EZ d g0 c (by omega) n (aO n);unfold OH
  split
  ·rename_i hc;exact⟨r+1,_,h2,λ h=>absurd h (by omega)⟩
  ·exact Un d g0 c k (r+1) _ _ (by omega) h2
def LW(c:0<=G)(g0:∀ a,g a a=0)(d:∀ a b,a<n->b<n->-G<=g a b/\g a b<=G):∃ r T,Lq g n G T r n (nQ g n)/\(0<=(nQ g n).ch->r=n) :=
 Un c g0 d n 0 0 Xa (by omega) (Um c)
end
end Go.Vc
namespace Go.Vc
def Sy(x:Int):List Int->Int
 | []=>x
 | y :: l=>Sy (if y<x then y else x) l
theorem Iu:∀ {l:List Int} {x:Int},Sy x l<=x
 | [],x=>cq x
 | y :: l,x=>by
  have h:Sy x (y :: l)<=if y<x then y else x:=Iu (l:=l)
  refine cM h ?_
  split<;>omega
theorem Kp:∀ {l:List Int} {x y:Int},y∈l->Sy x l<=y
 | z :: l,x,y,h=>by
  rcases cJ.1 h with h|h
  ·subst h;have h:Sy x (y :: l)<=if y<x then y else x:=Iu (l:=l)
   refine cM h ?_
   split<;>omega
  ·exact Kp (x:=if z<x then z else x) h
theorem OQ:∀ {l:List Int} {x:Int},Sy x l=x\/Sy x l∈l
 | [],x=>.inl rfl
 | y :: l,x=>by
  unfold Sy;rcases OQ (l:=l) (x:=if y<x then y else x) with h|h
  ·rw[h]
   split
   ·exact .inr (lA ..)
   ·exact .inl rfl
  ·exact .inr (jH _ h)
theorem Gh:∀ (n:Nat) (l:List Nat),l.Nodup->(∀ x∈l,x<n)->l.length<=n
 | 0,l,_,h=>by
  cases l with
  | nil=>exact aO _
  | cons x l=>exact absurd (h x (lA ..)) (sQ x)
 | n+1,l,hd,h=>by
  have h1:=Gh n (l.erase n) (hd.erase n) λ x a=>by
   have h2:=List.mem_of_mem_erase a;have h3:=h x h2;have h4:x≠n:=λ e=>by subst e; exact(List.Nodup.not_mem_erase hd) a
   omega
  rw[List.length_erase] at h1
  split at h1<;>omega
section
variable (N:Nat) (g:Nat->Nat->List Int)
def dst:Nat->Nat->Int
 | 0,_=>0
 | k+1,b=>Sy (dst k b) ((List.range N).flatMap λ a=>(g a b).map λ x=>dst k a+x)
variable {N g}
def NY(k b:Nat):dst N g (k+1) b<=dst N g k b:=Iu
def Fx{k a b:Nat}{x:Int}(ha:a<N)(c:x∈g a b):dst N g (k+1) b<=dst N g k a+x :=
 Kp (iO.2 ⟨a,iH.2 ha,bL.2 ⟨x,c,rfl⟩⟩)
def DK(k b:Nat):dst N g (k+1) b=dst N g k b\/∃ a x,a<N/\x∈g a b/\dst N g (k+1) b=dst N g k a+x:=by
 rcases OQ (l:=(List.range N).flatMap λ a=>(g a b).map λ x=>dst N g k a+x) (x:=dst N g k b) with h|h
 ·exact .inl h
 ·obtain⟨a,ha,h2⟩:=iO.1 h;obtain⟨x,c,h3⟩:=bL.1 h2;exact .inr ⟨a,x,iH.1 ha,c,h3.symm⟩
theorem vA{b:Nat}:∀ {j k:Nat},j<=k->dst N g k b<=dst N g j b
 | j,0,h=>by
  obtain rfl:j=0:=by omega
  exact cq _
 | j,k+1,h=>by
  rcases bw j (k+1) with h1|h1
  ·exact cM (NY k b) (vA (by omega))
  ·obtain rfl:j=k+1:=by omega
   exact cq _
def nu(N:Nat)(g:Nat->Nat->List Int)(p:Nat->Int):Prop:=∀ a b,a<N->b<N->∀ x∈g a b,p b<=p a+x
def LH{p:Nat->Int}(hp:nu N g p):∀ (k b:Nat),b<N->dst N g (k+1) b<dst N g k b ->
  ∃ L:List Nat,L.length=k+1/\(b :: L).Nodup/\(∀ c∈L,c<N)/\∀ c∈L,∃ j,j<=k/\dst N g (k+1) b-dst N g j c>=p b-p c:=λ k=>by
 have fin:∀ {k b:Nat} {L:List Nat},dst N g (k+1) b<dst N g k b->(∀ c∈L,∃ j,j<=k/\dst N g (k+1) b-dst N g j c>=p b-p c)->b∉L:=λ {k b L} d hc i=>by
  obtain⟨j,n,h⟩:=hc b i;have:=vA (N:=N) (g:=g) (b:=b) n;omega
 induction k with
 | zero =>
  intro b i d;rcases DK (N:=N) (g:=g) 0 b with h|⟨a,x,ha,m,h⟩
  ·omega
  ·have hc:∀ c∈[a],∃ j,j<=0/\dst N g (0+1) b-dst N g j c>=p b-p c:=λ c hc=>by
    cases bp.1 hc
    have:=hp a b ha i x m;exact⟨0,aO _,by rw[h]; omega⟩
   refine⟨[a],rfl,uZ.2 ⟨fin d hc,by simp⟩,λ c hc=>?_,hc⟩
   cases bp.1 hc; exact ha
 | succ k s =>
  intro b i d;rcases DK (N:=N) (g:=g) (k+1) b with h|⟨a,x,ha,m,h⟩
  ·omega
  ·have h1:dst N g (k+1) a<dst N g k a:=by
    have h2:=Fx (N:=N) (k:=k) ha m;omega
   obtain⟨L,q,hd,o,hc⟩:=s a ha h1;have r:=hp a b ha i x m;have l:∀ c∈a :: L,∃ j,j<=k+1/\dst N g (k+1+1) b-dst N g j c>=p b-p c:=λ c f=>by
    rcases cJ.1 f with e|hm
    ·subst e;exact⟨k+1,aO _,by omega⟩
    ·obtain⟨j,n,h3⟩:=hc c hm;exact⟨j,by omega,by omega⟩
   refine⟨a :: L,by simp[q],uZ.2 ⟨fin d l,hd⟩,λ c f=>?_,l⟩;rcases cJ.1 f with e|hm
   ·subst e; exact ha
   ·exact o c hm
def NZ{p:Nat->Int}(hp:nu N g p){k b:Nat}(a:b<N)(f:N<=k+1):dst N g (k+1) b=dst N g k b:=by
 rcases yH (dst N g (k+1) b) (dst N g k b) with h|h
 ·obtain⟨L,i,hd,c,_⟩:=LH hp k b a h;have:=Gh N (b :: L) hd λ x d=>by
   rcases cJ.1 d with e|hm
   ·subst e; exact a
   ·exact c x hm
  simp only[gm] at this;omega
 ·have:=NY (N:=N) (g:=g) k b;omega
def Fy{p:Nat->Int}(hp:nu N g p){k:Nat}(d:N<=k+1):nu N g (dst N g k):=λ a b ha c x e=>by
 have h1:=Fx (N:=N) (k:=k) ha e;rw[NZ hp c d] at h1;exact h1
end
section
variable {g:Nat->Nat->Int} {n r a b:Nat} {s t:Lo}
abbrev g1 (g:Nat->Nat->Int):Nat->Nat->List Int:=λ a b=>[g a b]
def MD(h:(Bm g r a b t).ch<0):Bm g r a b t=t/\t.v b<=t.v a+g a b:=by
 unfold Bm at h ⊢
 split
 ·rename_i c;rw[ak c] at h;exact absurd h (by show ¬ ((b:Int)<0); omega)
 ·exact⟨rfl,by omega⟩
theorem Cm:∀ {m:Nat} {t:Lo},(BD g r a m t).ch<0->BD g r a m t=t/\∀ b,b<m->t.v b<=t.v a+g a b
 | 0,t,_=>⟨rfl,λ b e=>by omega⟩
 | m+1,t,h=>by
  obtain⟨h1,h2⟩:=MD (show(Bm g r a m (BD g r a m t)).ch<0 from h);have h3:(BD g r a m t).ch<0:=by rw[<- h1]; exact h
  obtain⟨h4,d⟩:=Cm h3;rw[h4] at h2;refine⟨h1.trans h4,λ b e=>?_⟩;rcases bw b m with c | c
  ·exact d b c
  ·obtain rfl:b=m:=by omega
   exact h2
theorem Cl:∀ {m:Nat} {t:Lo},(EZ g n r m t).ch<0->EZ g n r m t=t/\∀ a,a<m->∀ b,b<n->t.v b<=t.v a+g a b
 | 0,t,_=>⟨rfl,λ a ha=>by omega⟩
 | m+1,t,h=>by
  obtain⟨h1,h2⟩:=Cm (show(BD g r m n (EZ g n r m t)).ch<0 from h);have h3:(EZ g n r m t).ch<0:=by rw[<- h1]; exact h
  obtain⟨h4,d⟩:=Cl h3;rw[h4] at h2;refine⟨h1.trans h4,λ a ha=>?_⟩;rcases bw a m with c | c
  ·exact d a c
  ·obtain rfl:a=m:=by omega
   exact h2
def LV(h:(LU g n r s).ch<0):nu n (g1 g) (LU g n r s).v:=by
 obtain⟨h1,h2⟩:=Cl h;intro a b ha c x d
 cases bp.1 d
 have h1:LU g n r s={ s with ch:=-1 }:=h1;have e:(LU g n r s).v=s.v:=by rw[h1]
 rw[e];exact h2 a ha b c
theorem Co:∀ {k r:Nat} {s:Lo},0<k->(OH g n k r s).ch<0->∃ p,nu n (g1 g) p
 | k+1,r,s,_,h=>by
  unfold OH at h
  split at h
  ·rename_i hc; exact⟨_,LV hc⟩
  ·rename_i hc
   cases k with
   | zero=>exact absurd h hc
   | succ k=>exact Co (C7 k) h
def D6(h:(nQ g n).ch<0):∃ p,nu n (g1 g) p:=by
 rcases C8 n with c|c
 ·subst c; exact⟨λ _=>0,λ a b ha=>by omega⟩
 ·exact Co c h
structure QZ (g:Nat->Nat->Int) (n:Nat) (q:Nat->Int) (s t:Lo):Prop where
 le:∀ b,t.v b<=s.v b
 ge:(∀ b,b<n->q b<=s.v b)->∀ b,b<n->q b<=t.v b
def QZ.refl{q:Nat->Int}:QZ g n q s s:=⟨λ _=>cq _,λ h=>h⟩
def QZ.trans{q:Nat->Int}{u:Lo}(h1:QZ g n q s t)(h2:QZ g n q t u):QZ g n q s u:=⟨λ b=>cM (h2.le b) (h1.le b),λ h=>h2.ge (h1.ge h)⟩
def Wc{q:Nat->Int}(f:nu n (g1 g) q)(ha:a<n)(d:b<n):QZ g n q t (Bm g r a b t)/\(Bm g r a b t).v b<=t.v a+g a b:=by
 unfold Bm
 split
 ·rename_i i;refine⟨⟨λ c=>?_,λ h c hc=>?_⟩,?_⟩
  ·show oC t.v b _ c<=t.v c
   by_cases e:c=b
   ·subst e; rw[eB]; omega
   ·rw[iF _ _ e]; exact cq _
  ·show q c<=oC t.v b _ c
   by_cases e:c=b
   ·subst e; rw[eB];have h1:=f a c ha d _ (bp.2 rfl);have h2:=h a ha;omega
   ·rw[iF _ _ e]; exact h c hc
  ·show oC t.v b _ b<=_;rw[eB]; exact cq _
 ·exact⟨.refl,by omega⟩
theorem OG{q:Nat->Int}(d:nu n (g1 g) q)(ha:a<n):∀ {m:Nat},m<=n->QZ g n q t (BD g r a m t)/\∀ b,b<m->(BD g r a m t).v b<=t.v a+g a b
 | 0,_=>⟨.refl,λ b e=>by omega⟩
 | m+1,hm=>by
  obtain⟨h1,h2⟩:=OG d ha (m:=m) (by omega);obtain⟨h3,h4⟩:=Wc (t:=BD g r a m t) (r:=r) d ha (show m<n by omega);refine⟨h1.trans h3,λ b e=>?_⟩;show(Bm g r a m (BD g r a m t)).v b<=_;rcases bw b m with c | c
  ·exact cM (h3.le b) (h2 b c)
  ·obtain rfl:b=m:=by omega
   have:=h1.le a;omega
theorem OF{q:Nat->Int}(e:nu n (g1 g) q):∀ {m:Nat},m<=n->QZ g n q t (EZ g n r m t)/\∀ a,a<m->∀ b,b<n->(EZ g n r m t).v b<=t.v a+g a b
 | 0,_=>⟨.refl,λ a ha=>by omega⟩
 | m+1,hm=>by
  obtain⟨h1,h2⟩:=OF e (m:=m) (by omega);obtain⟨h3,h4⟩:=OG (t:=EZ g n r m t) (r:=r) e (show m<n by omega) (aO n);refine⟨h1.trans h3,λ a ha b d=>?_⟩;show(BD g r m n (EZ g n r m t)).v b<=_;rcases bw a m with c | c
  ·exact cM (h3.le b) (h2 a c b d)
  ·obtain rfl:a=m:=by omega
   have:=h4 b d;have:=h1.le a;omega
theorem F0(c:∀ b,b<n->t.v b<=t.v a+g a b):∀ {m:Nat},m<=n->BD g r a m t=t
 | 0,_=>rfl
 | m+1,hm=>by
  have e:=F0 c (m:=m) (by omega);show Bm g r a m (BD g r a m t)=t;rw[e,Bm,ah (by have:=c m (by omega); omega)]
theorem FZ(c:∀ a,a<n->∀ b,b<n->t.v b<=t.v a+g a b):∀ {m:Nat},m<=n->EZ g n r m t=t
 | 0,_=>rfl
 | m+1,hm=>by
  have e:=FZ c (m:=m) (by omega);show BD g r m n (EZ g n r m t)=t;rw[e]; exact F0 (c m (by omega)) (aO n)
theorem F4{p:Nat->Int}(hp:nu n (g1 g) p):∀ {k r:Nat} {s:Lo},0<k->k+r=n->(∀ b,b<n->s.v b<=dst n (g1 g) r b)->(∀ b,b<n->dst n (g1 g) (n-1) b<=s.v b)->(OH g n k r s).ch<0
 | k+1,r,s,_,m,h1,h2=>by
  have d:=Fy hp (k:=n-1) (by omega);obtain⟨h3,h4⟩:=OF (t:={ s with ch:=-1 }) (r:=r+1) d (aO n);unfold OH
  split
  ·assumption
  ·rename_i hc
   cases k with
   | zero =>
    exfalso; apply hc
    have e:∀ b,b<n->s.v b=dst n (g1 g) (n-1) b:=λ b c=>by
     have:=h1 b c; have:=h2 b c;have f:r=n-1:=by omega
     subst f; omega
    have:LU g n (r+1) s={ s with ch:=-1 }:=FZ (λ a ha b c=>by
     show s.v b<=s.v a+g a b;rw[e a ha,e b c];exact d a b ha c _ (bp.2 rfl)) (aO n)
    rw[this];show(-1:Int)<0
    decide
   | succ k =>
    refine F4 hp (C7 k) (by omega) (λ b c=>?_) (h3.ge h2);rcases DK (N:=n) (g:=g1 g) r b with h|⟨a,x,ha,l,h⟩
    ·rw[h]; exact cM (h3.le b) (h1 b c)
    ·cases bp.1 l
     rw[h];have i:=h4 a ha b c;have j:=h1 a ha;exact cM i (Int.add_le_add_right j _)
def D5{p:Nat->Int}(hp:nu n (g1 g) p):(nQ g n).ch<0:=by
 rcases C8 n with a|a
 ·subst a; show(-1:Int)<0; decide
 ·exact F4 hp a (by omega) (λ b c=>cq _) λ b c=>vA (j:=0) (by omega)
def F7:(nQ g n).ch<0<->∃ p,nu n (g1 g) p:=⟨D6,λ ⟨_,h⟩=>D5 h⟩
end
end Go.Vc
namespace Go.Vc
structure Qs where
 v:Nat->Int
 calm:Bool
section
variable (c:Nat->Nat->Int) (hit:Nat->Nat->Bool) (n N:Nat)
def qJ(x:Int)(h:Nat->Bool):Nat->Qs->Qs
 | 0,s=>s
 | m+1,s=>if h m=true/\(qJ x h m s).v m<x then ⟨oC (qJ x h m s).v m x,false⟩ else qJ x h m s
def qK(i:Nat):Nat->Qs->Qs
 | 0,s=>s
 | k+1,s=>qJ ((qK i k s).v k+c i k) (hit i) N (qK i k s)
def qI:Nat->Qs->Qs
 | 0,s=>s
 | i+1,s=>qK c hit N i N (qI i s)
def qR(s:Qs):Qs:=qI c hit N n { s with calm:=true }
def qF:Nat->Qs->Bool
 | 0,_=>false
 | f+1,s=>if (qR c hit n N s).calm=true then true else qF f (qR c hit n N s)
def XB:Bool:=qF c hit n N (N+1) ⟨λ _=>0,true⟩
def gQ:Nat->Nat->List Int:=λ a b=>((List.range n).filter λ i=>hit i b).map λ i=>-(c i a)
variable {c hit n N}
def Ih{i a b:Nat}(hi:i<n)(d:hit i b=true) : -(c i a)∈gQ c hit n a b:=bL.2 ⟨i,jI.2 ⟨iH.2 hi,d⟩,rfl⟩
def DZ{a b:Nat}{x:Int}(h:x∈gQ c hit n a b):∃ i,i<n/\hit i b=true/\x=-(c i a):=by
 obtain⟨i,hi,e⟩:=bL.1 h;obtain⟨h1,h2⟩:=jI.1 hi;exact⟨i,iH.1 h1,h2,e.symm⟩
theorem Pv(x:Int)(h:Nat->Bool)(s:Qs):∀ (m j:Nat),(qJ x h m s).v j=if j<m/\h j=true/\s.v j<x then x else s.v j
 | 0,j=>by rw[ah (by omega)]; rfl
 | m+1,j=>by
  have a:=Pv x h s m;unfold qJ
  by_cases hm:h m=true/\(qJ x h m s).v m<x
  ·rw[ak hm];show oC (qJ x h m s).v m x j=_
   by_cases e:j=m
   ·subst e;rw[eB];have h2:=hm.2;rw[a j,ah (by omega)] at h2;rw[ak ⟨by omega,hm.1,h2⟩]
   ·rw[iF _ _ e,a j]
    by_cases g:j<m/\h j=true/\s.v j<x
    ·rw[ak g,ak ⟨by omega,g.2⟩]
    ·rw[ah g,ah λ b=>g ⟨by omega,b.2⟩]
  ·rw[ah hm,a j]
   by_cases g:j<m/\h j=true/\s.v j<x
   ·rw[ak g,ak ⟨by omega,g.2⟩]
   ·rw[ah g,ah];rintro⟨h1,h2,h3⟩
    by_cases e:j=m
    ·subst e;apply hm;rw[a j,ah (by omega)];exact⟨h2,h3⟩
    ·exact g ⟨by omega,h2,h3⟩
theorem Gv{x:Int}{h:Nat->Bool}{s:Qs}:∀ {m:Nat},(qJ x h m s).calm=true->qJ x h m s=s/\∀ j,j<m->h j=true->x<=s.v j
 | 0,_=>⟨rfl,λ j c=>by omega⟩
 | m+1,hc=>by
  unfold qJ at hc ⊢
  by_cases hm:h m=true/\(qJ x h m s).v m<x
  ·rw[ak hm] at hc; cases hc
  ·rw[ah hm] at hc ⊢;obtain⟨h1,h2⟩:=Gv hc;refine⟨h1,λ j c b=>?_⟩;rcases bw j m with a | a
   ·exact h2 j a b
   ·obtain rfl:j=m:=by omega
    rw[h1] at hm;rcases yH (s.v j) x with h3|h3
    ·exact absurd ⟨b,h3⟩ hm
    ·exact h3
theorem KK{x:Int}{h:Nat->Bool}{s:Qs}:∀ {m:Nat},(∀ j,j<m->h j=true->x<=s.v j)->qJ x h m s=s
 | 0,_=>rfl
 | m+1,a=>by
  have e:=KK (m:=m) λ j b=>a j (by omega);unfold qJ;rw[e,ah];rintro⟨h1,h2⟩;have:=a m (by omega) h1;omega
theorem Gw{i:Nat}{s:Qs}:∀ {m:Nat},(qK c hit N i m s).calm=true->qK c hit N i m s=s/\∀ k,k<m->∀ j,j<N->hit i j=true->s.v k+c i k<=s.v j
 | 0,_=>⟨rfl,λ k d=>by omega⟩
 | m+1,hc=>by
  obtain⟨h1,h2⟩:=Gv (show(qJ _ _ N (qK c hit N i m s)).calm=true from hc);have h3:(qK c hit N i m s).calm=true:=by rw[<- h1]; exact hc
  obtain⟨h4,b⟩:=Gw h3;rw[h4] at h2;refine⟨h1.trans h4,λ k d=>?_⟩;rcases bw k m with a | a
  ·exact b k a
  ·obtain rfl:k=m:=by omega
   exact h2
theorem Gu{s:Qs}:∀ {m:Nat},(qI c hit N m s).calm=true->qI c hit N m s=s/\∀ i,i<m->∀ k,k<N->∀ j,j<N->hit i j=true->s.v k+c i k<=s.v j
 | 0,_=>⟨rfl,λ k d=>by omega⟩
 | m+1,hc=>by
  obtain⟨h1,h2⟩:=Gw (show(qK c hit N m N (qI c hit N m s)).calm=true from hc);have h3:(qI c hit N m s).calm=true:=by rw[<- h1]; exact hc
  obtain⟨h4,b⟩:=Gu h3;rw[h4] at h2;refine⟨h1.trans h4,λ k d=>?_⟩;rcases bw k m with a | a
  ·exact b k a
  ·obtain rfl:k=m:=by omega
   exact h2
theorem KI:∀ {f:Nat} {s:Qs},qF c hit n N f s=true->∃ p,nu N (gQ c hit n) p
 | f+1,s,h=>by
  unfold qF at h
  split at h
  ·rename_i hc;obtain⟨_,h2⟩:=Gu (show(qI c hit N n { s with calm:=true }).calm=true from hc);refine⟨λ j=>-(s.v j),λ a b ha d x g=>?_⟩;obtain⟨i,hi,e,rfl⟩:=DZ g;have:=h2 i hi a ha b d e;show -(s.v b)<=-(s.v a) + -(c i a);simp only[] at this;omega
  ·exact KI h
structure Rq (N:Nat) (q:Nat->Int) (s t:Qs):Prop where
 le:∀ j,s.v j<=t.v j
 up:(∀ j,j<N->s.v j<=-(q j))->∀ j,j<N->t.v j<=-(q j)
def Rq.refl{q:Nat->Int}{s:Qs}:Rq N q s s:=⟨λ _=>cq _,λ h=>h⟩
def Rq.trans{q:Nat->Int}{s t u:Qs}(h1:Rq N q s t)(h2:Rq N q t u):Rq N q s u:=⟨λ b=>cM (h1.le b) (h2.le b),λ h=>h2.up (h1.up h)⟩
def X8{q:Nat->Int}(f:nu N (gQ c hit n) q){i k:Nat}(hi:i<n)(b:k<N){t:Qs}:Rq N q t (qJ (t.v k+c i k) (hit i) N t)/\∀ j,j<N->hit i j=true->t.v k+c i k<=(qJ (t.v k+c i k) (hit i) N t).v j:=by
 refine⟨⟨λ j=>?_,λ h j a=>?_⟩,λ j a e=>?_⟩
 ·rw[Pv]; split<;>omega
 ·rw[Pv]
  split
  ·rename_i d;have h1:=f k j b a _ (Ih hi d.2.1);have h2:=h k b;omega
  ·exact h j a
 ·rw[Pv]
  by_cases g:t.v j<t.v k+c i k
  ·rw[ak ⟨a,e,g⟩]; exact cq _
  ·rw[ah λ h=>g h.2.2]; omega
theorem Uy{q:Nat->Int}(e:nu N (gQ c hit n) q){i:Nat}(hi:i<n){s:Qs}:∀ {m:Nat},m<=N->Rq N q s (qK c hit N i m s)/\∀ k,k<m->∀ j,j<N->hit i j=true->s.v k+c i k<=(qK c hit N i m s).v j
 | 0,_=>⟨.refl,λ k f=>by omega⟩
 | m+1,hm=>by
  obtain⟨h1,h2⟩:=Uy e hi (s:=s) (m:=m) (by omega);obtain⟨h3,h4⟩:=X8 e hi (show m<N by omega) (t:=qK c hit N i m s);refine⟨h1.trans h3,λ k f j d b=>?_⟩;show _<=(qJ _ _ N (qK c hit N i m s)).v j;rcases bw k m with a | a
  ·exact cM (h2 k a j d b) (h3.le j)
  ·obtain rfl:k=m:=by omega
   have:=h4 j d b;have:=h1.le k;omega
theorem Ux{q:Nat->Int}(f:nu N (gQ c hit n) q){s:Qs}:∀ {m:Nat},m<=n->Rq N q s (qI c hit N m s)/\∀ i,i<m->∀ k,k<N->∀ j,j<N->hit i j=true->s.v k+c i k<=(qI c hit N m s).v j
 | 0,_=>⟨.refl,λ k a=>by omega⟩
 | m+1,hm=>by
  obtain⟨h1,h2⟩:=Ux f (s:=s) (m:=m) (by omega);obtain⟨h3,h4⟩:=Uy f (show m<n by omega) (s:=qI c hit N m s) (aO N);refine⟨h1.trans h3,λ i hi k a j e d=>?_⟩;show _<=(qK c hit N m N (qI c hit N m s)).v j;rcases bw i m with b | b
  ·exact cM (h2 i b k a j e d) (h3.le j)
  ·obtain rfl:i=m:=by omega
   have:=h4 k a j e d;have:=h1.le k;omega
theorem KL{i:Nat}{s:Qs}(a:∀ k,k<N->∀ j,j<N->hit i j=true->s.v k+c i k<=s.v j):∀ {m:Nat},m<=N->qK c hit N i m s=s
 | 0,_=>rfl
 | m+1,hm=>by
  have e:=KL a (m:=m) (by omega);show qJ ((qK c hit N i m s).v m+c i m) (hit i) N (qK c hit N i m s)=s;rw[e]; exact KK (a m (by omega))
theorem KJ{s:Qs}(a:∀ i,i<n->∀ k,k<N->∀ j,j<N->hit i j=true->s.v k+c i k<=s.v j):∀ {m:Nat},m<=n->qI c hit N m s=s
 | 0,_=>rfl
 | m+1,hm=>by
  have e:=KJ a (m:=m) (by omega);show qK c hit N m N (qI c hit N m s)=s;rw[e]; exact KL (a m (by omega)) (aO N)
theorem KH{p:Nat->Int}(hp:nu N (gQ c hit n) p)(u:0<N):∀ {f r:Nat} {s:Qs},1<f->f+r=N+1->(∀ j,j<N->-(dst N (gQ c hit n) r j)<=s.v j)->(∀ j,j<N->s.v j<=-(dst N (gQ c hit n) (N-1) j))->qF c hit n N f s=true
 | f+1,r,s,A,y,h1,h2=>by
  have o:=Fy hp (k:=N-1) (by omega);obtain⟨h3,h4⟩:=Ux o (s:={ s with calm:=true }) (aO n);unfold qF
  by_cases hc:(qR c hit n N s).calm=true
  ·rw[ak hc]
  ·rw[ah hc]
   by_cases w:f=1
   ·exfalso; apply hc
    have e:∀ j,j<N->s.v j=-(dst N (gQ c hit n) (N-1) j):=λ j b=>by
     have l:=h1 j b; have t:=h2 j b;have q:r=N-1:=by omega
     subst q; omega
    have:qR c hit n N s={ s with calm:=true }:=KJ (λ i hi k m j b d=>by
     show s.v k+c i k<=s.v j;rw[e k m,e j b];have:=o k j m b _ (Ih hi d);omega) (aO n)
    rw[this]
   ·refine KH hp u (r:=r+1) (by omega) (by omega) (λ j b=>?_) (h3.up h2);rcases DK (N:=N) (g:=gQ c hit n) r j with h|⟨a,x,ha,z,h⟩
    ·rw[h]; exact cM (h1 j b) (h3.le j)
    ·obtain⟨i,hi,d,rfl⟩:=DZ z;rw[h];have l:=h4 i hi a ha j b d;have t:=h1 a ha;show _<=(qI c hit N n { s with calm:=true }).v j;refine cM ?_ l;show _<=s.v a+c i a;omega
def NO(a:0<N):XB c hit n N=true<->∃ p,nu N (gQ c hit n) p:=by
 refine⟨KI,λ ⟨p,hp⟩=>KH hp a (r:=0) (by omega) (by omega) (λ j _=>?_) λ j _=>?_⟩
 ·show -(0:Int)<=0; decide
 ·show(0:Int)<=_;have:=vA (N:=N) (g:=gQ c hit n) (b:=j) (jJ (N-1));have e:dst N (gQ c hit n) 0 j=0:=rfl;omega
end
end Go.Vc
namespace Go.Vc
open Go
def St.and{w0 w w':World}{A B:aI}(h:St w0 w A)(k:St w w' B):St w0 w' (star B A) :=
 let ⟨_,hB,hc,hG⟩:=k
 (h.add hc hB hG).swap
def cB{b:Bool}{A B:Prop}(h:A)(k:B):cond b A B:=by cases b; exact k; exact h
def St.open{w0 w:World}{B:aI}{l:List aI}(h:St w0 w (star (Sep l) B)):St w0 w (Sep (l++[B])):=St.cat (h.eqv (bX.right (bX.unit B)))
def St.shut{w0 w:World}{B:aI}{l:List aI}(h:St w0 w (Sep (l++[B]))):St w0 w (star (Sep l) B):=(h.split l).eqv (bX.right (bX.unit' B))
def js.nil:js (Sep []) λ _=>True:=λ _ _ _=>trivial
def js.cons{A:aI}{l:List aI}{Q R:World->Prop}(h:js A Q)(k:js (Sep l) R):js (Sep (A :: l)) λ w=>Q w/\R w:=h.star k
def St.aQ{w0 w:World}{l:List aI}{r:Nat}{cs:Array Value}{T:TypeId}(h:St w0 w (Sep l))(i j:Nat)(e:l[i]?=some (aj r cs T)){vs:List Value}(c:(cs.toList.drop j).take vs.length=vs):aA w ⟨r,j,none⟩ 0 vs :=
 bM _ 0 λ k v a=>by
  have b:k<vs.length:=(aR.1 a).1;have ha:(⟨r,j,none⟩:Addr).add (0+k)=⟨r,j+k,none⟩:=by unfold Addr.add; split<;>simp_all
  have h2:((cs.toList.drop j).take vs.length)[k]?=vs[k]?:=by rw[c]
  rw[gV,ak b,lW,a] at h2;rw[ha,h.ag i e]; simpa using h2
def St.jO{w0 w:World}{l:List aI}{x:Nat}{cs:Array Value}{T:TypeId}{R:World->Prop}(h:St w0 w (Sep l))(i j:Nat)(e:l[i]?=some (aj x cs T)){vs:List Value}(a:Array Value)(g:j+vs.length<=cs.size)(h1:∀ v∈vs,v.oneCell'=true)(hc:(cs.toList.take j++vs++cs.toList.drop (j+vs.length)).toArray=a)(k:∀ w',St w0 w' (Sep (l.set i (aj x a T)))->R w'):uP ⟨x,j,none⟩ 0 vs w R:=by
 obtain⟨F,⟨f,rfl⟩,use⟩:=(h.out i e).use;refine EL vs 0 w cs f (by omega) h1 λ w' c b _=>k w' ((use w' (aj x a T) ⟨[x],⟨?_,rfl⟩,b,λ j d=>.inl d⟩).back (gr e));rw[c,<- hc]; simp
def St.jx{w0 w:World}{l:List aI}{Q:World->Prop}(h:St w0 w (Sep l))(a:∀ w',Q w'):St w0 w (Sep (Vc.held Q :: l)) :=
 (h.add (aC.refl w []) (B:=Vc.held Q) (G:=[]) ⟨λ _ _ _ _=>a _,by simp⟩ (by simp)).swap
def St.qj{w0 w:World}{A:aI}{l:List aI}{Q:World->Prop}(h:St w0 w (Sep (A :: l)))(k:js A Q):St w0 w (Sep (Vc.held Q :: l)):=h.weak (bz.left k.weak)
def St.fX{w0 w:World}{A B:aI}{l:List aI}{Q R S:World->Prop}(h:St w0 w (Sep (A :: B :: l)))(a:js A Q)(b:js B R)(k:∀ w,Q w->R w->S w):St w0 w (Sep (Vc.held S :: l)) :=
 h.join.qj ((a.star b).mono λ w ⟨h1,h2⟩=>k w h1 h2)
def xJ{w:World}{a:Addr}{vs us:List Value}(h:aA w a 0 vs)(c:vs.take us.length=us):aA w a 0 us :=
 bM _ 0 λ k v b=>aM h k v (by
  have h2:(vs.take us.length)[k]?=us[k]?:=by rw[c]
  rwa [gV,ak (aR.1 b).1,b] at h2)
def St.Qr{w0 w:World}{A B:aI}{m:List aI}(h:St w0 w (Sep (A :: B :: m))):St w0 w (Sep [A,B,Sep m]):=h.eqv (bX.right (bX.right (bX.unit _)))
def St.iE{w0 w:World}{m:List aI}(l:List aI)(h:St w0 w (Sep (l++[Sep m]))):St w0 w (Sep (l++m)):=St.cat ((h.split l).eqv (bX.right (bX.unit' _)))
def mT{α:Type}(a b:List α)(k:Nat):List α:=a.take k++b.drop k
section
variable {α:Type} {a b:List α}
def Ak(h:a.length=b.length){k:Nat}(c:k<=a.length):(mT a b k).length=b.length:=by
 rw[mT,aY,di,gH]; omega
def vP(h:a.length=b.length){k:Nat}(c:k<=a.length)(i:Nat):(mT a b k)[i]?=if i<k then a[i]? else b[i]?:=by
 have e:(a.take k).length=k:=by rw[di]; omega
 split
 ·rename_i hi;rw[mT,lD (by omega),gV,ak hi]
 ·rename_i hi;rw[mT,kH (by omega),e,lW,show k+(i-k)=i by omega]
def Gc(h:a.length=b.length){k:Nat}{v:α}(d:a[k]?=some v):(mT a b k).set k v=mT a b (k+1):=by
 have f:k<a.length:=(aR.1 d).1;refine iC λ i=>?_;rw[vP h (by omega),iW,vP h (by omega),Ak h (by omega)]
 by_cases e:k=i
 ·subst e; rw[ak rfl,ak (by omega),ak (by omega),d]
 ·rw[ah e]
  by_cases c:i<k
  ·rw[ak c,ak (by omega)]
  ·rw[ah c,ah (by omega)]
def Cr(h:a.length=b.length){k:Nat}(f:k<a.length)(d:a[k]?=b[k]?):mT a b k=mT a b (k+1):=by
 refine iC λ i=>?_;rw[vP h (by omega),vP h (by omega)]
 by_cases e:k=i
 ·subst e; rw[ah (by omega),ak (by omega),d]
 ·by_cases c:i<k
  ·rw[ak c,ak (by omega)]
  ·rw[ah c,ah (by omega)]
def Ct:mT a b 0=b:=by simp[mT]
def Cq(h:a.length=b.length):mT a b b.length=a:=by
 rw[mT,<- h,br,h,pE,zK]
end
def UZ{a:OA}{n k:Nat}:(if n=0 then a else Option.map (λ x=>Addr.add x (0*k)) a)=a:=by
 cases a with
 | none=>simp
 | some q=>simp[Addr.add]
abbrev pS (u:I6):Value:=.agg u.vs.toArray
structure Xe (P:Program) (t kt et:TypeId):Prop where
 u:P.underlying t=some (.map kt et)
 k:∃ it,P.underlying kt=some (.array 6 it)
 z:(P.info? et).bind (·.zero)=some (iv 0)
 eq:∀ u v:I6,Ub P 12 kt (pS u) (pS v)=some (I6.beq u v)
 ck:∀ (b:Bool) (u:I6) (w:World),(Instr.checkKey b 10000 kt (pS u)).run P w=.ok () w
abbrev KV:=I6×Int
def kvs(es:List MapEntry):List (Value×Value):=es.map λ e=>(e.key,e.val)
def Im(l:List KV):List (Value×Value):=l.map λ p=>(pS p.1,iv p.2)
structure E2 (es:List MapEntry) (cl:Nat) (l:List KV):Prop where
 kv:kvs es=Im l
 nd:(es.map (·.born)).Nodup
 lt:∀ e∈es,e.born<cl
 ky:(l.map (·.1)).Nodup
def mapA(r:Nat)(l:List KV):aI:=W9 λ (x:{ p:Array MapEntry×Nat // E2 p.1.toList p.2 l })=>dQ r (.map x.1.1 x.1.2)
def nk(l:List KV)(u:I6):Option Int:=(l.find? λ p=>p.1==u).map (·.2)
section
variable {P:Program} {t kt et:TypeId} {w0 w:World} {B:aI} {r:Nat} {l:List KV}
theorem NB(eq:∀ u v:I6,Ub P 12 kt (pS u) (pS v)=some (I6.beq u v))(u:I6)(w:World):∀ (es:List MapEntry) (l:List KV) (i:Nat),kvs es=Im l ->
  (∃ v j,nk l u=some v/\(Instr.findAsking kt (pS u) es i).run P w=.ok (some (i+j,iv v)) w/\∃ e,es[j]?=some e/\e.key=pS u/\l[j]?=some (u,v)) \/
   (nk l u=none/\(Instr.findAsking kt (pS u) es i).run P w=.ok none w)
 | [],[],i,_=>.inr ⟨rfl,by simp[Instr.findAsking]⟩
 | e :: es,p :: l,i,h=>by
  simp only[kvs,Im,jm,Dw,C9] at h;obtain⟨⟨k,r⟩,q⟩:=h;have he:(Op.equal kt (pS u) e.key).run P w=.ok (I6.beq u p.1) w:=by rw[k]; exact DO 12 kt _ _ _ Op.maxDepth (eq u p.1) (by decide)
  have g:I6.beq u p.1=(p.1==u):=by
   rw[I6.beq_eq]
   by_cases h:u=p.1
   ·rw[zC h,h]; simp
   ·rw[zD h]; symm; simpa using λ n=>h n.symm
  by_cases hu:p.1=u
  ·have f:I6.beq u p.1=true:=by rw[g,hu]; simp
   rw[f] at he;refine .inl ⟨p.2,0,?_,?_,e,rfl,by rw[k,hu],?_⟩
   ·simp[nk,hu]
   ·rw[Instr.findAsking]; simp[he,r]
   ·obtain⟨a,b⟩:=p; simp only at hu ⊢; subst hu; rfl
  ·have d:I6.beq u p.1=false:=by rw[g]; simpa using hu
   rw[d] at he;have c:nk (p :: l) u=nk l u:=by
    unfold nk;rw[u7];have:(p.1==u)=false:=by simpa using hu
    rw[this]
   rcases NB eq u w es l (i+1) q with⟨v,j,h1,h2,m,h3,h4,o⟩|⟨h1,h2⟩
   ·refine .inl ⟨v,j+1,by rw[c,h1],?_,m,by simpa using h3,h4,by simpa using o⟩;rw[Instr.findAsking]; simp[he,h2]; omega
   ·exact .inr ⟨by rw[c,h1],by rw[Instr.findAsking]; simp[he,h2]⟩
 | [],_ :: _,_,h=>by simp[kvs,Im] at h
 | _ :: _,[],_,h=>by simp[kvs,Im] at h
def FE(a:Xe P t kt et)(u:I6)(w:World){es:List MapEntry}(h:kvs es=Im l) :
  (∃ v j,nk l u=some v/\(Instr.findKey kt (pS u) es).run P w=.ok (some (j,iv v)) w/\∃ e,es[j]?=some e/\e.key=pS u/\l[j]?=some (u,v))\/(nk l u=none/\(Instr.findKey kt (pS u) es).run P w=.ok none w):=by
 obtain⟨it,b⟩:=a.k;have c:(Instr.findKey kt (pS u) es).run P w=(Instr.findAsking kt (pS u) es).run P w:=by
  cases es with
  | nil=>simp[Instr.findKey,bu b,Instr.findNow,Instr.findAsking]
  | cons e es=>simp[Instr.findKey,bu b,Instr.findNow,Instr.sameNow]
 rw[c];rcases NB a.eq u w es l 0 h with⟨v,j,h1,h2,h3⟩|h1
 ·exact .inl ⟨v,j,h1,by rw[h2,aL],h3⟩
 ·exact .inr h1
def F6(a:Xe P t kt et)(s:St w0 w (star (mapA r l) B))(u:I6){R:Int->World->Prop}(h:R ((nk l u).getD 0) w) :
  gi P (Instr.lookup t (.map (some r)) (pS u) false) w λ e w'=>∃ n:Int,e=iv n/\R n w':=by
 obtain⟨⟨⟨es,cl⟩,b⟩,f⟩:=s.ex;have c:w.heap[r]?=some (.map es cl):=f.obj;have d:(zeroValue et).run P w=.ok (iv 0) w:=by
  have:=a.z
  cases hi:P.info? et with
  | none=>simp[hi] at this
  | some i=>simp[hi] at this; simp[zeroValue,typeInfo,hi,this]
 have hc:=a.ck es.isEmpty u w;rcases FE a u w b.kv with⟨v,j,h1,h2,_⟩|⟨h1,h2⟩
 ·refine⟨iv v,w,?_,v,rfl,by rwa [h1] at h⟩;simp[Instr.lookup,bu a.u,c,hc,h2,getObj,Sem.run]
 ·refine⟨iv 0,w,?_,0,rfl,by rwa [h1] at h⟩;simp[Instr.lookup,bu a.u,c,hc,h2,d,getObj,Sem.run]
def yA(l:List KV)(u:I6)(v:Int):List KV:=if (nk l u).isSome then l.map λ p=>if p.1=u then (u,v) else p else l++[(u,v)]
def Tv{l:List KV}(f:(l.map (·.1)).Nodup){u:I6}{v v0:Int}{j:Nat}(b:l[j]?=some (u,v0)):l.map (λ p=>if p.1=u then (u,v) else p)=l.set j (u,v):=by
 have a:=(aR.1 b).1;refine iC λ i=>?_;rw[dD,iW]
 by_cases e:j=i
 ·subst e; rw[ak rfl,ak a,b]; simp
 ·rw[ah e]
  cases hi:l[i]? with
  | none=>rfl
  | some p =>
   have d:=(aR.1 hi).1;have c:p.1≠u:=λ h=>by
    have h1:(l.map (·.1))[j]?=some u:=by rw[dD,b]; rfl
    have h2:(l.map (·.1))[i]?=some u:=by rw[dD,hi]; simp[h]
    exact e ((List.getElem?_inj (by simpa using a) f).1 (h1.trans h2.symm))
   simp[c]
def CX{l:List KV}{u:I6}(h:nk l u=none):∀ p∈l,p.1≠u:=λ p hp e=>by
 unfold nk at h;rw[Option.map_eq_none_iff,Jv] at h;exact h p hp (by simpa using e)
def QC{l:List KV}(a:(l.map (·.1)).Nodup){p:KV}(hp:p∈l):nk l p.1=some p.2:=by
 induction l with
 | nil=>cases hp
 | cons q l c =>
  simp only[jm,uZ] at a;unfold nk;rw[u7];rcases cJ.1 hp with rfl|h
  ·simp
  ·have b:q.1≠p.1:=λ e=>a.1 (by rw[e]; exact gP h);have:(q.1==p.1)=false:=by simpa using b
   rw[this];exact c a.2 h
def CY{l:List KV}{u:I6}{v:Int}(h:nk l u=some v):(u,v)∈l:=by
 unfold nk at h;rw[Jw] at h;obtain⟨p,h1,h2⟩:=h;have hm:=List.mem_of_find?_eq_some h1;have hu:=List.find?_some h1;obtain⟨a,b⟩:=p;simp only[bH] at hu;simp only at h2;subst hu h2; exact hm
def QD(l:List KV)(u x:I6)(v:Int):nk (yA l u v) x=if x=u then some v else nk l x:=by
 unfold yA
 cases hs:nk l u with
 | none =>
  have d:=CX hs;rw[ah (by simp)];unfold nk;rw[List.find?_append]
  by_cases b:x=u
  ·subst b;have:l.find? (λ p=>p.1==x)=none:=by rw[Jv]; intro p hp; simpa using d p hp
   rw[this]; simp
  ·rw[ah b];have:(u==x)=false:=by simpa using λ h=>b h.symm
   simp[this]
 | some v0 =>
  rw[ak (show(some v0).isSome=true from rfl)];have hm:=CY hs;clear hs;unfold nk
  by_cases b:x=u
  ·subst b;rw[ak rfl]
   induction l with
   | nil=>cases hm
   | cons q l c =>
    rw[jm,u7]
    by_cases a:q.1=x
    ·simp[a]
    ·have:(q.1==x)=false:=by simpa using a
     simp only[ah a,this];refine c ?_;rcases cJ.1 hm with rfl|h
     ·exact absurd rfl a
     ·exact h
  ·rw[ah b];clear hm
   induction l with
   | nil=>rfl
   | cons q l c =>
    rw[jm,u7,u7]
    by_cases a:q.1=u
    ·have h1:(u==x)=false:=by simpa using λ h=>b h.symm
     have h2:(q.1==x)=false:=by rw[a]; exact h1
     simp only[ak a,h1,h2]; exact c
    ·simp only[ah a]
     cases h:(q.1==x) with
     | true=>rfl
     | false=>exact c
def MI(u:I6):Instr.sameBits 10000 (pS u) (pS u)=true:=by
 rw[show(10000:Nat)=9998+1+1 from rfl];simp[Instr.sameBits,I6.vs]
def SV(m:Xe P t kt et)(s:St w0 w (star (mapA r l) B))(u:I6)(v:Int){R:World->Prop}(h:∀ w',St w0 w' (star (mapA r (yA l u v)) B)->R w') :
  gi P (Instr.mapUpdate t (.map (some r)) (pS u) (iv v)) w λ _ w'=>R w':=by
 obtain⟨⟨⟨es,cl⟩,c⟩,A⟩:=s.ex;have D:w.heap[r]?=some (.map es cl):=A.obj;have hc:=m.ck false u w;rcases FE m u w c.kv with⟨v0,j,h1,h2,g,h3,h4,o⟩|⟨h1,h2⟩
 ·have C:=(aR.1 h3).1;have q:es[j]?=some g:=by simpa using h3
  have z:=A.put (.map (es.modify j λ e=>{ e with key:=pS u,val:=iv v }) cl);have y:(Instr.mapUpdate t (.map (some r)) (pS u) (iv v)).run P w=.ok () { w with heap:=w.heap.setIfInBounds r (.map (es.modify j λ e=>{ e with key:=pS u,val:=iv v }) cl) }:=by
   simp[Instr.mapUpdate,bu m.u,D,hc,h2,q,h4,Instr.keyThatStays,MI,setObj,getObj,Sem.run]
  suffices H:E2 (es.modify j λ e=>{ e with key:=pS u,val:=iv v }).toList cl (yA l u v) from
   ⟨_,_,y,h _ (St.Al (f:=λ (x:{ p:Array MapEntry×Nat // E2 p.1.toList p.2 (yA l u v) })=>dQ r (.map x.1.1 x.1.2)) ⟨(_,_),H⟩ z)⟩
  have d:yA l u v=l.set j (u,v):=by rw[yA,ak (by rw[h1]; rfl),Tv c.ky o]
  have em:(es.modify j λ e=>{ e with key:=pS u,val:=iv v }).toList=es.toList.set j { g with key:=pS u,val:=iv v }:=by
   rw[Array.toList_modify];refine iC λ i=>?_;rw[List.getElem?_modify,iW]
   by_cases e:j=i
   ·subst e; rw[ak rfl,ak C,h3]; simp
   ·rw[ah e]; cases es.toList[i]? <;> simp[e]
  rw[em,d];have k:=c.kv;refine⟨?_,?_,?_,?_⟩
  ·unfold kvs Im at k ⊢;rw[lX,lX,k]
  ·rw[lX];have:(es.toList.map (·.born)).set j g.born=es.toList.map (·.born):=by
    refine iC λ i=>?_;rw[iW]
    split
    ·rename_i e; subst e; rw[dD,h3,ak (by rw[dU]; exact C)]; rfl
    ·rfl
   show((es.toList.map (·.born)).set j g.born).Nodup;rw[this]; exact c.nd
  ·intro e he;rcases lY he with he|rfl
   ·exact c.lt e he
   ·exact c.lt g (bf h3)
  ·rw[lX];have:(l.map (·.1)).set j u=l.map (·.1):=by
    refine iC λ i=>?_;rw[iW]
    split
    ·rename_i e; subst e;have:=(aR.1 o).1;rw[dD,o]; simp[this]
    ·rfl
   show((l.map (·.1)).set j u).Nodup;rw[this]; exact c.ky
 ·have z:=A.put (.map (es.push { key:=pS u,val:=iv v,born:=cl }) (cl+1));have y:(Instr.mapUpdate t (.map (some r)) (pS u) (iv v)).run P w=.ok () { w with heap:=w.heap.setIfInBounds r (.map (es.push { key:=pS u,val:=iv v,born:=cl }) (cl+1)) }:=by
   simp[Instr.mapUpdate,bu m.u,D,hc,h2,setObj,getObj,Sem.run]
  suffices H:E2 (es.push { key:=pS u,val:=iv v,born:=cl }).toList (cl+1) (yA l u v) from
   ⟨_,_,y,h _ (St.Al (f:=λ (x:{ p:Array MapEntry×Nat // E2 p.1.toList p.2 (yA l u v) })=>dQ r (.map x.1.1 x.1.2)) ⟨(_,_),H⟩ z)⟩
  have d:yA l u v=l++[(u,v)]:=by rw[yA,ah (by rw[h1]; decide)]
  rw[d];have et:(es.push { key:=pS u,val:=iv v,born:=cl }).toList=es.toList++[{ key:=pS u,val:=iv v,born:=cl }]:=by simp
  rw[et];refine⟨?_,?_,?_,?_⟩
  ·have:=c.kv; unfold kvs Im at this ⊢; rw[bP,bP,this]; rfl
  ·rw[bP,ve];refine⟨c.nd,by simp,λ a ha b n=>?_⟩;obtain⟨e,he,rfl⟩:=bL.1 ha;have:=c.lt e he;simp at n; omega
  ·intro e he;rcases aV.1 he with he|he
   ·have:=c.lt e he; omega
   ·rw[bp.1 he]; show cl<cl+1; omega
  ·rw[bP,ve];refine⟨c.ky,by simp,λ a ha b n=>?_⟩;obtain⟨p,hp,rfl⟩:=bL.1 ha;have:=CX h1 p hp;simp at n; subst n; exact this
end
theorem ug{α:Type}[BEq α][LawfulBEq α]:∀ {l m:List α},l.Nodup->(∀ x∈l,x∈m)->l.length<=m.length
 | [],_,_,_=>jJ _
 | x :: l,m,hd,h=>by
  rw[uZ] at hd;have a:=h x (by simp);have:=ug (l:=l) (m:=m.erase x) hd.2 λ y b=>by
   refine(List.mem_erase_of_ne ?_).2 (h y (by simp[b]));rintro rfl; exact hd.1 b
  rw[Jx a] at this;have:=List.length_pos_of_mem a;simp only[gm]; omega
def Sg{u v:I6}(h:pS u=pS v):u=v:=by
 cases u; cases v
 simp only[pS,I6.vs,Value.agg.injEq,Array.mk.injEq,Dw,Value.int.injEq,true_and,and_true] at h;obtain⟨rfl,rfl,rfl,rfl,rfl,rfl⟩:=h; rfl
theorem born_inj:∀ {es:List MapEntry},(es.map (·.born)).Nodup->∀ {a b:MapEntry},a∈es->b∈es->a.born=b.born->a=b
 | e :: es,f,a,b,ha,i,h=>by
  rw[jm,uZ] at f;rcases cJ.1 ha with ea|d
  ·rcases cJ.1 i with g|c
   ·rw[ea,g]
   ·exact absurd (by rw[<- ea,h]; exact gP c) f.1
  ·rcases cJ.1 i with g|c
   ·exact absurd (by rw[<- g,<- h]; exact gP d) f.1
   ·exact born_inj f.2 d c h
def OB{es:List MapEntry}{l:List KV}(h:kvs es=Im l):es.length=l.length:=by
 have:=congrArg List.length h;simpa[kvs,Im] using this
def Ui{es:List MapEntry}{l:List KV}(h:kvs es=Im l){e:MapEntry}(he:e∈es):∃ p∈l,e.key=pS p.1/\e.val=iv p.2:=by
 have h1:(e.key,e.val)∈kvs es:=gP (f:=λ e:MapEntry=>(e.key,e.val)) he;rw[h] at h1;obtain⟨p,hp,a⟩:=bL.1 h1;simp only[C9] at a;exact⟨p,hp,a.1.symm,a.2.symm⟩
def XR{es:List MapEntry}{l:List KV}(h:kvs es=Im l){p:KV}(hp:p∈l):∃ e∈es,e.key=pS p.1/\e.val=iv p.2:=by
 have h1:(pS p.1,iv p.2)∈Im l:=gP (f:=λ p:KV=>(pS p.1,iv p.2)) hp;rw[<- h] at h1;obtain⟨e,he,a⟩:=bL.1 h1;simp only[C9] at a;exact⟨e,he,a.1,a.2⟩
structure Xg (es:List MapEntry) (seen:List Nat) (S:List KV) (vis:List MapEntry):Prop where
 sn:seen=vis.map (·.born)
 nd:seen.Nodup
 sub:∀ e∈vis,e∈es
 kv:kvs vis=Im S
structure Y6 (l S:List KV) where
 es:Array MapEntry
 cl:Nat
 seen:Array Nat
 vis:List MapEntry
 ok:E2 es.toList cl l
 vk:Xg es.toList seen.toList S vis
def Ag(r it:Nat)(l S:List KV):aI:=W9 λ (x:Y6 l S)=>star (dQ it (.mapIter (some r) x.cl x.seen x.cl)) (dQ r (.map x.es x.cl))
section
variable {P:Program} {t kt et:TypeId} {w0 w:World} {B:aI} {r it:Nat} {l S:List KV}
def o6(c:Xe P t kt et)(s:St w0 w (star (mapA r l) B)){R:Nat->World->Prop}(k:∀ it w',St w0 w' (star (Ag r it l []) B)->R it w') :
  gi P (Instr.range t (.map (some r))) w λ e w'=>∃ it:Nat,e=.pointer (some ⟨it,0,none⟩)/\R it w':=by
 obtain⟨⟨⟨es,cl⟩,a⟩,b⟩:=s.ex;have d:w.heap[r]?=some (.map es cl):=b.obj;have g:(Instr.range t (.map (some r))).run P w=.ok (.pointer (some ⟨w.heap.size,0,none⟩)) (w.alloc (.mapIter (some r) cl #[] cl)):=by
  simp[Instr.range,bu c.u,d,getObj,Sem.run]
 refine⟨_,_,g,_,rfl,k _ _ ?_⟩;have s2:=(b.newObj (.mapIter (some r) cl #[] cl)).swap;exact St.Al (f:=λ (x:Y6 l [])=>star (dQ w.heap.size (.mapIter (some r) x.cl x.seen x.cl)) (dQ r (.map x.es x.cl))) ⟨es,cl,#[],[],a,⟨rfl,by simp,by simp,rfl⟩⟩ (s2.eqv bX.assoc')
def St.Ah(s:St w0 w (star (Ag r it l S) B)):St w0 w (star (mapA r l) B):=by
 obtain⟨x,a⟩:=s.ex;exact St.Al (f:=λ (x:{ p:Array MapEntry×Nat // E2 p.1.toList p.2 l })=>dQ r (.map x.1.1 x.1.2)) ⟨(x.es,x.cl),x.ok⟩ (a.assoc.second)
def rM{ty:TypeId}(s:St w0 w (star (Ag r it l S) B)){K:World->Prop}{F:I6->Int->World->Prop}(m:(∀ p∈l,p∈S)->K w)(h:∀ p∈l,S.length<l.length->∀ w',St w0 w' (star (Ag r it l (S++[p])) B)->F p.1 p.2 w') :
  gi P (Instr.next (.pointer (some ⟨it,0,none⟩)) false ty) w λ e w'=>(e=.tuple #[.bool false]/\K w')\/∃ v1 v2:Value,e=.tuple #[.bool true,v1,v2] /\
   gi P (Instr.entry (.pointer (some ⟨it,0,none⟩))) w' λ k L=>∃ (u:I6) (n:Int),k = .tuple #[pS u,iv n]/\F u n L:=by
 obtain⟨x,D⟩:=s.ex;have hi:w.heap[it]?=some (.mapIter (some r) x.cl x.seen x.cl):=D.assoc.obj;have hm:w.heap[r]?=some (.map x.es x.cl):=D.assoc.pY.obj;have i:=x.ok.kv;have j:=x.vk.kv;rcases run_next_at (P:=P) w ty it r x.cl x.cl x.seen x.es x.cl hi hm x.ok.lt (aO _) with⟨Q,A⟩|⟨e,he,E,J,A⟩
 ·refine⟨_,w,A,.inl ⟨rfl,m λ p hp=>?_⟩⟩;obtain⟨e,he,z,C⟩:=XR i hp;have M:e.born∈x.seen.toList:=by
   by_cases hc:e.born∈x.seen.toList
   ·exact hc
   ·have:e∈leftOf x.es x.seen:=by
     unfold leftOf;simp only[Array.mem_filter,Array.mem_toList_iff] at *;exact⟨he,by simpa using hc⟩
    rw[Array.eq_empty_of_size_eq_zero Q] at this;simp at this
  rw[x.vk.sn] at M;obtain⟨k,g,c⟩:=bL.1 M;have O:=born_inj x.ok.nd (x.vk.sub k g) he c;subst O;obtain⟨q,R,H,I⟩:=Ui j g;have h1:q.1=p.1:=Sg (H.symm.trans z);have h2:q.2=p.2:=by
   have:=I.symm.trans C
   injection this
  have:q=p:=vf h1 h2;rw[<- this]; exact R
 ·have d:e∈x.es.toList/\e.born∉x.seen.toList:=by
   unfold leftOf at he;simp only[Array.toList_filter,jI] at he;exact⟨he.1,by simpa using he.2⟩
  obtain⟨p,hp,z,C⟩:=Ui i d.1;have s1:St w0 E (star (star (dQ it (.mapIter (some r) x.cl x.seen x.cl)) (dQ r (.map x.es x.cl))) B):=by
   rcases J with rfl|rfl
   ·exact D
   ·exact D.quiet (aC.drew w [])
  have s2:St w0 (E.putObj it (.mapIter (some r) x.cl (x.seen.push e.born) x.cl)) (star (dQ it (.mapIter (some r) x.cl (x.seen.push e.born) x.cl)) (star (dQ r (.map x.es x.cl)) B)):=s1.assoc.put _;have N:ChangeMaps.setBlock E it (.mapIter (some r) x.cl (x.seen.push e.born) x.cl)=E.putObj it (.mapIter (some r) x.cl (x.seen.push e.born) x.cl):=rfl;rw[N] at A;refine⟨_,_,A,.inr ⟨_,_,rfl,?_⟩⟩;have G:=run_entry_at (P:=P) _ it r x.cl x.seen x.es x.cl e s2.obj s2.pY.obj d.1 x.ok.nd;have v:(x.seen.toList++[e.born]).Nodup:=by
   rw[ve];refine⟨x.vk.nd,by simp,λ a ha b c=>?_⟩;simp at c; subst c;rintro rfl; exact d.2 ha
  have hlen:S.length<l.length:=by
   have h1:=OB j;have h2:=OB i;have h3:(x.seen.toList++[e.born]).length<=(x.es.toList.map (·.born)).length:=ug v λ b c=>by
    rcases aV.1 c with c|c
    ·rw[x.vk.sn] at c;obtain⟨k,g,rfl⟩:=bL.1 c;exact gP (x.vk.sub k g)
    ·rw[bp.1 c]; exact gP d.1
   rw[aY,dU,x.vk.sn,dU,bS] at h3;omega
  refine⟨_,_,G,p.1,p.2,by rw[z,C],h p hp hlen _ ?_⟩;refine St.Al (f:=λ (x:Y6 l (S++[p]))=>star (dQ it (.mapIter (some r) x.cl x.seen x.cl)) (dQ r (.map x.es x.cl))) ⟨x.es,x.cl,x.seen.push e.born,x.vis++[e],x.ok,⟨?_,?_,?_,?_⟩⟩ (s2.eqv bX.assoc')
  ·have:=x.vk.sn; rw[bP,<- this]; simp
  ·simpa using v
  ·intro y t;rcases aV.1 t with t|t
   ·exact x.vk.sub y t
   ·rw[bp.1 t]; exact d.1
  ·have o:=j;unfold kvs Im at o ⊢;rw[bP,bP,o,cV,cV,z,C]
end
section
variable {P:Program} {w0 w:World} {l:List aI}
def GW{t:TypeId}(c:P.underlying t=some .string)(s:St w0 w (Sep l))(b:ByteArray){R:Nat->World->Prop}(k:∀ r w',St w0 w' (Sep (dQ r (.stringIter b 0) :: l))->R r w') :
  gi P (Instr.range t (.string b)) w λ e w'=>∃ r:Nat,e=.pointer (some ⟨r,0,none⟩)/\R r w':=by
 have a:(Instr.range t (.string b)).run P w=.ok (.pointer (some ⟨w.heap.size,0,none⟩)) (w.alloc (.stringIter b 0)):=by
  simp[Instr.range,bu c]
 exact⟨_,_,a,_,rfl,k _ _ (s.VO _)⟩
def Ix{t:TypeId}{r pos:Nat}{b:ByteArray}(s:St w0 w (Sep l))(i:Nat)(e:l[i]?=some (dQ r (.stringIter b pos))){K:World->Prop}{F:Int->Int->World->Prop}(d:b.size<=pos->K w)(h1:pos<b.size->∀ w',St w0 w' (Sep (l.set i (dQ r (.stringIter b (pos+(Utf8.decode b pos).2)))))->F pos ((Utf8.decode b pos).1:Int) w') :
  gi P (Instr.next (.pointer (some ⟨r,0,none⟩)) true t) w λ e w'=>(e=.tuple #[.bool false]/\K w')\/∃ n c:Int,e=.tuple #[.bool true,iv n,.int .i32 c]/\F n c w':=by
 have a:=s.rO i e
 by_cases hp:pos<b.size
 ·refine⟨_,_,?_,.inr ⟨_,_,rfl,h1 hp _ (s.putAt i e _)⟩⟩;simp[Instr.next,a,hp,getObj,setObj,Sem.run,goInt];rfl
 ·refine⟨_,w,?_,.inl ⟨rfl,d (by omega)⟩⟩;simp[Instr.next,a,hp,getObj,Sem.run]
end
