import Derived.Shelf.SlSortCmp.WholeK
import Derived.Shelf.SlSortCmp.NoneTotal
import Derived.Test.YtmffhopdpbikgaaGreatDoorE10
set_option linter.unusedVariables false
set_option maxRecDepth 100000
namespace Go.Proofs.YtmffhopdpbikgaaGreatDoor
open Go Go.Vc _root_.Go.Proofs.Tryz
def vF(a:OA)(b c:Nat)(d:OA)(e f:Nat)(g:OA)(h i:Nat)(j:OA)(k l:Nat)(w:World)(K:KP):=an w (.cells #[.slice a b c,.slice d e f,.slice g h i,.slice j k l] 75) λ a b=>∃ c d e f g h i j k l m n,af b (qd a 0) 0 [.slice c d e,.slice f g h,.slice i j k,.slice l m n]/\CC 62 #[.agg #[.slice c d e,.slice f g h,.slice i j k,.slice l m n]] b λ b c=>∃ d,b=.returned (iv d)/\cond (d !=0) (K (.tuple #[.pointer none,iv d]) c) (∃ b d e f g h i j k l m n,af c (qd a 0) 0 [.slice b d e,.slice f g h,.slice i j k,.slice l m n]/\CC 63 #[.agg #[.slice b d e,.slice f g h,.slice i j k,.slice l m n]] c λ b c=>∃ d e f g h i j k l m n o,b=.returned (.agg #[.slice d e f,.slice g h i,.slice j k l,.slice m n o])/\an c (.cells #[.slice d e f,.slice g h i,.slice j k l,.slice m n o,qn] 117) λ b c=>∃ d e f,c.cell? (qd a 1)=some (.slice d e f)/\∃ a:Int->qN,(∃ d,a 0 c d)/\∀ c d f,a f c d->∀ g:qv,cond (decide (f<(e:Int))) (∃ e g h,c.cell? (qd b 4)=some (.slice e g h)/\aP prog (Instr.makeMap 118 none) c λ i j=>∃ k:Option Nat,i=(.map k)/\an j (.cells #[.map k] 118) λ i j=>aP prog (Builtin.append_ #[115,115] 115 #[.slice e g h,.slice (some (qd i 0)) 1 1]) j λ e g=>∃ h i j,e=(.slice h i j)/\aM g (qd b 4) (.slice h i j) λ e=>∃ g,g<d/\a (IntKind.i64.wrap (f+1)) e g) (K (.tuple #[qp b,qz]) c))
theorem xT{a1 l1 c1 a2 l2 c2 a3 l3 c3 a4 l4 c4 w K}(h:vF a1 l1 c1 a2 l2 c2 a3 l3 c3 a4 l4 c4 w K):CP 33 #[.agg #[.slice a1 l1 c1,.slice a2 l2 c2,.slice a3 l3 c3,.slice a4 l4 c4]] w K:=ah (az [(122,[(18,.s (.int .i64))])]) func33 (by kernel_rfl) (by kernel_rfl) h
def qH(a:OA)(b c:Nat)(d:OA)(e f:Nat)(g:OA)(h i:Nat)(j:OA)(k l:Nat)(w:World)(K:KP):=an w (.cells #[.slice a b c,.slice d e f,.slice g h i,.slice j k l] 75) λ a b=>an b (.cells #[qn,qn,qn,qn] 75) λ b c=>∃ d e f,c.drew.cell? (qd a 0)=some (.slice d e f)/\∃ g h i,c.drew.cell? (qd a 1)=some (.slice g h i)/\∃ j k l,c.drew.cell? (qd a 2)=some (.slice j k l)/\∃ m n o,c.drew.cell? (qd a 3)=some (.slice m n o)/\CC 82 #[.slice d e f] c.drew λ c d=>∃ e f p,c=.returned (.slice e f p)/\d.cell? (qd a 3)=some (.slice m n o)/\d.cell? (qd a 2)=some (.slice j k l)/\d.cell? (qd a 1)=some (.slice g h i)/\CC 83 #[.slice g h i] d λ c d=>∃ g h i,c=.returned (.slice g h i)/\d.cell? (qd a 3)=some (.slice m n o)/\d.cell? (qd a 2)=some (.slice j k l)/\CC 84 #[.slice j k l] d λ c d=>∃ j k l,c=.returned (.slice j k l)/\d.cell? (qd a 3)=some (.slice m n o)/\CC 85 #[.slice m n o] d λ a c=>∃ d m n,a=.returned (.slice d m n)/\aK (qd b 0) 0 [.slice e f p,.slice g h i,.slice j k l,.slice d m n] c λ a=>∃ c d e f g h i j k l m n,af a (qd b 0) 0 [.slice c d e,.slice f g h,.slice i j k,.slice l m n]/\K (.agg #[.slice c d e,.slice f g h,.slice i j k,.slice l m n]) a
theorem uy{a1 l1 c1 a2 l2 c2 a3 l3 c3 a4 l4 c4 w K}(h:qH a1 l1 c1 a2 l2 c2 a3 l3 c3 a4 l4 c4 w K):CP 63 #[.agg #[.slice a1 l1 c1,.slice a2 l2 c2,.slice a3 l3 c3,.slice a4 l4 c4]] w K:=ah (az []) func63 (by kernel_rfl) (by kernel_rfl) h
def kr(a:Nat)(b:Int)(w:World)(K:KP):=cond (decide (b>=0)) (∃ c d e,w.cell? (qd a 4)=some (.slice c d e)/\K (.bool (decide (b<(d:Int)))) w) (K (.bool false) w)
theorem qe{b1 n1 w K}(h:kr b1 n1 w K):CP 74 #[.pointer (some ⟨b1,0,none⟩),iv n1] w K:=ah (az []) func74 (by kernel_rfl) (by kernel_rfl) h
def kq(a:Nat)(b:Int)(c:I6)(d:Int)(w:World)(K:KP):=an w (.cells c.vs.toArray 34) λ c e=>CC 74 #[qp a,iv b] e λ e f=>∃ g,e=.returned (.bool g)/\cond (!g) (K (iv 6) f) (∃ e:Bool->qW,(∀ g h,e h g->∀ i:qv,cond h (K (iv 4) g) (∃ h i j k l m n o p q r s,af g.drew (qd a 0) 0 [.slice h i j,.slice k l m,.slice n o p,.slice q r s]/\∃ t:I6,af g.drew (qd c 0) 0 t.vs/\CC 75 #[.agg #[.slice h i j,.slice k l m,.slice n o p,.slice q r s],iv b,.agg t.vs.toArray] g.drew λ g h=>∃ i,g=.returned (iv i)/\cond (i !=0) (K (iv i) h) (∃ g i j,h.drew.cell? (qd a 4)=some (.slice g i j)/\aq g λ g=>0<=b/\b<(i:Int)/\∃ i:Option Nat,h.drew.cell? (Addr.add g ((b).toNat*1))=some (.map i)/\∃ g:I6,af h.drew (qd c 0) 0 g.vs/\aP prog (Instr.lookup 118 (.map i) (.agg g.vs.toArray) true) h.drew λ g h=>∃ i,∃ j,g=(.tuple #[iv i,.bool j])/\∃ g k l,h.cell? (qd a 1)=some (.slice g k l)/\aq g λ g=>0<=b/\b<(k:Int)/\∃ k,h.cell? (Addr.add (Addr.add g ((b).toNat*4)) 2)=some (iv k)/\∃ g:I6,af h (qd c 0) 0 g.vs/\cond (I6.beq g z6) (K (iv 4) h) (∃ g:Bool->qW,(∀ l m,g m l->∀ n:qv,cond m (K (iv 17) l) (∃ m:Bool->qW,(∀ n o,m o n->∀ p:qv,cond o (K (iv 3) n) (∃ o p q,n.drew.cell? (qd a 4)=some (.slice o p q)/\aq o λ o=>0<=b/\b<(p:Int)/\∃ p:Option Nat,n.drew.cell? (Addr.add o ((b).toNat*1))=some (.map p)/\∃ o:I6,af n.drew (qd c 0) 0 o.vs/\aP prog (Instr.mapUpdate 118 (.map p) (.agg o.vs.toArray) (iv (if d>i then d else i))) n.drew λ _e1 c=>K qz c))/\cond (!j) (∃ c i j,l.cell? (qd a 4)=some (.slice c i j)/\aq c λ a=>0<=b/\b<(i:Int)/\∃ c:Option Nat,l.cell? (Addr.add a ((b).toNat*1))=some (.map c)/\aP prog (Builtin.len_ #[118] 3 #[.map c]) l λ a b=>∃ c,a=(iv c)/\m (decide (c>=40)) b) (m false l)))/\cond (k !=0) (g (decide (k<d)) h) (g false h)))))/\cond (decide (d<1)) (e true f) (e (decide (d>1000000)) f))
theorem qc{b1 n1 u1 n2 w K}(h:kq b1 n1 u1 n2 w K):CP 38 #[.pointer (some ⟨b1,0,none⟩),iv n1,.agg u1.vs.toArray,iv n2] w K:=ah (az [(14,[(22,.s .bool)]),(2027,[(58,.s .bool)]),(8111,[(66,.s .bool)])]) func38 (by kernel_rfl) (by kernel_rfl) h
def kn(a:Nat)(w:World)(K:KP):=∃ b c d,w.cell? (qd a 4)=some (.slice b c d)/\∃ b:OA->Nat->Nat->Int->qN,(∃ d,b none 0 0 0 w d)/\∀ e d f g h i,b f g h i e d->∀ j:qv,cond (decide (i<(c:Int))) (CC 76 #[qp a,iv i] e λ a c=>∃ j k l,a=.returned (.slice j k l)/\aP prog (Builtin.append_ #[41,41] 41 #[.slice f g h,.slice j k l]) c λ a c=>∃ j k l,a=(.slice j k l)/\∃ a,a<d/\b j k l (IntKind.i64.wrap (i+1)) c a) (K (.slice f g h) e)
theorem p9{b1 w K}(h:kn b1 w K):CP 39 #[.pointer (some ⟨b1,0,none⟩)] w K:=ah (az [(122,[(3,.s .slice),(12,.s (.int .i64))])]) func39 (by kernel_rfl) (by kernel_rfl) h
def gH(a:Nat)(b:Int)(w:World)(K:KP):=CC 74 #[qp a,iv b] w λ c d=>∃ e,c=.returned (.bool e)/\cond (!e) (K qn d) (∃ c e f,d.cell? (qd a 4)=some (.slice c e f)/\aq c λ a=>0<=b/\b<(e:Int)/\∃ c:Option Nat,d.cell? (Addr.add a ((b).toNat*1))=some (.map c)/\aP prog (Instr.range 118 (.map c)) d λ a c=>∃ d,a=(qp d)/\∃ a:OA->Nat->Nat->qN,(∃ e,a none 0 0 c e)/\∀ c e f g h,a f g h c e->∀ i:qv,aP prog (Instr.next (qp d) false 0) c λ c i=>(c=(.tuple #[.bool false])/\CC 68 #[.slice f g h,.func (.func 112) #[] #[]] i λ j k=>j=.returned (.tuple #[])/\K (.slice f g h) k)\/∃ j:Value,∃ k:Value,c=(.tuple #[.bool true,j,k])/\aP prog (Instr.entry (qp d)) i λ c d=>∃ i:I6,∃ j,c=(.tuple #[.agg i.vs.toArray,iv j])/\an d (.cells z6.vs.toArray 34) λ c d=>aK (qd c 0) 0 i.vs d λ d=>∃ i:I6,af d (qd c 0) 0 i.vs/\an d (.cells (iv b :: i.on [iv j]:List Value).toArray 44) λ b c=>aP prog (Builtin.append_ #[41,41] 41 #[.slice f g h,.slice (some (qd b 0)) 1 1]) c λ b c=>∃ d f g,b=(.slice d f g)/\∃ b,b<e/\a d f g c b)
theorem lQ{b1 n1 w K}(h:gH b1 n1 w K):CP 76 #[.pointer (some ⟨b1,0,none⟩),iv n1] w K:=ah (az [(122,[(5,.s .slice)])]) func76 (by kernel_rfl) (by kernel_rfl) h
def ff(a:Int)(b:I6)(c d:Int)(e:I6)(f:Int)(w:World)(K:KP):=an w (.cells (iv a :: b.on [iv c]:List Value).toArray 44) λ a b=>an b (.cells (iv d :: e.on [iv f]:List Value).toArray 44) λ b c=>∃ d:I6,af c (qd a 1) 0 d.vs/\∃ a:I6,af c (qd b 1) 0 a.vs/\CC 70 #[.agg d.vs.toArray,.agg a.vs.toArray] c λ a b=>∃ c,a=.returned (iv c)/\K (iv c) b
theorem jX{n1 u1 n2 n3 u2 n4 w K}(h:ff n1 u1 n2 n3 u2 n4 w K):CP 112 #[.agg (iv n1 :: u1.on [iv n2]:List Value).toArray,.agg (iv n3 :: u2.on [iv n4]:List Value).toArray] w K:=ah (az []) func112 (by kernel_rfl) (by kernel_rfl) h
def iY(a:Nat)(w:World)(K:KP):=∃ b:Bool->qW,(∀ c d,b d c->∀ e:qv,cond d (K qn c) (∃ d e f g h i j k l m n o,af c (qd a 5) 0 [.slice d e f,.slice g h i,.slice j k l,.slice m n o]/\CC 33 #[.agg #[.slice d e f,.slice g h i,.slice j k l,.slice m n o]] c λ c d=>∃ e f,c=.returned (.tuple #[.pointer e,iv f])/\cond (f !=0) (K qn d) (∃ c f g,d.cell? (qd a 5)=some (.slice c f g)/\CC 34 #[.slice c f g] d λ c d=>∃ f:I6,c=.returned (.agg f.vs.toArray)/\an d (.cells z6.vs.toArray 34) λ c d=>aK (qd c 0) 0 f.vs d λ d=>∃ f g h,d.cell? (qd a 6)=some (.slice f g h)/\∃ f:Int->qN,(∃ h,f 0 d h)/\∀ d h i,f i d h->∀ j:qv,cond (decide (i<(g:Int))) (∃ g:qW,(∀ j,g j->∀ k:qv,∃ k,k<h/\f (IntKind.i64.wrap (i+1)) j k)/\0<=i/\i<8/\∃ f,d.cell? (Addr.add (Addr.add (qd a 10) ((i).toNat*11)) 10)=some (.bool f)/\cond f (g d) (∃ f,d.cell? (qd a 9)=some (.pointer f)/\CC 36 #[.pointer f,iv i] d λ f h=>∃ j k l,f=.returned (.slice j k l)/\CC 35 #[.slice j k l] h λ f h=>∃ j k l,f=.returned (.slice j k l)/\∃ f:OA->Nat->Nat->qW,(∀ m n o p,f n o p m->∀ p:qv,∃ p:Int->qN,(∃ q,p 0 m q)/\∀ m q r,p r m q->∀ s:qv,cond (decide (r<(o:Int))) (aq n λ n=>0<=r/\r<(o:Int)/\∃ o,∃ s:I6,∃ t,af m (Addr.add n ((r).toNat*8)) 0 (iv o :: s.on [iv t])/\an m (.cells #[qz,qz,qz,qz,qz,qz,qz,qz] 44) λ n u=>aK (qd n 0) 0 (iv o :: s.on [iv t]) u λ o=>∃ s:I6,af o (qd n 1) 0 s.vs/\∃ t,o.cell? (qd n 7)=some (iv t)/\CC 38 #[.pointer e,iv i,.agg s.vs.toArray,iv t] o λ n o=>∃ s,n=.returned (iv s)/\∃ n,n<q/\p (IntKind.i64.wrap (r+1)) o n) (g m))/\0<=i/\i<8/\∃ g,h.cell? (Addr.add (Addr.add (qd a 10) ((i).toNat*11)) 9)=some (.bool g)/\cond g (0<=i/\i<8/\∃ g,∃ m:I6,∃ n o p q,af h.drew (Addr.add (qd a 10) ((i).toNat*11)) 0 (iv g :: m.on [iv n,.slice o p q])/\∃ i:I6,af h.drew (qd c 0) 0 i.vs/\CC 37 #[.agg (iv g :: m.on [iv n,.slice o p q]:List Value).toArray,.agg i.vs.toArray] h.drew λ c g=>∃ i m n o,c=.returned (.tuple #[.slice i m n,iv o])/\aP prog (Builtin.append_ #[41,41] 41 #[.slice j k l,.slice i m n]) g λ c g=>∃ i m n,c=(.slice i m n)/\f i m n g) (f j k l h))) (CC 39 #[.pointer e] d λ c d=>∃ e f g,c=.returned (.slice e f g)/\K (.slice e f g) d))))/\∃ c,w.cell? (qd a 4)=some (iv c)/\b (c==0) w
theorem nL{b1 w K}(h:iY b1 w K):CP 13 #[.pointer (some ⟨b1,0,none⟩)] w K:=ah (az [(6,[(20,.s .bool)]),(506,[(43,.s (.int .i64))]),(4051,[]),(129639,[(7,.s .slice)]),(1037118,[(84,.s (.int .i64))])]) func13 (by kernel_rfl) (by kernel_rfl) h
end Go.Proofs.YtmffhopdpbikgaaGreatDoor
namespace Go.Vc
open Go Go.RowKit
section
variable {α:Type} {P:Program} {t ty e:TypeId} {z:Value} {sz by_:Nat} {f:α->List Value} {w0 w:World} {B:aD} {a:OA} {c:Nat} {l:List α}
theorem AK(hf:∀ x,(f x).length=sz):∀ (l:List α) (n:Nat),(l.flatMap f).take (n*sz)=(l.take n).flatMap f
 | _,0=>by simp
 | [],n+1=>by simp
 | x :: l,n+1=>by
  have e1:(n+1)*sz=(f x).length+n*sz:=by rw[hf x,Nat.add_mul]; omega
  rw[List.flatMap_cons,e1,List.take_length_add_append,AK hf l n,List.take_succ_cons,List.flatMap_cons]
theorem Aj{z:Array Value}{n:Nat}:(Builtin.zeroCells z n).toList.length=n*z.size:=by simp[Builtin.zeroCells]
theorem Ak{z:Array Value}{n:Nat}{Q:Value->Prop}(h0:0<z.size)(h:∀ v∈z.toList,Q v):∀ v∈(Builtin.zeroCells z n).toList,Q v:=by
 intro v hv;simp only[Builtin.zeroCells,Array.toList_map,List.mem_map] at hv;obtain⟨i,_,rfl⟩:=hv;have hi:i%z.size<z.size:=Nat.mod_lt _ h0;rw[getElem!_pos z (i%z.size) hi];exact h _ (Array.getElem_mem_toList hi)
theorem Jz(hT:hU P t e z sz by_)(hf:∀ x,(f x).length=sz)(h1:∀ v∈z.cells.toList,v.oneCell' = true){g n:Nat}(h:St w0 w (star (bM e sz f (some ⟨g,0,none⟩) c l) B))(hn:n<=l.length){K:World->Prop}(k:∀ w',St w0 w' (star (bM e sz f (some ⟨g,0,none⟩) c (l.take n)) B)->K w') :
  aP P (Builtin.clear_ #[t] ty #[.slice (if c=n then some ⟨g,0,none⟩ else Option.map (λ x=>Addr.add x (n*sz)) (some ⟨g,0,none⟩)) (l.length-n) (c-n)]) w λ _ w'=>K w':=by
 obtain⟨i,hi,hzz,hs,hby⟩:=hT.i
 by_cases h0:l.length=n
 ·have e0:l.length-n=0:=by omega
  rw[e0];have e1:l.take n=l:=List.take_of_length_le (by omega);rw[e1] at k;refine⟨.tuple #[],w,?_,k w h⟩;generalize(if c=n then _ else _:OA)=a
  cases a<;>simp[Builtin.clear_,run_underlying hT.u]
 ·obtain⟨m,hm⟩:∃ m,l.length-n=m+1:=⟨l.length-n-1,by omega⟩;have hfl:=bx hf l;obtain⟨F,⟨own,rfl⟩,use⟩:=h.use;rcases own.2 with⟨hv,_⟩|⟨g',cap,cur,hv,hb,hg,hnc,hcm,hcs,htake⟩
  ·cases hv
  ·cases hv
   have hz:=hT.zc;have hlen:(Builtin.zeroCells z.cells (m+1)).toList.length=(m+1)*sz:=by rw[Aj,hz]
   have one:∀ v∈(Builtin.zeroCells z.cells (m+1)).toList,v.oneCell' = true:=Ak (by rw[hz]; exact hT.pos) h1;have hmul:n*sz+(m+1)*sz=l.length*sz:=by rw[<- Nat.add_mul]; congr 1; omega
   have hcap:l.length*sz<=c*sz:=Nat.mul_le_mul_right _ hnc;have hst:=run_storeCells_at P g (n*sz) e (Builtin.zeroCells z.cells (m+1)).toList 0 cur w hg (by rw[hlen,hcs]; omega) one;rw[if_neg (by omega : ¬ c=n),hm];have ea:Option.map (λ x=>Addr.add x (n*sz)) (some (⟨g,0,none⟩:Addr))=some ⟨g,n*sz,none⟩:=by rw[Option.map_some,p8]
   rw[ea];have hrun:(Builtin.clear_ #[t] ty #[.slice (some ⟨g,n*sz,none⟩) (m+1) (c-n)]).run P w=.ok (.tuple #[]) (w.setRow g (cur.toList.take (n*sz+0)++(Builtin.zeroCells z.cells (m+1)).toList++cur.toList.drop (n*sz+0+(Builtin.zeroCells z.cells (m+1)).toList.length)).toArray):=by
    simp[Builtin.clear_,run_underlying hT.u,zeroValue,typeInfo,hi,hzz,hst]
   have htl:(l.take n).length=n:=by rw[List.length_take]; omega
   refine⟨_,_,hrun,k _ (use _ _ ⟨[g],⟨⟨?_,.inr ⟨g,c,_,rfl,hb,setRow_heap w g cur _ e _ hg,?_,hcm,?_,?_⟩⟩,rfl⟩,⟨by simp[World.setRow],λ j _ hj=>setRow_other w g j _ (by simp[Value.ownBlock] at hj; exact hj),⟨rfl,rfl,rfl⟩⟩,λ j hj=>.inl (by simpa[Value.ownBlock] using hj)⟩)⟩
   ·rw[bx hf]
   ·rw[htl]; omega
   ·simp only[List.size_toArray,List.length_append,List.length_take,List.length_drop,Array.length_toList,hlen,hcs];omega
   ·rw[htl,List.append_assoc,List.take_append_of_le_length (by rw[List.length_take,Array.length_toList,hcs]; omega),Nat.add_zero,List.take_take,Nat.min_self,<- AK hf l n,<- htake,List.take_take,Nat.min_eq_left (by omega)]
end
end Go.Vc
namespace Go.Vc
open Go Go.RowKit Go.Sort Go.Proofs
def zQ(w w' : World):Prop:=∃ (q:Nat) (os:Array Obj),w' = grow (w.drewN q) os
theorem zQ.refl(w:World):zQ w w:=⟨0,#[],by rw[grow_empty]; rfl⟩
theorem zQ.drew{w w' : World}(h:zQ w w'):zQ w w'.drew:=by
 obtain⟨q,os,rfl⟩:=h;exact⟨q+1,os,rfl⟩
theorem zQ.alloc{w w' : World}(h:zQ w w')(o:Obj):zQ w (w'.alloc o):=by
 obtain⟨q,os,rfl⟩:=h;exact⟨q,os.push o,by rw[alloc_eq_grow,grow_grow,Array.append_singleton]⟩
theorem zQ.trans{w w1 w2:World}(h:zQ w w1)(k:zQ w1 w2):zQ w w2:=by
 obtain⟨q,os,rfl⟩:=h;obtain⟨q2,os2,rfl⟩:=k;refine⟨q+q2,os++os2,?_⟩;rw[<- grow_grow];show grow (grow ((w.drewN q).drewN q2) os) os2=_
 congr 2
 unfold World.drewN;simp[Nat.add_assoc]
theorem St.Ih{w w0 w1:World}{l:List aD}(s:St w w1 (Sep l))(h:zQ w0 w1)(cs:Array Value){T:TypeId}{R:Nat->World->Prop}(k:∀ r w',St w w' (Sep (ai r cs T :: l))->zQ w0 w'->R r w'):an w1 (.cells cs T) R :=
 k _ _ (s.bO cs T) (h.alloc _)
section
variable {α:Type} [Inhabited α] {e:TypeId} {sz c g:Nat} {f:α->List Value} {w0 w:World} {B:aD} {l l' : List α}
theorem yF(hf:∀ x,(f x).length=sz)(l:List α):(flatK f sz l.toArray).toList=l.flatMap f:=by
 refine List.ext_getElem? λ t=>?_
 by_cases ht:t<l.length*sz
 ·have h1:t<(flatK f sz l.toArray).size:=by rw[size_flatK]; simpa using ht
  have h2:t<(l.flatMap f).length:=by rw[bx hf]; exact ht
  have s0:0<sz:=(Nat.eq_zero_or_pos sz).resolve_left λ h=>by subst h; simp at ht
  have hq:t / sz<l.length:=Nat.div_lt_of_lt_mul (by rw[Nat.mul_comm]; exact ht);have hg:(flatK f sz l.toArray)[t]! = _:=get_flatK f sz l.toArray t (by simpa using ht);rw[Array.getElem?_toList,Array.getElem?_eq_getElem h1,<- getElem!_pos (flatK f sz l.toArray) t h1,hg];have hx:l[t / sz]?=some (l[t / sz]'hq):=List.getElem?_eq_getElem hq;have e1:l.toArray[t / sz]! = l[t / sz]'hq:=by rw[getElem!_pos l.toArray (t / sz) (by simpa using hq)]; simp
  rw[e1];have hm:t%sz<(f (l[t / sz]'hq)).length:=by rw[hf]; exact Nat.mod_lt _ s0
  have:=yG hf hx (t%sz) _ (List.getElem?_eq_getElem hm);rw[Nat.div_add_mod'] at this;rw[this,getElem!_pos (f (l[t / sz]'hq)) (t%sz) hm]
 ·rw[List.getElem?_eq_none (by rw[Array.length_toList,size_flatK]; simpa using ht),List.getElem?_eq_none (by rw[bx hf]; omega)]
theorem NG(hf:∀ x,(f x).length=sz)(h:St w0 w (star (bM e sz f (some ⟨g,0,none⟩) c l) B))(hl:l'.length=l.length)(n:Nat)(os:Array Obj) :
  St w0 (sortWorldK f sz w g 0 n l'.toArray os) (star (bM e sz f (some ⟨g,0,none⟩) c l') B):=by
 obtain⟨F,⟨own,rfl⟩,use⟩:=h.use;rcases own.2 with⟨hv,_⟩|⟨g',cap,cur,hv,hb,hg,hnc,hcm,hcs,htake⟩
 ·cases hv
 ·cases hv
  have hlt:g<w.heap.size:=fz hg;have e1:(sortWorldK f sz w g 0 n l'.toArray os).heap=w.heap.modify g (onCells (putCells id 0 (flatK f sz l'.toArray)))++os:=rfl;have hsz:(flatK f sz l'.toArray).size=l.length*sz:=by rw[size_flatK]; simp[hl]
  have hat:(sortWorldK f sz w g 0 n l'.toArray os).heap[g]?=some (.cells (putCells id 0 (flatK f sz l'.toArray) cur) e (0,0)):=by
   rw[e1,Array.getElem?_append_left (by simpa using hlt),Array.getElem?_modify,if_pos rfl,hg]; rfl
  have hcap:l.length*sz<=c*sz:=Nat.mul_le_mul_right _ hnc;have hcur:(putCells id 0 (flatK f sz l'.toArray) cur).toList.take (l.length*sz)=l'.flatMap f:=by
   rw[<- yF hf];refine List.ext_getElem? λ t=>?_;rw[List.getElem?_take]
   by_cases ht:t<l.length*sz
   ·rw[if_pos ht];have hc:t<cur.size:=by omega
    have h1:t<(flatK f sz l'.toArray).size:=by omega
    rw[Array.getElem?_toList,Array.getElem?_toList,putCells,Array.getElem?_mapIdx,Array.getElem?_eq_getElem hc,Array.getElem?_eq_getElem h1,Option.map_some,if_pos (by omega),Nat.sub_zero,getElem!_pos (flatK f sz l'.toArray) t h1]; rfl
   ·rw[if_neg ht,List.getElem?_eq_none (by rw[Array.length_toList]; omega)]
  refine use _ _ ⟨[g],⟨⟨?_,.inr ⟨g,c,_,rfl,hb,hat,by omega,hcm,?_,?_⟩⟩,rfl⟩,⟨?_,λ j hj hn=>?_,⟨rfl,rfl,rfl⟩⟩,λ j hj=>.inl (by simpa[Value.ownBlock] using hj)⟩
  ·rw[bx hf]
  ·rw[putCells,Array.size_mapIdx]; exact hcs
  ·rw[hl]; exact hcur
  ·rw[e1]; simp
  ·have hne:j≠g:=by simp[Value.ownBlock] at hn; exact hn
   rw[e1,Array.getElem?_append_left (by simpa using hj),Array.getElem?_modify,if_neg (Ne.symm hne)]
theorem sort_holds(hf:∀ x,(f x).length=sz)(h:St w0 w (star (bM e sz f (some ⟨g,0,none⟩) c l) B)):HoldsK f sz w g 0 l.toArray/\g<w.heap.size:=by
 obtain⟨F,⟨own,rfl⟩,use⟩:=h.use;rcases own.2 with⟨hv,_⟩|⟨g',cap,cur,hv,hb,hg,hnc,hcm,hcs,htake⟩
 ·cases hv
 ·cases hv
  have hcap:l.length*sz<=c*sz:=Nat.mul_le_mul_right _ hnc;refine⟨λ j hj=>?_,fz hg⟩;have hj' : j<l.length*sz:=by rw[size_flatK] at hj; simpa using hj
  have h1:(flatK f sz l.toArray)[j]! = (flatK f sz l.toArray)[j]:=getElem!_pos (flatK f sz l.toArray) j hj;have h2:(flatK f sz l.toArray)[j]?=cur[j]?:=by
   rw[<- Array.getElem?_toList,yF hf,<- htake,List.getElem?_take,if_pos hj',Array.getElem?_toList]
  rw[Nat.zero_add];refine⟨?_,?_⟩
  ·rw[kA,hg,fq,<- h2,Array.getElem?_eq_getElem hj,h1]; rfl
  ·rw[yI,hg,yK]
end
section
variable {α:Type} {e:TypeId} {sz c g:Nat} {f:α->List Value} {w0 w:World} {B:aD} {l:List α}
theorem yH(hf:∀ x,(f x).length=sz){x x' : α}{v:Value}{j:Nat}(hj:j<sz)(hx:f x' = (f x).set j v):∀ (l:List α) (i:Nat),l[i]?=some x->(l.set i x').flatMap f=(l.flatMap f).set (i*sz+j) v
 | [],_,h=>by simp at h
 | y :: l,0,h=>by
  obtain rfl:y=x:=by simpa using h
  rw[List.set_cons_zero,List.flatMap_cons,List.flatMap_cons,hx,Nat.zero_mul,Nat.zero_add,List.set_append_left _ _ (by rw[hf]; exact hj)]
 | y :: l,i+1,h=>by
  have ih:=yH hf hj hx l i (by simpa using h);have e1:(i+1)*sz+j=(f y).length+(i*sz+j):=by rw[hf y,Nat.add_mul]; omega
  rw[List.set_cons_succ,List.flatMap_cons,ih,List.flatMap_cons,e1,List.set_append_right _ _ (by omega),Nat.add_sub_cancel_left]
theorem St.NJ(hf:∀ x,(f x).length=sz){x x' : α}{v:Value}{i j:Nat}(hi:l[i]?=some x)(hj:j<sz)(hx:f x' = (f x).set j v)(h1:v.oneCell' = true)(h:St w0 w (star (bM e sz f (some ⟨g,0,none⟩) c l) B)){R:World->Prop}(k:∀ w',St w0 w' (star (bM e sz f (some ⟨g,0,none⟩) c (l.set i x')) B)->R w'):aM w ⟨g,i*sz+j,none⟩ v R:=by
 obtain⟨F,⟨own,rfl⟩,use⟩:=h.use;rcases own.2 with⟨hv,_⟩|⟨g',cap,cur,hv,hb,hg,hnc,hcm,hcs,htake⟩
 ·cases hv
 ·cases hv
  have hil:=(List.getElem?_eq_some_iff.1 hi).1;have hcap:l.length*sz<=c*sz:=Nat.mul_le_mul_right _ hnc;have h4:i*sz+sz<=l.length*sz:=by
   have:=Nat.mul_le_mul_right sz (show i+1<=l.length by omega);rw[Nat.add_mul] at this; omega
  refine Cv hg (by omega) h1 (k _ (use _ _ ⟨[g],⟨⟨?_,.inr ⟨g,c,cur.setIfInBounds (i*sz+j) v,?_,hb,?_,?_,hcm,?_,?_⟩⟩,rfl⟩,aA.set w g _ v (by simp[Value.ownBlock]),λ j hj=>.inl hj⟩))
  ·rw[bx hf,List.length_set]
  ·rw[List.length_set]
  ·rw[heap_set,if_pos rfl,hg]; rfl
  ·rw[List.length_set]; exact hnc
  ·rw[Array.size_setIfInBounds]; exact hcs
  ·rw[List.length_set,yH hf hj hx l i hi,<- htake,Array.toList_setIfInBounds,List.take_set]
end
end Go.Vc
namespace Go.Proofs.YtmffhopdpbikgaaGreatDoor
open Go Go.Vc Go.Sort _root_.Go.Proofs.Tryz
theorem Dm{u v:I6}:∀ n,cM u v n=0->∀ k,k<n->u.at' (5-k)=v.at' (5-k)
 | 0,_,k,hk=>absurd hk (Nat.not_lt_zero k)
 | n+1,h,k,hk=>by
  simp only[cM] at h;rcases mh (u.at' (5-n)) (v.at' (5-n)) (cM u v n) with⟨a1,e1⟩|⟨a1,e1⟩|⟨a1,e1⟩<;>rw[e1] at h
  ·omega
  ·by_cases e:k=n
   ·subst e; exact a1
   ·exact Dm n h k (by omega)
  ·omega
theorem HK{u v:I6}(h:JC u v=0):u=v:=I6.ext' λ j hj=>by
 have:=Dm 6 h (5-j) (by omega)
 rwa [show 5-(5-j)=j by omega] at this
def Dl(x y:Of):Int:=JC x.want y.want
instance:Inhabited Of:=⟨sC⟩
theorem NM:SWO (ltOf Dl) where
 irrefl x:=by
  have:=pQ x.want x.want 6;exact dF (show ¬ cM _ _ 6<0 by omega)
 trans x y z h1 h2:=by
  have h1:cM x.want y.want 6<0:=of_decide_eq_true h1;have h2:cM y.want z.want 6<0:=of_decide_eq_true h2;exact dT ((EW _ _ _ 6 (by omega) (by omega)).2 (.inl h1))
 ntrans x y z h1 h2:=by
  have h1 : ¬ cM x.want y.want 6<0:=of_decide_eq_false h1;have h2 : ¬ cM y.want z.want 6<0:=of_decide_eq_false h2;have e1:=pQ x.want y.want 6;have e2:=pQ y.want z.want 6;have e3:=pQ x.want z.want 6;have:=(EW z.want y.want x.want 6 (by omega) (by omega)).1;exact dF (show ¬ cM _ _ 6<0 by omega)
def QJ(x y:Of):Bool:=SC x.want y.want
def HR(x:Of):List Of->List Of
 | []=>[x]
 | y :: l=>if QJ x y=true then x :: y :: l else y :: HR x l
def Kb(l:List Of):List Of:=l.foldr HR []
theorem uQ(x:Of):∀ l:List Of,(HR x l).Perm (x :: l)
 | []=>List.Perm.refl _
 | y :: l=>by
  rw[HR]
  split
  ·exact List.Perm.refl _
  ·exact(List.Perm.cons y (uQ x l)).trans (List.Perm.swap x y l)
theorem dZ:∀ l:List Of,(Kb l).Perm l
 | []=>List.Perm.refl _
 | x :: l=>(uQ x (Kb l)).trans (List.Perm.cons x (dZ l))
theorem BZ(l:List Of):(Kb l).length=l.length:=(dZ l).length_eq
def N1(l:List Of):Prop:=l.Pairwise λ x y=>QJ x y=true
theorem Km{x y:Of}(h:QJ y x=false)(hn:x.want≠y.want):QJ x y=true:=by
 have h1 : ¬ cM y.want x.want 6<0:=of_decide_eq_false h;have e:=pQ x.want y.want 6;refine dT (show cM _ _ 6<0 from ?_);have:cM x.want y.want 6≠0:=λ h0=>hn (HK h0);omega
theorem GD{x:Of}:∀ {l:List Of},N1 l->(∀ y∈l,y.want≠x.want)->N1 (HR x l)
 | [],_,_=>List.pairwise_singleton _ _
 | y :: l,h,hn=>by
  unfold N1 at h;rw[List.pairwise_cons] at h;rw[HR]
  split
  ·rename_i g;refine List.pairwise_cons.2 ⟨λ z hz=>?_,List.pairwise_cons.2 h⟩;rcases List.mem_cons.1 hz with rfl|hz
   ·exact g
   ·exact NM.trans x y z g (h.1 z hz)
  ·rename_i g;refine List.pairwise_cons.2 ⟨λ z hz=>?_,GD h.2 λ z hz=>hn z (by simp[hz])⟩;rcases List.mem_cons.1 ((uQ x l).mem_iff.1 hz) with rfl|hz
   ·exact Km (by simpa using g) (hn y (by simp))
   ·exact h.1 z hz
theorem B0:∀ {l:List Of},(l.map Of.want).Nodup->N1 (Kb l)
 | [],_=>List.Pairwise.nil
 | x :: l,h=>by
  rw[List.map_cons,List.nodup_cons] at h;exact GD (B0 h.2) λ y hy e=>h.1 (by rw[<- e]; exact List.mem_map_of_mem ((dZ l).mem_iff.1 hy))
theorem Cx:∀ {l m:List Of},N1 l->N1 m->l.Perm m->l=m
 | [],m,_,_,h=>(List.nil_perm.1 h).symm
 | x :: l,[],_,_,h=>absurd (List.perm_nil.1 h) (by simp)
 | x :: l,y :: m,h,k,hp=>by
  unfold N1 at h k;rw[List.pairwise_cons] at h k;have e:x=y:=by
   rcases List.mem_cons.1 (hp.mem_iff.1 (List.mem_cons_self ..)) with e|hx
   ·exact e
   ·rcases List.mem_cons.1 (hp.mem_iff.2 (List.mem_cons_self ..)) with e|hy
    ·exact e.symm
    ·have h1:=h.1 y hy;have h2:=k.1 x hx;have:=NM.trans x y x h1 h2;have h3:=NM.irrefl x;rw[h3] at this; cases this
  subst e;rw[Cx h.2 k.2 ((List.perm_cons x).1 hp)]
theorem IL{l o:List Of}(hn:(l.map Of.want).Nodup)(hp:o.Perm l)(hs:o.Pairwise λ x y=>QJ y x=false):o=Kb l:=by
 have hn2:(o.map Of.want).Nodup:=(hp.map Of.want).nodup_iff.2 hn;refine Cx ?_ (B0 hn) (hp.trans (dZ l).symm);unfold N1;have hq:o.Pairwise λ x y=>x.want≠y.want:=by
  unfold List.Nodup at hn2
  rwa [List.pairwise_map] at hn2
 exact(hs.and hq).imp λ h=>Km h.1 h.2
theorem ym(w:World)(u v:I6):CP 70 #[.agg u.vs.toArray,.agg v.vs.toArray] w (λ r w'=>r=iv (JC u v)/\zQ w w'):=by
 refine sL ?_;unfold nW;refine St.Ih (St.start w).one (zQ.refl w) u.vs.toArray λ r1 w1 s1 g1=>s1.Ih g1 v.vs.toArray λ r2 w2 s2 g2=>?_;have s2:St w w2 (Sep [ai r2 v.vs.toArray 34,ai r1 u.vs.toArray 34,emp]):=s2;refine⟨λ n w3 m=>∃ k:Nat,n=k/\k<=6/\m=6-k/\JC u v=cM u v (6-k)/\zQ w w3/\St w w3 (Sep [ai r2 v.vs.toArray 34,ai r1 u.vs.toArray 34,emp]),⟨6,0,rfl,by omega,by omega,rfl,g2,s2⟩,?_⟩;rintro w3 m n ⟨k,rfl,hk,hm,ha,g,s⟩ -
 by_cases hlt:(k:Int)<6
 ·have hk' : k<6:=by omega
  obtain⟨j,hj⟩:∃ j,6-k=j+1:=⟨5-k,by omega⟩;have hk5:5-j=k:=by omega
  have s3:=s.quiet (aA.drew _ _);have s4:=s3.quiet (aA.drew _ _);have g3:=g.drew;have g4:=g3.drew;refine cT (dT hlt) ⟨by omega,by omega,u.at' k,by rw[e9,aH s3 1 rfl hk'],by omega,by omega,v.at' k,by rw[e9,aH s3 0 rfl hk'],?_⟩;rw[hj] at ha;rcases mh (u.at' k) (v.at' k) (cM u v j) with⟨a1,e1⟩|⟨a1,e1⟩|⟨a1,e1⟩
  ·refine cT (dT a1) ⟨?_,g3⟩;rw[ha];show iv (-1)=iv (Nz (u.at' (5-j)) (v.at' (5-j)) _);rw[hk5,e1]
  ·refine cF (dF (by omega)) ⟨by omega,by omega,u.at' k,by rw[e9,aH s4 1 rfl hk'],by omega,by omega,v.at' k,by rw[e9,aH s4 0 rfl hk'],?_⟩;refine cF (dF (by omega)) ⟨6-(k+1),by omega,k+1,inc (by decide) hk',by omega,rfl,?_,g4,s4⟩;rw[ha,Mh (by rw[hk5]; exact a1),show 6-(k+1)=j by omega]
  ·refine cF (dF (by omega)) ⟨by omega,by omega,u.at' k,by rw[e9,aH s4 1 rfl hk'],by omega,by omega,v.at' k,by rw[e9,aH s4 0 rfl hk'],?_⟩;refine cT (dT a1) ⟨?_,g4⟩;rw[ha];show iv 1=iv (Nz (u.at' (5-j)) (v.at' (5-j)) _);rw[hk5,e1]
 ·obtain rfl:k=6:=by omega
  refine cF (dF hlt) ⟨?_,g⟩;rw[ha]; rfl
theorem Ra(w:World)(x y:Of):CP 69 #[.agg x.cells.toArray,.agg y.cells.toArray] w (λ r w'=>r=iv (Dl x y)/\zQ w w'):=by
 refine nH (u1:=x.want) (u2:=y.want) ?_;unfold iS;refine St.Ih (St.start w).one (zQ.refl w) x.cells.toArray λ r1 w1 s1 g1=>s1.Ih g1 y.cells.toArray λ r2 w2 s2 g2=>⟨x.want,St.aF s2 1 1 rfl rfl,y.want,St.aF s2 0 1 rfl rfl,aj (ym w2 _ _) ?_⟩;rintro _ w3 ⟨rfl,g3⟩;exact⟨_,rfl,rfl,g2.trans g3⟩
theorem Q5(w:World)(x y:Of):CP 112 #[.agg x.cells.toArray,.agg y.cells.toArray] w (λ r w'=>r=iv (Dl x y)/\zQ w w'):=by
 refine jX (u1:=x.want) (u2:=y.want) ?_;unfold ff;refine St.Ih (St.start w).one (zQ.refl w) x.cells.toArray λ r1 w1 s1 g1=>s1.Ih g1 y.cells.toArray λ r2 w2 s2 g2=>⟨x.want,St.aF s2 1 1 rfl rfl,y.want,St.aF s2 0 1 rfl rfl,aj (ym w2 _ _) ?_⟩;rintro _ w3 ⟨rfl,g3⟩;exact⟨_,rfl,rfl,g2.trans g3⟩
theorem Ho{w0 w:World}{a:OA}{c:Nat}{l:List Of}{B:aD}(s:St w0 w (star (bf a c l) B))(hl:l.length<=100000)(hn:(l.map Of.want).Nodup){g:Nat}(eg:∀ args w,(callFunc g args).run prog w=.ok (.enter g args) w)(hc:∀ (w:World) (x y:Of),Calls prog g #[.agg x.cells.toArray,.agg y.cells.toArray] w (ur λ r w'=>r=iv (Dl x y)/\zQ w w')) :
  CP 68 #[.slice a l.length c,.func (.func g) #[] #[]] w (λ r w'=>r=.tuple #[]/\St w0 w' (star (bf a c (Kb l)) B)):=by
 by_cases h0:l=[]
 ·subst h0;exact(AnyF.slices_SortFunc_none Tryz.Lf a c _ w).mono λ e w' ⟨he,hw⟩=>⟨_,he,rfl,by rw[hw]; exact s⟩
 ·obtain⟨b,rfl⟩:=s.mg (List.length_pos_iff.2 h0);have hh:=sort_holds Of.len s;have hcl:CmpLays prog g #[] Of.cells 8 Dl b 0 l.toArray.size w:=λ m os dk _ x y=>by
   have:=(hc (sortWorldK Of.cells 8 w b 0 m dk os) x y).mono (R':=λ e w'=>e=.returned (.int .i64 (Dl x y))/\∃ q os',w' = grow ((sortWorldK Of.cells 8 w b 0 m dk os).drewN q) os') λ e w' ⟨r,he,hr,hg⟩=>⟨by rw[he,hr],hg⟩;simpa using this
  have H:=AnyQ.slices_SortFunc Tryz.Lf 8 Tryz.isAgg44 Tryz.sizeOf44 Of.cells Of.len Of.one Dl NM g #[] b 0 c l.toArray w eg hcl hh.1 hh.2 (by simp; omega);have H2:CC 68 #[.slice (some ⟨b,0,none⟩) l.length c,.func (.func g) #[] #[]] w _:=H;refine H2.mono λ e w' ⟨he,d',n,os,hp,hs,hw⟩=>⟨_,he,rfl,?_⟩;have e0:d'.size=l.length:=by simpa using hp.1
  have e1:d'.toList.Perm l:=by
   have:=hp.2.2;simp[e0] at this
   rwa [List.take_of_length_le (by simpa using Nat.le_of_eq e0)] at this
  have e2:d'.toList.Pairwise λ x y=>QJ y x=false:=by
   rw[List.pairwise_iff_getElem];intro i j hi hj hij;have:=hs i j (Nat.zero_le _) hij (by simpa[e0] using hj);rw[getElem!_pos d' i (by simpa using hi),getElem!_pos d' j (by simpa using hj)] at this;exact(by simpa using this:ltOf Dl d'[j] d'[i]=false)
  rw[<- IL hn e1 e2];have:=NG Of.len s (l':=d'.toList) (by simpa using e0) n os;rw[hw];simpa using this
end Go.Proofs.YtmffhopdpbikgaaGreatDoor
namespace Go.Proofs.YtmffhopdpbikgaaGreatDoor
open Go Go.Vc _root_.Go.Proofs.Tryz
abbrev Rb:Value:=.func (.func 67) #[] #[]
theorem N8(w:World)(x:Of):CP 67 #[.agg x.cells.toArray] w (λ r w'=>r=.bool (decide (x.v=0))/\aA w w' []):=by
 refine nG (u1:=x.want) ?_;unfold iR;exact(St.start w).one.ax x.cells.toArray λ r1 w1 s1=>⟨x.v,s1.ag 0 rfl 7,rfl,s1.av⟩
def DX(x:Of):Bool:=!decide (x.v=0)
theorem Pz{w:World}{a:OA}{c:Nat}{l:List Of}(h:RO w a l)(hl:l.length<=1000) :
  CP 101 #[.slice a l.length c,Rb] w (λ r w'=>((∃ (k:Nat) (x:Of),r=iv k/\l[k]?=some x/\x.v=0/\(l.take k).filter DX=l.take k)\/(r=iv (-1)/\l.filter DX=l))/\aA w w' []):=by
 refine ji ?_;unfold eP;refine⟨λ n w1 m=>∃ k:Nat,n=k/\k<=l.length/\m=l.length-k/\(l.take k).filter DX=l.take k/\aA w w1 [],⟨l.length,0,rfl,by omega,by omega,rfl,aA.refl _ _⟩,?_⟩;rintro w1 m n ⟨k,rfl,hk,hm,hf,hc⟩ -
 by_cases hlt:(k:Int)<(l.length:Int)
 ·have hx:l[k]?=some (l[k]'(by omega)):=gE (by omega);generalize l[k]'(by omega)=x at hx;obtain⟨q,hq,hcl⟩:=(cW.av h hc).at hx;refine cT (dT hlt) (ak hq ⟨by omega,by omega,_,x.want,_,hcl,bn (by kernel_rfl) (aj (N8 w1 x) ?_)⟩);rintro _ w2 ⟨rfl,c2⟩;have hc2:aA w w2 []:=hc.trans c2 (by simp);refine⟨_,rfl,?_⟩
  by_cases hz:x.v=0
  ·exact cT (dT hz) ⟨.inl ⟨k,x,rfl,hx,hz,hf⟩,hc2⟩
  ·refine cF (dF hz) ⟨l.length-(k+1),by omega,k+1,aB ⟨by omega,by omega⟩,by omega,rfl,?_,hc2⟩;rw[aG hx,List.filter_append,hf];simp[DX,hz]
 ·obtain rfl:k=l.length:=by omega
  rw[List.take_length] at hf;exact cF (dF hlt) ⟨.inr ⟨rfl,hf⟩,hc⟩
theorem Q9{a:OA}{c:Nat}:(if c=0 then a else Option.map (λ x=>Addr.add x (0*8)) a)=a:=by
 split
 ·rfl
 ·cases a with
  | none=>rfl
  | some q=>obtain⟨b,o,p⟩:=q; rw[Option.map_some,Nat.zero_mul]; unfold Addr.add; split<;>simp_all
theorem O9{w0 w:World}{a:OA}{c:Nat}{l:List Of}{B:aD}(s:St w0 w (star (bf a c l) B))(hl:l.length<=1000) :
  CP 66 #[.slice a l.length c,Rb] w (λ r w'=>r=.slice a (l.filter DX).length c/\St w0 w' (star (bf a c (l.filter DX)) B)):=by
 refine iU ?_;unfold dS;refine aj (Pz (St.rd Of.len s) hl) ?_;rintro _ w1 ⟨hr,c1⟩;have s1:=s.quiet c1;rcases hr with⟨k0,x0,rfl,hk0,hz0,hf0⟩|⟨rfl,hf⟩
 rotate_left
 ·refine⟨_,rfl,cT rfl ⟨?_,?_⟩⟩
  ·rw[hf]
  ·rw[hf]; exact s1
 have hlt0:=(List.getElem?_eq_some_iff.1 hk0).1;obtain⟨g,rfl⟩:=s1.mg (by omega);refine⟨_,rfl,cF (by simp) ⟨λ n2 n3 w2 m=>∃ (k i:Nat) (R:List Of),n3=k/\n2=i/\k<=l.length/\m=l.length-k/\i<=k/\R.length=l.length/\R.take i=(l.take k).filter DX/\R.drop k=l.drop k/\St w0 w2 (star (bf (some ⟨g,0,none⟩) c R) B),⟨l.length-(k0+1),k0+1,k0,l,aB ⟨by omega,by omega⟩,rfl,by omega,rfl,by omega,rfl,?_,rfl,s1⟩,?_⟩⟩
 ·rw[aG hk0,List.filter_append,hf0];simp[DX,hz0]
 rintro w2 m n2 n3 ⟨k,i,R,rfl,rfl,hk,hm,hik,hR,ht,hd,s2⟩ -
 by_cases hlt:(k:Int)<(l.length:Int)
 ·have hx:l[k]?=some (l[k]'(by omega)):=gE (by omega);generalize l[k]'(by omega)=x at hx;have hxR:R[k]?=some x:=by
   have:(R.drop k)[0]?=(l.drop k)[0]?:=by rw[hd]
   rw[List.getElem?_drop,List.getElem?_drop] at this;rw[show k+0=k from rfl] at this;rw[this,hx]
  obtain⟨q,hq,hcl⟩:=(St.rd Of.len s2).at hxR
  cases hq
  refine cT (dT hlt) ⟨λ n4 w3=>∃ (i:Nat) (R:List Of),n4=i/\i<=k+1/\R.length=l.length/\R.take i=(l.take (k+1)).filter DX/\R.drop (k+1)=l.drop (k+1)/\St w0 w3 (star (bf (some ⟨g,0,none⟩) c R) B),?_,?_⟩
  ·rintro w3 n4 ⟨i,R,rfl,hi,hR,ht,hd,s3⟩ -;exact⟨l.length-(k+1),by omega,k+1,i,R,aB ⟨by omega,by omega⟩,rfl,by omega,rfl,hi,hR,ht,hd,s3⟩
  ·have s2' : St w0 w2 (Sep [bf (some ⟨g,0,none⟩) c R,B]):=s2.v8;refine⟨by omega,by omega,_,x.want,_,hcl,s2'.ax sC.cells.toArray λ r1 w4 s4=>s4.ay 0 rfl x.cells rfl x.one λ w5 s5=>⟨_,x.want,_,s5.cellsIn 0 rfl,bn (by kernel_rfl) (aj (N8 w5 x) ?_)⟩⟩;rintro _ w6 ⟨rfl,c6⟩;have s6:=s5.quiet c6;have hd1:R.drop (k+1)=l.drop (k+1):=by
    have:=congrArg (List.drop 1) hd
    rwa [List.drop_drop,List.drop_drop] at this
   refine⟨_,rfl,?_⟩
   by_cases hz:x.v=0
   ·refine cF (by rw[dT hz]; rfl) ⟨i,R,rfl,by omega,hR,?_,hd1,(s6.au [1,2]).pair⟩;rw[aG hx,List.filter_append,ht];simp[DX,hz]
   ·refine cT (by rw[dF hz]; rfl) ⟨_,x.want,_,s6.cellsIn 0 rfl,by omega,by omega,(s6.au [1,2]).pair.Bi Of.len x.one (i:=i) (by omega) λ w7 s7=>⟨i+1,R.set i x,aB ⟨by omega,by omega⟩,by omega,by rw[List.length_set]; exact hR,?_,?_,s7⟩⟩
    ·rw[aG (List.getElem?_set_self (by omega)),List.take_set_of_le (by omega),ht,aG hx,List.filter_append];simp[DX,hz]
    ·rw[List.drop_set_of_lt (by omega)];exact hd1
 ·obtain rfl:k=l.length:=by omega
  rw[List.take_length] at ht;have hi:i=(l.filter DX).length:=by rw[<- ht,List.length_take]; omega
  have hc:=(St.mU s2).1;rw[<- hR];refine cF (dF (by omega)) ⟨by omega,by omega,?_⟩;refine Jz En Of.len sC.one s2 (n:=i) (by omega) λ w8 s8=>⟨by omega,by omega,?_,?_⟩
  ·rw[Q9,hi]; rfl
  ·rw[ht] at s8; exact s8
def uE:List Of->Ch->List Of
 | [],c=>[⟨0,c.want,cost c.p c.want⟩]
 | x :: l,c=>if x.want=c.want then { x with v:=if cost c.p c.want>x.v then cost c.p c.want else x.v } :: l else x :: uE l c
def Ju(l:List Ch):List Of:=Kb ((l.foldl uE []).filter DX)
theorem Dc{c:Ch}:∀ {l:List Of},(∀ x∈l,x.want≠c.want)->uE l c=l++[⟨0,c.want,cost c.p c.want⟩]
 | [],_=>rfl
 | x :: l,h=>by rw[uE,if_neg (h x (by simp)),Dc λ y hy=>h y (by simp[hy])]; rfl
theorem Jv{c:Ch}{x:Of}:∀ {l:List Of} {i:Nat},(∀ y∈l.take i,y.want≠c.want)->l[i]?=some x->x.want=c.want->uE l c=l.set i { x with v:=if cost c.p c.want>x.v then cost c.p c.want else x.v }
 | [],_,_,h,_=>by simp at h
 | y :: l,0,_,h,e=>by
  obtain rfl:y=x:=by simpa using h
  rw[uE,if_pos e]; rfl
 | y :: l,i+1,hn,h,e=>by
  rw[uE,if_neg (hn y (by simp)),Jv (l:=l) (i:=i) (λ z hz=>hn z (by simp[hz])) (by simpa using h) e]; rfl
theorem Gl(c:Ch):∀ l:List Of,(uE l c).length<=l.length+1
 | []=>Nat.le_refl _
 | x :: l=>by
  rw[uE]
  split
  ·simp
  ·have:=Gl c l; simp only[List.length_cons]; omega
theorem Av(c:Ch):∀ l:List Of,(uE l c).map Of.want=if c.want∈l.map Of.want then l.map Of.want else l.map Of.want++[c.want]
 | []=>rfl
 | x :: l=>by
  rw[uE]
  by_cases h:x.want=c.want
  ·have hm:c.want∈(x :: l).map Of.want:=by rw[List.map_cons,h]; exact List.mem_cons_self ..
   rw[if_pos h,if_pos hm]; rfl
  ·rw[if_neg h,List.map_cons,Av c l]
   by_cases g:c.want∈l.map Of.want
   ·rw[if_pos g,if_pos (by rw[List.map_cons]; exact List.mem_cons_of_mem _ g)]; rfl
   ·rw[if_neg g,if_neg (λ k=>by
     rw[List.map_cons] at k;rcases List.mem_cons.1 k with k|k
     ·exact h k.symm
     ·exact g k)]; rfl
theorem Jt:∀ {l:List Ch} {o:List Of},(o.map Of.want).Nodup->((l.foldl uE o).map Of.want).Nodup
 | [],_,h=>h
 | c :: l,o,h=>Jt (l:=l) (by
  rw[Av]
  split
  ·exact h
  ·rename_i g;rw[List.nodup_append];exact⟨h,by simp,λ a ha b hb=>by rw[List.mem_singleton.1 hb]; rintro rfl; exact g ha⟩)
theorem BF:∀ (l:List Ch) (o:List Of),(l.foldl uE o).length<=o.length+l.length
 | [],_=>Nat.le_refl _
 | c :: l,o=>by
  have h1:=BF l (uE o c);have h2:=Gl c o;rw[List.foldl_cons,List.length_cons]; omega
theorem Ig{l:List Of}(h:(l.map Of.want).Nodup)(p:Of->Bool):((l.filter p).map Of.want).Nodup:=(List.filter_sublist.map Of.want).nodup h
theorem Ma(l:List Ch):(Ju l).length<=l.length:=by
 have:=BF l [];have h2:=List.length_filter_le DX (l.foldl uE []);rw[Ju,BZ];simp only[List.length_nil,Nat.zero_add] at this; omega
theorem Dk{w:World}{a:OA}{c:Nat}{l:List Ch}(hr:CN w a l)(hl:l.length<=900)(ho:∀ c∈l,c.Ok) :
  CP 35 #[.slice a l.length c] w (λ r w'=>∃ a' c',r=.slice a' (Ju l).length c'/\St w w' (star (bf a' c' (Ju l)) emp)):=by
 refine qy ?_;unfold kX;refine aj (Hp hr (by omega) ho) ?_;rintro v w1 ⟨rfl,d1⟩;refine⟨_,rfl,cF rfl ⟨λ a2 l2 c2 n w2 m=>∃ k:Nat,n=k/\k<=l.length/\m=l.length-k/\l2=((l.take k).foldl uE []).length/\St w w2 (star (bf a2 c2 ((l.take k).foldl uE [])) emp),⟨l.length,0,rfl,by omega,by omega,rfl,St.cv (St.start' d1)⟩,?_⟩⟩;rintro w2 m a2 l2 c2 n ⟨k,rfl,hk,hm,rfl,s2⟩ -;have hol:((l.take k).foldl uE []).length<=k:=by
  have:=BF (l.take k) [];rw[List.length_take] at this;simp only[List.length_nil] at this; omega
 by_cases hlt:(k:Int)<(l.length:Int)
 ·have hx:l[k]?=some (l[k]'(by omega)):=gE (by omega);generalize l[k]'(by omega)=y at hx;obtain⟨p,hp,hcl⟩:=(hr.av s2.av).at hx;have oy:=ho y (List.mem_of_getElem? hx);have ef:(l.take (k+1)).foldl uE []=uE ((l.take k).foldl uE []) y:=kN (f:=uE) (a:=[]) hx;generalize(l.take k).foldl uE []=o at s2 hol ef;refine cT (dT hlt) ⟨λ a3 l3 c3 w3=>l3=(uE o y).length/\St w w3 (star (bf a3 c3 (uE o y)) emp),?_,ak hp ⟨by omega,by omega,y.p,y.want,hcl,s2.v8.ax Ai.cells.toArray λ r1 w4 s4=>s4.ay 0 rfl y.cells rfl y.one λ w5 s5=>⟨y.p,uG s5 0 rfl,y.want,bJ s5 0 rfl,aj (fS w5 oy.p oy.w) ?_⟩⟩⟩
  ·rintro w3 a3 l3 c3 ⟨rfl,s3⟩ -;exact⟨l.length-(k+1),by omega,k+1,aB ⟨by omega,by omega⟩,by omega,rfl,by rw[ef],by rw[ef]; exact s3⟩
  rintro v w6 ⟨rfl,c6⟩;have s6:=s5.quiet c6;refine⟨_,rfl,λ n w7 m=>∃ i:Nat,n=i/\i<=o.length/\m=o.length-i/\(∀ x∈o.take i,x.want≠y.want)/\St w w7 (Sep [ai r1 y.cells.toArray 123,bf a2 c2 o,emp]),⟨o.length,0,rfl,by omega,by omega,by simp,s6⟩,?_⟩;rintro w7 m2 n2 ⟨i,rfl,hi,hm2,hno,s7⟩ -
  by_cases hli:(i:Int)<(o.length:Int)
  ·have hxo:o[i]?=some (o[i]'(by omega)):=gE (by omega);generalize o[i]'(by omega)=x at hxo;have s8:=s7.quiet (aA.drew w7 []);obtain⟨q,hq,hcx⟩:=(St.rd Of.len (s8.out 1 rfl)).at hxo;have hw1:af w7.drew (Addr.add (Addr.add q (((i:Nat):Int).toNat*8)) 1) 0 x.want.vs:=aY _ 0 λ j v hj=>by
    have h6:j<6:=(List.getElem?_eq_some_iff.1 hj).1;have:=aL hcx (1+j) v (by
     match j,h6 with
     | 0,_|1,_|2,_|3,_|4,_|5,_=>exact hj)
    rw[Int.toNat_natCast,Addr.add_add,Addr.add_add];rw[Addr.add_add] at this;simpa[Nat.add_assoc] using this
   have hv1:w7.drew.cell? (Addr.add (Addr.add q (((i:Nat):Int).toNat*8)) 7)=some (iv x.v):=by
    have:=aL hcx 7 _ rfl;rw[Int.toNat_natCast];simpa using this
   refine cT (dT hli) (ak hq ⟨by omega,by omega,x.want,hw1,y.want,bJ s8 0 rfl,?_⟩);rw[I6.beq_eq]
   by_cases hw:x.want=y.want
   ·obtain⟨g,hg⟩:=(s8.out 1 rfl).mg (by omega:0<o.length);have hq2:q=⟨g,0,none⟩:=by rw[hg] at hq; exact(Option.some.inj hq).symm
    subst hg hq2;refine cT (dT hw) (ak rfl ⟨by omega,by omega,x.v,hv1,ak rfl ⟨by omega,by omega,?_⟩⟩);rw[Int.toNat_natCast,p8,bw];refine St.NJ (x':={ x with v:=if cost y.p y.want>x.v then cost y.p y.want else x.v }) (j:=7) Of.len hxo (by decide) rfl rfl (s8.out 1 rfl) λ w8 s9=>?_;have s10:St w w8 (Sep [ai r1 y.cells.toArray 123,bf (some ⟨g,0,none⟩) c2 (o.set i { x with v:=if cost y.p y.want>x.v then cost y.p y.want else x.v }),emp]):=by
     exact St.back (i:=1) s9 (by show 1<3; decide)
    rw[Jv hno hxo hw];exact⟨by rw[List.length_set],(s10.au [1,2]).pair⟩
   ·refine cF (dF hw) ⟨o.length-(i+1),by omega,i+1,aB ⟨by omega,by omega⟩,by omega,rfl,λ z hz=>?_,s8⟩;rw[aG hxo] at hz;rcases List.mem_append.1 hz with h|h
    ·exact hno z h
    ·rw[List.mem_singleton.1 h]; exact hw
  ·obtain rfl:o.length=i:=by omega
   rw[List.take_length] at hno;refine cF (dF hli) ⟨y.want,bJ s7 0 rfl,cK En Of.len (x:=⟨0,y.want,cost y.p y.want⟩) (Of.one _) ((s7.au [1,2]).pair) (by omega) (by omega) (λ a' c' w10 s10=>?_) rfl⟩;rw[Dc hno];exact⟨rfl,s10⟩
 ·obtain rfl:l.length=k:=by omega
  rw[List.take_length] at s2 ⊢;have hnd:(((l.foldl uE []).filter DX).map Of.want).Nodup:=Ig (Jt (by simp)) DX;refine cF (dF hlt) (aj (O9 s2 (by rw[List.take_length] at hol; omega)) ?_);rintro _ w3 ⟨rfl,s3⟩;have hfl:=List.length_filter_le DX (l.foldl uE []);rw[List.take_length] at hol;refine⟨_,_,_,rfl,aj (Ho s3 (by omega) hnd (by exact enters_of func69 (by kernel_rfl) rfl) Ra) ?_⟩;rintro _ w4 ⟨rfl,s4⟩;refine⟨rfl,_,_,?_,s4⟩;rw[Ju,BZ]
end Go.Proofs.YtmffhopdpbikgaaGreatDoor
namespace Go.Vc
open Go
section
variable {P:Program} {t kt et:TypeId} {w0 w:World} {B:aD} {r:Nat} {l:List KV}
theorem HW(hT:NZ P t kt et)(s:St w0 w (star (mapA r l) B))(u:I6){R:Int->Bool->World->Prop}(h:R ((bL l u).getD 0) (bL l u).isSome w) :
  aP P (Instr.lookup t (.map (some r)) (j3 u) true) w λ e w'=>∃ (n:Int) (b:Bool),e=.tuple #[iv n,.bool b]/\R n b w':=by
 obtain⟨⟨⟨es,cl⟩,hok⟩,s'⟩:=s.ex;have ho:w.heap[r]?=some (.map es cl):=s'.obj;have hz:(zeroValue et).run P w=.ok (iv 0) w:=by
  have:=hT.z
  cases hi:P.info? et with
  | none=>simp[hi] at this
  | some i=>simp[hi] at this; simp[zeroValue,typeInfo,hi,this]
 have hc:=hT.ck es.isEmpty u w;rcases yE hT u w hok.kv with⟨v,j,h1,h2,_⟩|⟨h1,h2⟩
 ·refine⟨.tuple #[iv v,.bool true],w,?_,v,true,rfl,by rwa [h1] at h⟩;simp[Instr.lookup,aC hT.u,ho,hc,h2,getObj,Sem.run]
 ·refine⟨.tuple #[iv 0,.bool false],w,?_,0,false,rfl,by rwa [h1] at h⟩;simp[Instr.lookup,aC hT.u,ho,hc,h2,hz,getObj,Sem.run]
theorem MQ{ty:TypeId}(hT:NZ P t kt et)(s:St w0 w (star (mapA r l) B)){R:Int->World->Prop}(h:R (l.length:Nat) w) :
  aP P (Builtin.len_ #[t] ty #[.map (some r)]) w λ e w'=>∃ n:Int,e=iv n/\R n w':=by
 obtain⟨⟨⟨es,cl⟩,hok⟩,s'⟩:=s.ex;have ho:w.heap[r]?=some (.map es cl):=s'.obj;have hl:es.size=l.length:=by have:=E9 hok.kv; simpa using this
 refine⟨iv (l.length:Nat),w,?_,_,rfl,h⟩;simp[Builtin.len_,aC hT.u,ho,getObj,Sem.run,goInt,hl]
theorem MS(s:St w0 w (star (mapA r l) B)):(l.map (·.1)).Nodup:=by
 obtain⟨⟨_,hok⟩,_⟩:=s.ex;exact hok.ky
theorem St.Qy(s:St w0 w (star (bg r (.map #[] 0)) B)):St w0 w (star (mapA r []) B) :=
 St.qx (f:=λ (x:{ p:Array MapEntry×Nat // Bt p.1.toList p.2 ([]:List KV) })=>bg r (.map x.1.1 x.1.2)) ⟨(#[],0),⟨rfl,by simp,by simp,by simp⟩⟩ s
end
def bq:List Nat->List (List KV)->aD
 | r :: rs,l :: L=>star (mapA r l) (bq rs L)
 | _,_=>emp
theorem DP:∀ {rs:List Nat} {L:List (List KV)} {i r:Nat} {l:List KV},rs[i]?=some r->L[i]?=some l->∃ X:aD,∀ l',aT (bq rs (L.set i l')) (star (mapA r l') X)/\aT (star (mapA r l') X) (bq rs (L.set i l'))
 | [],_,_,_,_,h,_=>by simp at h
 | _ :: _,[],_,_,_,_,h=>by simp at h
 | r0 :: rs,l0 :: L,0,r,l,h,k=>by
  obtain rfl:r0=r:=by simpa using h
  exact⟨bq rs L,λ l'=>⟨aT.refl _,aT.refl _⟩⟩
 | r0 :: rs,l0 :: L,i+1,r,l,h,k=>by
  obtain⟨X,hX⟩:=DP (rs:=rs) (L:=L) (i:=i) (r:=r) (l:=l) (by simpa using h) (by simpa using k);exact⟨star (mapA r0 l0) X,λ l'=>⟨(aT.right (hX l').1).trans aT.zU,aT.zU.trans (aT.right (hX l').2)⟩⟩
theorem yW{r:Nat}{l:List KV}:∀ {rs:List Nat} {L:List (List KV)},rs.length=L.length->aT (star (mapA r l) (bq rs L)) (bq (rs++[r]) (L++[l]))
 | [],[],_=>aT.refl _
 | [],_ :: _,h=>by simp at h
 | _ :: _,[],h=>by simp at h
 | r0 :: rs,l0 :: L,h=>aT.zU.trans (aT.right (yW (by simpa using h)))
theorem wg{α:Type}[BEq α][LawfulBEq α]:∀ {l S:List α},l.Nodup->(∀ x∈l,x∈S)->S.length<=l.length->S.Perm l
 | [],S,_,_,h=>by
  have:S=[]:=List.length_eq_zero_iff.1 (by simpa using h);rw[this]
 | x :: l,S,hn,hs,h=>by
  rw[List.nodup_cons] at hn;have hx:=hs x (by simp);have hp:=List.length_pos_of_mem hx;refine(List.perm_cons_erase hx).trans (List.Perm.cons x (wg hn.2 (λ y hy=>(List.mem_erase_of_ne (λ e=>hn.1 (by rw[<- e]; exact hy))).2 (hs y (by simp[hy]))) ?_));rw[List.length_erase_of_mem hx];simp only[List.length_cons] at h; omega
end Go.Vc
namespace Go.Proofs.YtmffhopdpbikgaaGreatDoor
open Go Go.Vc _root_.Go.Proofs.Tryz
theorem RR:NZ prog 118 34 2:=⟨underlying118,I3.k,I3.z,I3.eq,I3.ck⟩
theorem Sk:hU prog 115 118 (.map none) 1 8:=hU.mk' underlying115 (by kernel_rfl) rfl (by decide)
abbrev Su (r:Nat):List Value:=[.map (some r)]
theorem Fi(r:Nat):(Su r).length=1:=rfl
abbrev cS (a:OA) (c:Nat) (rs:List Nat):aD:=bM 118 1 Su a c rs
def Ss(S:Se)(v:Value):Array Value:=#[.slice S.a1 S.ps.length S.c1,.slice S.a2 S.bd.length S.c2,.slice S.a3 S.cp.length S.c3,.slice S.a4 S.sa.length S.c4,v]
theorem Jm{w:World}{S:Se}(h:S.In w)(hz:S.Sz) :
  CP 63 #[.agg S.arr] w (λ r w'=>∃ S' : Se,S'.er=S.er/\r=.agg S'.arr/\St w w' (held S'.In)):=by
 refine uy ?_;unfold qH;obtain⟨z1,z2,z3,z4⟩:=hz;refine(St.start w).one.ax S.arr λ r1 w1 s1=>s1.ax #[.slice none 0 0,.slice none 0 0,.slice none 0 0,.slice none 0 0] λ r2 w2 s2=>?_;have s3:=s2.quiet (aA.drew w2 []);refine⟨_,_,_,s3.ag 1 rfl 0,_,_,_,s3.ag 1 rfl 1,_,_,_,s3.ag 1 rfl 2,_,_,_,s3.ag 1 rfl 3,aj (AD (h.av s3.av).ps.fl (by omega)) ?_⟩;rintro v w3 ⟨a1,c1,rfl,k1⟩;have s4:St w w3 (Sep [_,_,_,_]):=s3.and k1;refine⟨_,_,_,rfl,s4.ag 2 rfl 3,s4.ag 2 rfl 2,s4.ag 2 rfl 1,aj (AA (h.av s4.av).bd.fl (by omega)) ?_⟩;rintro v w4 ⟨a2,c2,rfl,k2⟩;have s5:St w w4 (Sep [_,_,_,_,_]):=s4.and k2;refine⟨_,_,_,rfl,s5.ag 3 rfl 3,s5.ag 3 rfl 2,aj (AB (h.av s5.av).cp.fl (by omega)) ?_⟩;rintro v w5 ⟨a3,c3,rfl,k3⟩;have s6:St w w5 (Sep [_,_,_,_,_,_]):=s5.and k3;refine⟨_,_,_,rfl,s6.ag 4 rfl 3,aj (Az (h.av s6.av).sa.fl (by omega)) ?_⟩;rintro v w6 ⟨a4,c4,rfl,k4⟩;have s7:St w w6 (Sep [_,_,_,_,_,_,_]):=s6.and k4;let S' : Se:={ S with a1:=a1,c1:=c1,a2:=a2,c2:=c2,a3:=a3,c3:=c3,a4:=a4,c4:=c4 };refine⟨_,_,_,rfl,s7.ay 4 rfl S'.arr.toList rfl (by simp[S',Se.arr,Value.oneCell']) λ w7 s8=>⟨_,_,_,_,_,_,_,_,_,_,_,_,s8.cellsIn 4 rfl,S',rfl,rfl,?_⟩⟩;have q4:=St.mU (s8.out 0 rfl); have q3:=St.mU (s8.out 1 rfl); have q2:=St.mU (s8.out 2 rfl); have q1:=St.mU (s8.out 3 rfl);exact((s8.au [0,1,2,3]).held ((bD T3.len).cons ((bD T3.len).cons ((bD Br.len).cons ((bD Pr.len).cons gR.nil))))).weak (pS λ w' ⟨i4,i3,i2,i1,_⟩=>⟨dx.of i1 h.ps.in,kf.of i2 h.bd.in,CR.of i3,CR.of i4,q1.1,q2.1,q3.1,q4.1⟩)
theorem FM{S S' : Se}(h:S'.er=S.er):S'.ps=S.ps/\S'.bd=S.bd/\S'.cp=S.cp/\S'.sa=S.sa :=
 ⟨(congrArg Se.ps h:S'.er.ps=S.er.ps),(congrArg Se.bd h:S'.er.bd=S.er.bd),(congrArg Se.cp h:S'.er.cp=S.er.cp),(congrArg Se.sa h:S'.er.sa=S.er.sa)⟩
theorem Ru{S S' : Se}(h:S'.er=S.er)(ho:S.Ok):S'.Ok:=by
 obtain⟨e1,e2,e3,e4⟩:=FM h;exact⟨by rw[e1]; exact ho.ps,by rw[e2]; exact ho.bd,by rw[e2,e3]; exact ho.cp,by rw[e1,e4]; exact ho.sa⟩
theorem OP{S S' : Se}(h:S'.er=S.er)(n:Nat)(y:Br)(u:I6):cD S' n y u=cD S n y u:=by
 obtain⟨e1,e2,e3,e4⟩:=FM h;unfold cD;rw[e1,e3,e4]
abbrev nR (b:Nat) (S:Se) (a:OA) (c:Nat) (rs:List Nat):aD:=ai b (Ss S (.slice a rs.length c)) 117
theorem O0{w:World}{S:Se}(h:S.In w)(hs:S.Ok) :
  CP 33 #[.agg S.arr] w (λ r w'=>∃ (b:Nat) (S' : Se) (a:OA) (c:Nat) (rs:List Nat),r=.tuple #[pt b,iv 0]/\S'.er=S.er/\rs.length=S.bd.length /\
   St w w' (Sep [nR b S' a c rs,cS a c rs,bq rs (List.replicate rs.length []),held S'.In,emp])):=by
 refine xT ?_;unfold vF;have z2:=hs.bd.l2;refine(St.start w).one.ax S.arr λ r1 w1 s1=>⟨_,_,_,_,_,_,_,_,_,_,_,_,s1.cellsIn 0 rfl,aj (oZ (h.av s1.av)) ?_⟩;rintro v w2 ⟨⟨e,rfl,he⟩,c2⟩;obtain rfl:=he.2 hs;have s2:=s1.quiet c2;refine⟨_,rfl,cF rfl ⟨_,_,_,_,_,_,_,_,_,_,_,_,s2.cellsIn 0 rfl,aj (Jm (h.av s2.av) hs.sz) ?_⟩⟩;rintro v w3 ⟨S',eS,rfl,k3⟩;have s3:St w w3 (Sep [held S'.In,ai r1 S.arr 75,emp]):=s2.and k3;refine⟨_,_,_,_,_,_,_,_,_,_,_,_,rfl,s3.ax (Ss S' (.slice none 0 0)) λ r2 w4 s4=>⟨_,_,_,s4.ag 2 rfl 1,?_⟩⟩;have s5:St w w4 (Sep [cS none 0 [],nR r2 S' none 0 [],bq [] [],held S'.In,emp]):=St.cv (s4.au [0,9,1,9]);refine⟨λ n w5 m=>∃ (k:Nat) (a:OA) (c:Nat) (rs:List Nat),n=k/\k<=S.bd.length/\m=S.bd.length-k/\rs.length=k/\St w w5 (Sep [cS a c rs,nR r2 S' a c rs,bq rs (List.replicate rs.length []),held S'.In,emp]),⟨S.bd.length,0,none,0,[],rfl,by omega,by omega,rfl,s5⟩,?_⟩;clear s5 s4;rintro w5 m n ⟨k,a,c,rs,rfl,hk,hm,hrs,s5⟩ -
 by_cases hlt:(k:Int)<(S.bd.length:Int)
 ·refine cT (dT hlt) ⟨_,_,_,s5.ag 1 rfl 4,kU s5 λ r w6 _ s6=>?_⟩;have s7:St w w6 (Sep [mapA r [],cS a c rs,nR r2 S' a c rs,bq rs (List.replicate rs.length []),held S'.In,emp]):=St.Qy s6;refine cK Sk Fi (x:=r) (by simp[Value.oneCell']) (s7.out 1 rfl) (by omega) (by omega) (λ a' c' w8 s8=>?_) rfl;have s8:St w w8 (Sep [cS a' c' (rs++[r]),mapA r [],nR r2 S' a c rs,bq rs (List.replicate rs.length []),held S'.In,emp]):=s8;refine s8.aJ 2 rfl (by show 4<5; decide) rfl λ w9 s9=>⟨S.bd.length-(k+1),by omega,k+1,a',c',rs++[r],aB ⟨by omega,by omega⟩,by omega,rfl,by rw[List.length_append,hrs]; rfl,?_⟩;have s9:St w w9 (Sep [cS a' c' (rs++[r]),mapA r [],nR r2 S' a' c' (rs++[r]),bq rs (List.replicate rs.length []),held S'.In,emp]):=s9;have s10:=St.weak (St.join (s9.au [1,3,0,2,4,5])) (bG.left (yW (by rw[List.length_replicate])).weak);have e:List.replicate rs.length ([]:List KV)++[[]]=List.replicate (rs++[r]).length []:=by rw[List.length_append,List.length_singleton,List.replicate_succ']
  rw[e] at s10;have s10:St w w9 (Sep [bq (rs++[r]) (List.replicate (rs++[r]).length []),cS a' c' (rs++[r]),nR r2 S' a' c' (rs++[r]),held S'.In,emp]):=s10;exact s10.au [1,2,0,3,4]
 ·obtain rfl:k=S.bd.length:=by omega
  exact cF (dF hlt) ⟨r2,S',a,c,rs,rfl,eS,hrs,s5.au [1,0,2,3,4]⟩
theorem Jn{w0 w:World}{l:List aD}(s:St w0 w (Sep l)){b:Nat}{S:Se}{a:OA}{c:Nat}{rs:List Nat}(i:Nat)(e:l[i]?=some (nR b S a c rs)){k:Nat}(hk:k<rs.length) :
  CP 74 #[pt b,iv k] w (λ r w'=>r=.bool true/\w' = w):=by
 refine qe ?_;unfold kr;exact cT (dT (by omega)) ⟨_,_,_,s.ag i e 4,by rw[dT (by omega)],rfl⟩
theorem o5{α:Type}{L:List α}{i:Nat}{l:α}(hL:L[i]?=some l):L.set i l=L:=by
 refine List.ext_getElem? λ j=>?_;rw[List.getElem?_set]
 split
 ·rename_i e; subst e; rw[if_pos (List.getElem?_eq_some_iff.1 hL).1,hL]
 ·rfl
theorem DQ{w0 w:World}{B:aD}{rs:List Nat}{L:List (List KV)}{i r:Nat}{l:List KV}(hr:rs[i]?=some r)(hL:L[i]?=some l)(s:St w0 w (star (bq rs L) B)) :
  ∃ X,St w0 w (star (mapA r l) (star X B))/\∀ w' l' B',St w0 w' (star (mapA r l') (star X B'))->St w0 w' (star (bq rs (L.set i l')) B'):=by
 obtain⟨X,hX⟩:=DP hr hL;refine⟨X,?_,λ w' l' B' s'=>?_⟩
 ·have h:=(hX l).1;rw[o5 hL] at h;exact(s.weak (bG.left h.weak)).assoc
 ·exact(s'.eqv aT.assoc').weak (bG.left (hX l').2.weak)
def vj(S:Se)(n:Nat)(y:Br)(l:List KV)(u:I6)(v:Int):List KV :=
 if (v<1\/v>1000000)\/cD S n y u≠0\/u=z6\/(y.bud≠0/\y.bud<v)\/((bL l u).isSome=false/\40<=l.length) then l
 else j6 l u (if v>(bL l u).getD 0 then v else (bL l u).getD 0)
theorem K6(l:List KV)(u:I6)(v:Int):(j6 l u v).length=if (bL l u).isSome=true then l.length else l.length+1:=by
 unfold j6
 split
 ·rw[List.length_map]
 ·rw[List.length_append]; rfl
theorem KM{S:Se}{n:Nat}{y:Br}{l:List KV}{u:I6}{v:Int}(h:l.length<=40):(vj S n y l u v).length<=40:=by
 unfold vj
 split
 ·exact h
 ·rename_i g;rw[K6]
  split
  ·exact h
  ·rename_i g2
   by_cases h4:40<=l.length
   ·exact absurd (.inr (.inr (.inr (.inr ⟨by simpa using g2,h4⟩)))) g
   ·omega
theorem O2{w0 w:World}{B:aD}{b:Nat}{S:Se}{a:OA}{c:Nat}{rs:List Nat}{L:List (List KV)}(s:St w0 w (Sep [nR b S a c rs,cS a c rs,bq rs L,held S.In,B]))(hs:S.Ok){i r:Nat}{l:List KV}{y:Br}(hr:rs[i]?=some r)(hL:L[i]?=some l)(hy:S.bd[i]?=some y)(u:I6)(v:Int) :
  CP 38 #[pt b,iv i,.agg u.vs.toArray,iv v] w (λ r w'=>∃ k:Int,r=iv k/\St w0 w' (Sep [nR b S a c rs,cS a c rs,bq rs (L.set i (vj S i y l u v)),held S.In,B])):=by
 refine qc ?_;unfold kq;have hi:=(List.getElem?_eq_some_iff.1 hr).1;have hn:=(List.getElem?_eq_some_iff.1 hy).1;have z2:=hs.bd.l2;have same:∀ {r1:Nat} {w' : World} {k:Int},(v<1\/v>1000000)\/cD S i y u≠0\/u=z6\/(y.bud≠0/\y.bud<v)\/((bL l u).isSome=false/\40<=l.length) ->
   St w0 w' (Sep [ai r1 u.vs.toArray 34,nR b S a c rs,cS a c rs,bq rs L,held S.In,B]) ->
   ∃ k2:Int,iv k=iv k2/\St w0 w' (Sep [nR b S a c rs,cS a c rs,bq rs (L.set i (vj S i y l u v)),held S.In,B]):=λ g s=>by
  rw[vj,if_pos g,o5 hL];exact⟨_,rfl,s.au [1,2,3,4,5]⟩
 refine s.ax u.vs.toArray λ r1 w1 s1=>aj (Jn s1 1 rfl hi) ?_;rintro _ w2 ⟨rfl,rfl⟩;have s1:St w0 w2 (Sep [ai r1 u.vs.toArray 34,nR b S a c rs,cS a c rs,bq rs L,held S.In,B]):=s1;refine⟨_,rfl,cF rfl ⟨λ x w3=>x=decide (v<1\/v>1000000)/\w3=w2,?_,?_⟩⟩
 rotate_left
 ·by_cases h1:v<1
  ·exact cT (dT h1) ⟨by rw[dT (Or.inl h1)],rfl⟩
  ·refine cF (dF h1) ⟨?_,rfl⟩
   by_cases h2:v>1000000
   ·rw[dT h2,dT (Or.inr h2)]
   ·rw[dF h2,dF (by omega)]
 rintro w3 x ⟨rfl,rfl⟩ -
 by_cases hv:v<1\/v>1000000
 ·exact cT (dT hv) (same (.inl hv) s1)
 have s3:=s1.quiet (aA.drew w3 []);have hI:S.In w3.drew:=s3.bK 4 rfl;refine cF (dF hv) ⟨_,_,_,_,_,_,_,_,_,_,_,_,(s3.aF 1 0 rfl rfl:af _ _ 0 S.arr.toList),u,s3.cellsIn 0 rfl,aj (pK hI hs hy u) ?_⟩;rintro _ w4 ⟨rfl,c4⟩;have s4:=s3.quiet c4;refine⟨_,rfl,?_⟩
 by_cases ha:cD S i y u=0
 rotate_left
 ·exact cT (by simpa using ha) (same (.inr (.inl ha)) s4)
 have s5:=s4.quiet (aA.drew w4 []);have rdm:∀ {w' : World},St w0 w' (Sep [ai r1 u.vs.toArray 34,nR b S a c rs,cS a c rs,bq rs L,held S.In,B])->∃ q,a=some q/\w'.cell? (Addr.add q (((i:Nat):Int).toNat*1))=some (.map (some r)):=λ s=>by
  obtain⟨q,hq,hc⟩:=(St.rd Fi (s.out 2 rfl)).at hr;have:=aL hc 0 _ rfl;refine⟨q,hq,?_⟩;rw[Int.toNat_natCast];rw[Addr.add_add] at this;simpa using this
 obtain⟨q,hq,hcl⟩:=rdm s5;refine cF (by simpa using ha) ⟨_,_,_,s5.ag 1 rfl 4,ak hq ⟨by omega,by omega,_,hcl,u,s5.cellsIn 0 rfl,?_⟩⟩;obtain⟨X,sX,back⟩:=DQ hr hL (s5.out 3 rfl);refine HW RR sX u ?_;have hI5:S.In w4.drew:=s5.bK 4 rfl;obtain⟨_,q2,hq2,hcy⟩:=hI5.bd i y hy;have cbud:w4.drew.cell? (Addr.add (Addr.add q2 (((i:Nat):Int).toNat*4)) 2)=some (iv y.bud):=by
  have:=aL hcy 2 _ rfl
  rwa [Nat.zero_add] at this
 refine⟨_,_,_,s5.ag 1 rfl 1,ak hq2 ⟨by omega,by omega,_,cbud,u,s5.cellsIn 0 rfl,?_⟩⟩;rw[I6.beq_eq]
 by_cases hu:u=z6
 ·exact cT (dT hu) (same (.inr (.inr (.inl hu))) s5)
 refine cF (dF hu) ⟨λ x w6=>x=decide (y.bud≠0/\y.bud<v)/\w6=w4.drew,?_,?_⟩
 rotate_left
 ·by_cases h1:y.bud=0
  ·exact cF (by simpa using h1) ⟨by rw[dF λ h=>h.1 h1],rfl⟩
  ·refine cT (by simpa using h1) ⟨?_,rfl⟩
   by_cases h2:y.bud<v
   ·rw[dT h2,dT ⟨h1,h2⟩]
   ·rw[dF h2,dF λ h=>h2 h.2]
 rintro w6 x ⟨rfl,rfl⟩ -
 by_cases hb:y.bud≠0/\y.bud<v
 ·exact cT (dT hb) (same (.inr (.inr (.inr (.inl hb)))) s5)
 refine cF (dF hb) ⟨λ x w7=>x=decide ((bL l u).isSome=false/\40<=l.length)/\w7=w4.drew,?_,?_⟩
 rotate_left
 ·by_cases h1:(bL l u).isSome=true
  ·exact cF (by rw[h1]; rfl) ⟨by rw[dF (by rw[h1]; rintro⟨h,_⟩; cases h)],rfl⟩
  ·obtain⟨q4,hq4,hcl4⟩:=rdm s5;refine cT (by simpa using h1) ⟨_,_,_,s5.ag 1 rfl 4,ak hq4 ⟨by omega,by omega,_,hcl4,?_⟩⟩;refine MQ RR sX ⟨?_,rfl⟩;have h1:(bL l u).isSome=false:=by simpa using h1
   by_cases h2:40<=l.length
   ·rw[dT (by omega),dT ⟨h1,h2⟩]
   ·rw[dF (by omega),dF λ h=>h2 h.2]
 rintro w7 x ⟨rfl,rfl⟩ -
 by_cases hf:(bL l u).isSome=false/\40<=l.length
 ·exact cT (dT hf) (same (.inr (.inr (.inr (.inr hf)))) s5)
 have s8:=s5.quiet (aA.drew w4.drew []);obtain⟨q5,hq5,hcl5⟩:=rdm s8;refine cF (dF hf) ⟨_,_,_,s8.ag 1 rfl 4,ak hq5 ⟨by omega,by omega,_,hcl5,u,s8.cellsIn 0 rfl,?_⟩⟩;have sX8:=sX.quiet (aA.drew w4.drew []);refine G6 RR sX8 u _ λ w9 s9=>⟨0,rfl,?_⟩;have s10:=back _ _ _ s9;have e:vj S i y l u v=j6 l u (if v>(bL l u).getD 0 then v else (bL l u).getD 0):=by
  rw[vj,if_neg];rintro(h|h|h|h|h)
  ·exact hv h
  ·exact h ha
  ·exact hu h
  ·exact hb h
  ·exact hf h
 rw[e];have s11:St w0 w9 (Sep [bq rs (L.set i (j6 l u (if v>(bL l u).getD 0 then v else (bL l u).getD 0))),ai r1 u.vs.toArray 34,nR b S a c rs,cS a c rs,held S.In,B]):=s10;exact s11.au [2,3,0,4,5]
def EH(i:Nat)(p:KV):Of:=⟨i,p.1,p.2⟩
def Jr(i:Nat)(l:List KV):List Of:=Kb (l.map (EH i))
theorem BB(i:Nat)(l:List KV):(Jr i l).length=l.length:=by rw[Jr,BZ,List.length_map]
theorem HS{l m:List Of}(hn:(l.map Of.want).Nodup)(hp:m.Perm l):Kb m=Kb l :=
 Cx (B0 ((hp.map Of.want).nodup_iff.2 hn)) (B0 hn) ((dZ m).trans (hp.trans (dZ l).symm))
theorem HI{w0 w:World}{B:aD}{b:Nat}{S:Se}{a:OA}{c:Nat}{rs:List Nat}{L:List (List KV)}(s:St w0 w (Sep [nR b S a c rs,cS a c rs,bq rs L,B])){i r:Nat}{l:List KV}(hr:rs[i]?=some r)(hL:L[i]?=some l)(hl:l.length<=40) :
  CP 76 #[pt b,iv i] w (λ x w'=>∃ a' c',x=.slice a' (Jr i l).length c'/\St w0 w' (Sep [bf a' c' (Jr i l),nR b S a c rs,cS a c rs,bq rs L,B])):=by
 refine lQ ?_;unfold gH;have hi:=(List.getElem?_eq_some_iff.1 hr).1;refine aj (Jn s 0 rfl hi) ?_;rintro _ w1 ⟨rfl,rfl⟩;obtain⟨q,hq,hcl0⟩:=(St.rd Fi (s.out 1 rfl)).at hr;have hcl:w1.cell? (Addr.add q (((i:Nat):Int).toNat*1))=some (.map (some r)):=by
  have:=aL hcl0 0 _ rfl;rw[Int.toNat_natCast];rw[Addr.add_add] at this;simpa using this
 refine⟨_,rfl,cF rfl ⟨_,_,_,s.ag 0 rfl 4,ak hq ⟨by omega,by omega,_,hcl,?_⟩⟩⟩;obtain⟨X,sX,back⟩:=DQ hr hL (s.out 2 rfl);have hnd:=MS sX;refine gZ RR sX λ it w2 s2=>?_;have s2:St w0 w2 (Sep [uR r it l [],X,nR b S a c rs,cS a c rs,B]):=s2;refine⟨λ a2 l2 c2 w3 m=>∃ T:List KV,l2=(T.map (EH i)).length/\T.length<=l.length/\m=l.length-T.length/\(∀ p∈T,p∈l)/\St w0 w3 (Sep [bf a2 c2 (T.map (EH i)),uR r it l T,X,nR b S a c rs,cS a c rs,B]),⟨l.length,[],rfl,by simp,rfl,by simp,St.cv s2⟩,?_⟩;rintro w3 m a2 l2 c2 ⟨T,rfl,hT,hm,hsub,s3⟩ -;have hTl:(T.map (EH i)).length=T.length:=List.length_map _;refine kV (s3.zU) (λ hend=>?_) (λ p hp hlen w4 s4=>?_)
 ·have hlnd:l.Nodup:=by
   unfold List.Nodup at hnd ⊢;rw[List.pairwise_map] at hnd;exact hnd.imp λ h e=>h (by rw[e])
  have hperm:T.Perm l:=wg hlnd hend hT;have hw:∀ m:List KV,(m.map (EH i)).map Of.want=m.map (·.1):=λ m=>by rw[List.map_map]; rfl
  have hn2:((l.map (EH i)).map Of.want).Nodup:=by rw[hw]; exact hnd
  have hn1:((T.map (EH i)).map Of.want).Nodup:=by rw[hw]; exact(hperm.map _).nodup_iff.2 hnd
  refine aj (Ho s3 (by omega) hn1 (by exact enters_of func112 (by kernel_rfl) rfl) Q5) ?_;rintro _ w5 ⟨rfl,s5⟩;have e:Kb (T.map (EH i))=Jr i l:=HS hn2 (hperm.map _);rw[e] at s5;refine⟨rfl,a2,c2,?_,?_⟩
  ·rw[BB,hTl,hperm.length_eq]
  ·have s6:=back _ l _ ((St.uS s5.zU).eqv (aT.right aT.zU));rw[o5 hL] at s6;have s7:St w0 w5 (Sep [bq rs L,bf a2 c2 (Jr i l),nR b S a c rs,cS a c rs,B]):=s6;exact s7.au [1,2,3,0,4]
 ·have s4:St w0 w4 (Sep [uR r it l (T++[p]),bf a2 c2 (T.map (EH i)),X,nR b S a c rs,cS a c rs,B]):=s4;refine s4.ax z6.vs.toArray λ r2 w7 s7=>s7.ay 0 rfl p.1.vs rfl (I6.one _) λ w8 s8=>⟨p.1,s8.cellsIn 0 rfl,cK En Of.len (x:=EH i p) (Of.one _) (s8.out 2 rfl) (by omega) (by omega) (λ a' c' w9 s9=>?_) rfl⟩;have s9:St w0 w9 (Sep [bf a' c' (T.map (EH i)++[EH i p]),ai r2 p.1.vs.toArray 34,uR r it l (T++[p]),X,nR b S a c rs,cS a c rs,B]):=s9;have e:T.map (EH i)++[EH i p]=(T++[p]).map (EH i):=by rw[List.map_append]; rfl
  rw[e] at s9 ⊢;refine⟨l.length-(T.length+1),by omega,T++[p],rfl,by rw[List.length_append,List.length_singleton]; omega,by rw[List.length_append]; rfl,λ y hy=>?_,s9.au [0,2,3,4,5,6]⟩;rcases List.mem_append.1 hy with h|h
  ·exact hsub y h
  ·rw[List.mem_singleton.1 h]; exact hp
def ru(L:List (List KV)):Nat->List Of
 | 0=>[]
 | k+1=>ru L k++Jr k (L.getD k [])
def Jf(L:List (List KV)):List Of:=ru L L.length
theorem xM{L:List (List KV)}(h:∀ l∈L,l.length<=40):∀ k,(ru L k).length<=k*40
 | 0=>Nat.le_refl _
 | k+1=>by
  have:=xM h k;rw[ru,List.length_append,BB];have h2:(L.getD k []).length<=40:=by
   rw[List.getD_eq_getElem?_getD]
   cases hx:L[k]? with
   | none=>show 0<=40; decide
   | some l=>exact h l (List.mem_of_getElem? hx)
  omega
theorem OV{w0 w:World}{B:aD}{b:Nat}{S:Se}{a:OA}{c:Nat}{rs:List Nat}{L:List (List KV)}(s:St w0 w (Sep [nR b S a c rs,cS a c rs,bq rs L,B]))(hrl:rs.length=L.length)(h8:rs.length<=8)(h40:∀ l∈L,l.length<=40) :
  CP 39 #[pt b] w (λ x w'=>∃ a' c',x=.slice a' (Jf L).length c'/\St w0 w' (Sep [bf a' c' (Jf L),nR b S a c rs,cS a c rs,bq rs L,B])):=by
 refine p9 ?_;unfold kn;refine⟨_,_,_,s.ag 0 rfl 4,?_⟩;refine⟨λ a2 l2 c2 n w1 m=>∃ k:Nat,n=k/\k<=rs.length/\m=rs.length-k/\l2=(ru L k).length/\St w0 w1 (Sep [bf a2 c2 (ru L k),nR b S a c rs,cS a c rs,bq rs L,B]),⟨rs.length,0,rfl,by omega,by omega,rfl,St.cv s⟩,?_⟩;rintro w1 m a2 l2 c2 n ⟨k,rfl,hk,hm,rfl,s1⟩ -;have hle:=xM h40 k
 by_cases hlt:(k:Int)<(rs.length:Int)
 ·have hr:rs[k]?=some (rs[k]'(by omega)):=gE (by omega);have hL:L[k]?=some (L.getD k []):=getD_at (by omega);have hl:=h40 _ (List.mem_of_getElem? hL);generalize rs[k]'(by omega)=r at hr;have s2:St w0 w1 (Sep [nR b S a c rs,cS a c rs,bq rs L,Sep [bf a2 c2 (ru L k),B]]):=((s1.au [1,2,3,0,4]).split [_,_,_]).open;refine cT (dT hlt) (aj (HI s2 hr hL hl) ?_);rintro _ w2 ⟨a',c',rfl,s3⟩;have s4:St w0 w2 (Sep [bf a' c' (Jr k (L.getD k [])),nR b S a c rs,cS a c rs,bq rs L,bf a2 c2 (ru L k),B]):=St.cat (l:=[bf a' c' (Jr k (L.getD k [])),nR b S a c rs,cS a c rs,bq rs L]) (St.shut (l:=[bf a' c' (Jr k (L.getD k [])),nR b S a c rs,cS a c rs,bq rs L]) s3);have hbl:=BB k (L.getD k []);refine⟨_,_,_,rfl,dD En Of.len Of.one (s4.out 4 rfl) (St.rd Of.len (s4.out 0 rfl)) (by omega) (by omega) λ a3 c3 w3 s5=>?_⟩;have s5:St w0 w3 (Sep [bf a3 c3 (ru L (k+1)),bf a' c' (Jr k (L.getD k [])),nR b S a c rs,cS a c rs,bq rs L,B]):=s5;exact⟨rs.length-(k+1),by omega,k+1,aB ⟨by omega,by omega⟩,by omega,rfl,rfl,s5.au [0,2,3,4,5]⟩
 ·obtain rfl:k=rs.length:=by omega
  have e:ru L rs.length=Jf L:=by rw[hrl]; rfl
  rw[e] at s1 ⊢;exact cF (dF hlt) ⟨a2,c2,rfl,s1⟩
def dr(S:Sx)(C:Ck)(i:Nat):List Of :=
 Ju (qL C i)++(if (S.bd.getD i bF).has=true then (if oM (S.bd.getD i bF).x (aQ S.s.ps)=0 then oN (S.bd.getD i bF).x (aQ S.s.ps) else []) else [])
def rT(S:Sx)(i:Nat)(l:List KV)(o:Of):List KV:=vj S.s i (S.s.bd.getD i zV) l o.want o.v
def CO(S:Sx)(C:Ck)(i:Nat):List KV:=if (S.bd.getD i bF).out=true then [] else (dr S C i).foldl (rT S i) []
def uz(S:Sx)(C:Ck)(k:Nat):List (List KV):=(List.range S.s.bd.length).map λ i=>if i<k then CO S C i else []
def aS(S:Sx)(C:Ck):List Of:=if S.ph=0 then [] else Jf (uz S C S.s.bd.length)
theorem Ed{S:Sx}{i:Nat}:∀ {m:List Of} {l:List KV},l.length<=40->(m.foldl (rT S i) l).length<=40
 | [],_,h=>h
 | o :: m,l,h=>Ed (m:=m) (l:=rT S i l o) (KM h)
theorem L5(S:Sx)(C:Ck)(i:Nat):(CO S C i).length<=40:=by
 unfold CO
 split
 ·show 0<=40; decide
 ·exact Ed (by show 0<=40; decide)
theorem gT(S:Sx)(C:Ck)(k:Nat):(uz S C k).length=S.s.bd.length:=by simp[uz]
theorem Gj{S:Sx}{C:Ck}{k:Nat}:∀ l∈uz S C k,l.length<=40:=λ l hl=>by
 obtain⟨i,_,rfl⟩:=List.mem_map.1 hl
 split
 ·exact L5 S C i
 ·show 0<=40; decide
theorem rC{S:Sx}{C:Ck}{k i:Nat}(h:i<S.s.bd.length):(uz S C k)[i]?=some (if i<k then CO S C i else []):=by
 simp[uz,h]
theorem C5{S:Sx}{C:Ck}{k:Nat}(h:k<S.s.bd.length):(uz S C k).set k (CO S C k)=uz S C (k+1):=by
 refine List.ext_getElem? λ j=>?_;rw[List.getElem?_set]
 by_cases e:k=j
 ·subst e; rw[if_pos rfl,if_pos (by rw[gT]; exact h),rC h,if_pos (by omega)]
 ·rw[if_neg e]
  by_cases hj:j<S.s.bd.length
  ·rw[rC hj,rC hj]
   by_cases h2:j<k
   ·rw[if_pos h2,if_pos (by omega)]
   ·rw[if_neg h2,if_neg (by omega)]
  ·rw[List.getElem?_eq_none (by rw[gT]; omega),List.getElem?_eq_none (by rw[gT]; omega)]
theorem Jq(S:Sx)(C:Ck):uz S C 0=List.replicate S.s.bd.length []:=by
 refine List.ext_getElem? λ j=>?_
 by_cases hj:j<S.s.bd.length
 ·rw[rC hj,if_neg (by omega),List.getElem?_replicate,if_pos hj]
 ·rw[List.getElem?_eq_none (by rw[gT]; omega),List.getElem?_eq_none (by rw[List.length_replicate]; omega)]
theorem Sm{S:Sx}(h:S.bd.length=8){i:Nat}(hi:i<8){y:Bd}(hy:S.bd[i]?=some y)(j:Nat){v:Value}(hv:y.x.cells[j]?=some v):S.cells[10+i*11+j]?=some v:=by
 have h9:j<9:=by have:=(List.getElem?_eq_some_iff.1 hv).1; rwa [Xv.len] at this
 obtain⟨o,ph,s,k,bd,dec,cnt,dig⟩:=S;obtain⟨b0,b1,b2,b3,b4,b5,b6,b7,rfl⟩:=bB h
 match i,hi,j,h9 with
 | 0,_,0,_|0,_,1,_|0,_,2,_|0,_,3,_|0,_,4,_|0,_,5,_|0,_,6,_|0,_,7,_|0,_,8,_=>cases hy; exact hv
 | 1,_,0,_|1,_,1,_|1,_,2,_|1,_,3,_|1,_,4,_|1,_,5,_|1,_,6,_|1,_,7,_|1,_,8,_=>cases hy; exact hv
 | 2,_,0,_|2,_,1,_|2,_,2,_|2,_,3,_|2,_,4,_|2,_,5,_|2,_,6,_|2,_,7,_|2,_,8,_=>cases hy; exact hv
 | 3,_,0,_|3,_,1,_|3,_,2,_|3,_,3,_|3,_,4,_|3,_,5,_|3,_,6,_|3,_,7,_|3,_,8,_=>cases hy; exact hv
 | 4,_,0,_|4,_,1,_|4,_,2,_|4,_,3,_|4,_,4,_|4,_,5,_|4,_,6,_|4,_,7,_|4,_,8,_=>cases hy; exact hv
 | 5,_,0,_|5,_,1,_|5,_,2,_|5,_,3,_|5,_,4,_|5,_,5,_|5,_,6,_|5,_,7,_|5,_,8,_=>cases hy; exact hv
 | 6,_,0,_|6,_,1,_|6,_,2,_|6,_,3,_|6,_,4,_|6,_,5,_|6,_,6,_|6,_,7,_|6,_,8,_=>cases hy; exact hv
 | 7,_,0,_|7,_,1,_|7,_,2,_|7,_,3,_|7,_,4,_|7,_,5,_|7,_,6,_|7,_,7,_|7,_,8,_=>cases hy; exact hv
theorem zB{w:World}{b:Nat}{S:Sx}{C:Ck}(hb:af w ⟨b,0,none⟩ 0 S.cells)(hS:vD S C w)(hok:p7 S C)(hk:I8 S) :
  CP 13 #[pt b] w (λ r w'=>∃ a c,r=.slice a (aS S C).length c/\St w w' (star (bf a c (aS S C)) emp)):=by
 refine nL ?_;unfold iY;have h8:=hok.b8;have cb:∀ {w'},aA w w' []->∀ (j:Nat) (v:Value),S.cells[j]?=some v->w'.cell? ⟨b,j,none⟩=some v:=λ hc j v hv=>xF hb hc j hv;refine⟨λ x w1=>x=decide (S.ph=0)/\w1=w,?_,_,cb (aA.refl _ _) 4 _ rfl,rfl,rfl⟩;rintro w1 x ⟨rfl,rfl⟩ -
 by_cases h0:S.ph=0
 ·refine cT (dT h0) ⟨none,0,?_,?_⟩
  ·rw[aS,if_pos h0]; rfl
  ·rw[aS,if_pos h0]; exact St.cv (St.start w1)
 have hs:=hok.so h0;have hI:=hS.h.1;obtain⟨g,hg⟩:=hk.2 h0;obtain⟨g',hq,hK⟩:=hS.k _ hg
 cases hq
 have hC:=(hok.c h0).ok;have z2:=hs.bd.l2;have hn:C.s.bd.length=S.s.bd.length:=by rw[xR (hok.cs h0)]
 have hm:=sup_le hs.ps;have hp:=Lp hs.ps;refine cF (dF h0) ⟨_,_,_,_,_,_,_,_,_,_,_,_,K2 hb (aA.refl _ _),aj (O0 hI hs) ?_⟩;rintro _ w2 ⟨b2,S',a,c,rs,rfl,eS,hrl,s2⟩;have hs':=Ru eS hs;have ebd:=(FM eS).2.1;refine⟨_,_,rfl,cF rfl ⟨_,_,_,cb s2.av 5 _ rfl,aj (jd (hI.av s2.av).ps (by have:=hs.ps.l2; omega)) ?_⟩⟩;rintro _ w3 ⟨rfl,c3⟩;have s3:=s2.quiet c3;refine⟨_,rfl,s3.ax z6.vs.toArray λ r1 w4 s4=>s4.ay 0 rfl (aQ S.s.ps).vs rfl (I6.one _) λ w5 s5=>?_⟩;let M:List (List KV)->List aD:=λ L=>[nR b2 S' a c rs,cS a c rs,bq rs L,held S'.In,ai r1 (aQ S.s.ps).vs.toArray 34,emp];have s6:St w1 w5 (Sep (M (uz S C 0))):=by
  rw[Jq,<- hrl];exact s5.au [1,2,3,4,0,5]
 refine⟨_,_,_,cb s5.av 6 _ rfl,λ n w6 m=>∃ k:Nat,n=k/\k<=S.s.bd.length/\m=S.s.bd.length-k/\St w1 w6 (Sep (M (uz S C k))),⟨S.s.bd.length,0,rfl,by omega,by omega,s6⟩,?_⟩;clear s6 s5 s4 s3 s2 c3;rintro w6 m n ⟨k,rfl,hkk,hm6,s6⟩ -
 by_cases hlt:(k:Int)<(S.s.bd.length:Int)
 ·have hk8:k<8:=by omega
  have hy:S.bd[k]?=some (S.bd.getD k bF):=getD_at (by omega);have hbr:S.s.bd[k]?=some (S.s.bd.getD k zV):=getD_at (by omega);have hr:rs[k]?=some (rs[k]'(by omega)):=gE (by omega);generalize rs[k]'(by omega)=r at hr;have ecell:∀ {w'},aA w1 w' []->∀ (j:Nat) (v:Value),S.cells[10+k*11+j]?=some v->w'.cell? (Addr.add (Addr.add ⟨b,10,none⟩ (((k:Nat):Int).toNat*11)) j)=some v:=λ hc j v hv=>by
   rw[N2,bw]; exact cb hc _ v hv
  refine cT (dT hlt) ⟨λ w7=>St w1 w7 (Sep (M (uz S C (k+1)))),λ w7 s7 _=>⟨S.s.bd.length-(k+1),by omega,k+1,aB ⟨by omega,by omega⟩,by omega,rfl,s7⟩,by omega,by omega,(S.bd.getD k bF).out,ecell s6.av 10 _ (by have:=FX h8 hk8 hy; simpa using this),?_⟩
  cases ho:(S.bd.getD k bF).out with
  | true =>
   refine cT rfl ?_;rw[<- C5 (by omega),show CO S C k=[] from by rw[CO,if_pos ho],o5 (by rw[rC (by omega),if_neg (by omega)])];exact s6
  | false =>
  have eI:CO S C k=(dr S C k).foldl (rT S k) []:=by rw[CO,if_neg (by rw[ho]; decide)]
  refine cF rfl ⟨_,(cb s6.av 9 _ (by have:=je h8; simpa using this)).trans (by rw[hg]),aj (uI (hK.av s6.av) hC (by omega)) ?_⟩;rintro _ w8 ⟨a7,c7,rfl,k8⟩;have rch:CN w8 a7 (qL C k):=St.rd Ch.len k8.one;have s8:=s6.quiet k8.av;have hcl:=hC.cl;have hchl:(qL C k).length<=30:=by unfold qL; rw[List.length_map]; omega
  refine⟨_,_,_,rfl,aj (Dk rch (by omega) (Jy hC)) ?_⟩;rintro _ w9 ⟨a8,c8,rfl,k9⟩;have hcbl:=Ma (qL C k);have s9:St w1 w9 (Sep (bf a8 c8 (Ju (qL C k)) :: M (uz S C k))):=St.cat (l:=[bf a8 c8 (Ju (qL C k))]) (s8.and k9);refine⟨_,_,_,rfl,λ a9 l9 c9 w10=>l9=(dr S C k).length/\(dr S C k).length<=80/\St w1 w10 (Sep (bf a9 c9 (dr S C k) :: M (uz S C k))),?_,by omega,by omega,(S.bd.getD k bF).has,ecell s9.av 9 _ (by have:=FV h8 hk8 hy; simpa using this),?_⟩
  ·rintro w10 a9 l9 c9 ⟨rfl,h80,s10⟩ -;refine⟨λ n w11 m=>∃ j:Nat,n=j/\j<=(dr S C k).length/\m=(dr S C k).length-j/\St w1 w11 (Sep (bf a9 c9 (dr S C k) :: M ((uz S C k).set k (((dr S C k).take j).foldl (rT S k) [])))),⟨(dr S C k).length,0,rfl,by omega,by omega,?_⟩,?_⟩
   ·show St w1 w10 (Sep (bf a9 c9 (dr S C k) :: M ((uz S C k).set k [])));rw[o5 (by rw[rC (by omega),if_neg (by omega)])];exact s10
   rintro w11 m2 n ⟨j,rfl,hj,hm2,s11⟩ -
   by_cases hlj:(j:Int)<((dr S C k).length:Int)
   ·have hx:(dr S C k)[j]?=some ((dr S C k)[j]'(by omega)):=gE (by omega);generalize(dr S C k)[j]'(by omega)=x at hx;obtain⟨q,hq,hcx⟩:=(St.rd Of.len s11).at hx;refine cT (dT hlj) (ak hq ⟨by omega,by omega,_,x.want,_,hcx,s11.ax sC.cells.toArray λ r2 w12 s12=>s12.ay 0 rfl x.cells rfl x.one λ w13 s13=>⟨x.want,s13.aF 0 1 rfl rfl,_,s13.ag 0 rfl 7,?_⟩⟩);have s14:St w1 w13 (Sep [nR b2 S' a c rs,cS a c rs,bq rs ((uz S C k).set k (((dr S C k).take j).foldl (rT S k) [])),held S'.In,Sep [bf a9 c9 (dr S C k),ai r1 (aQ S.s.ps).vs.toArray 34,emp]]) :=
     ((s13.au [2,3,4,5,1,6,7]).split [_,_,_,_]).open
    refine aj (O2 s14 hs' hr (l:=((dr S C k).take j).foldl (rT S k) []) (by rw[List.getElem?_set_self (by rw[gT]; omega)]) (y:=S.s.bd.getD k zV) (by rw[ebd]; exact hbr) x.want x.v) ?_;rintro _ w14 ⟨kk,rfl,s15⟩;have e1:vj S' k (S.s.bd.getD k zV) (((dr S C k).take j).foldl (rT S k) []) x.want x.v=((dr S C k).take (j+1)).foldl (rT S k) []:=by
     rw[kN (f:=rT S k) (a:=[]) hx];show _=vj S.s k _ _ _ _;unfold vj;rw[OP eS]
    rw[List.set_set,e1] at s15;have s16:St w1 w14 (Sep [nR b2 S' a c rs,cS a c rs,bq rs ((uz S C k).set k (((dr S C k).take (j+1)).foldl (rT S k) [])),held S'.In,bf a9 c9 (dr S C k),ai r1 (aQ S.s.ps).vs.toArray 34,emp]) :=
     St.cat (l:=[nR b2 S' a c rs,cS a c rs,bq rs ((uz S C k).set k (((dr S C k).take (j+1)).foldl (rT S k) [])),held S'.In]) (St.shut (l:=[nR b2 S' a c rs,cS a c rs,bq rs ((uz S C k).set k (((dr S C k).take (j+1)).foldl (rT S k) [])),held S'.In]) s15)
    exact⟨_,rfl,(dr S C k).length-(j+1),by omega,j+1,aB ⟨by omega,by omega⟩,by omega,rfl,s16.au [4,0,1,2,3,5,6]⟩
   ·obtain rfl:j=(dr S C k).length:=by omega
    rw[List.take_length,<- eI,C5 (by omega)] at s11;exact cF (dF hlj) (s11.au [1,2,3,4,5,6])
  ·cases hh:(S.bd.getD k bF).has with
   | false =>
    have e:dr S C k=Ju (qL C k):=by rw[dr,if_neg (by rw[hh]; decide),List.append_nil]
    rw[e];exact cF rfl ⟨rfl,by omega,s9⟩
   | true =>
   have e:dr S C k=Ju (qL C k)++(if oM (S.bd.getD k bF).x (aQ S.s.ps)=0 then oN (S.bd.getD k bF).x (aQ S.s.ps) else []):=by rw[dr,if_pos hh]
   have hxc:=hok.x _ (List.mem_of_getElem? hy) hh;have hz:=Dg hxc;have s10:=s9.quiet (aA.drew w9 []);have hxi:(S.bd.getD k bF).x.In w9.drew:=(hS.h.2 _ (List.mem_of_getElem? hy)).av s10.av;have hxcl:af w9.drew (Addr.add ⟨b,10,none⟩ (((k:Nat):Int).toNat*11)) 0 (S.bd.getD k bF).x.cells:=aY _ 0 λ j v hj=>by
    rw[N2,bw,Nat.zero_add];exact cb s10.av _ v (Sm h8 hk8 hy j hj)
   generalize(S.bd.getD k bF).x=x at hxc hz hxi e hxcl;rw[e];refine cT rfl ⟨by omega,by omega,_,x.u,_,_,_,_,hxcl,_,s10.cellsIn 5 rfl,aj (AL hm hp (by omega) hxi) ?_⟩;rintro _ w15 (⟨hne,rfl,c15⟩|⟨h0,hlen,a11,c11,rfl,k15⟩)
   ·have s11:=s10.quiet c15;rw[if_neg hne];exact⟨_,_,_,_,rfl,dD En Of.len Of.one (s11.out 0 rfl) (l2:=[]) (λ i x h=>by simp at h) (by simp only[List.length_nil]; omega) (by simp only[List.length_nil]; omega) λ a3 c3 w3 s5=>⟨rfl,by simp only[List.length_append,List.length_nil]; omega,s5⟩⟩
   ·have s11:=s10.quiet k15.av;rw[if_pos h0];exact⟨_,_,_,_,rfl,dD En Of.len Of.one (s11.out 0 rfl) (St.rd Of.len k15) (by omega) (by omega) λ a3 c3 w3 s5=>⟨rfl,by rw[List.length_append]; omega,s5⟩⟩
 ·obtain rfl:k=S.s.bd.length:=by omega
  have s7:St w1 w6 (Sep [nR b2 S' a c rs,cS a c rs,bq rs (uz S C S.s.bd.length),Sep [held S'.In,ai r1 (aQ S.s.ps).vs.toArray 34,emp]]):=(s6.split [_,_,_]).open;refine cF (dF hlt) (aj (OV s7 (by rw[gT,hrl]) (by omega) Gj) ?_);rintro _ w17 ⟨a',c',rfl,s8⟩;have e:aS S C=Jf (uz S C S.s.bd.length):=by rw[aS,if_neg h0]
  rw[e];exact⟨_,_,_,rfl,a',c',rfl,s8.au [0]⟩
def oR(a b:Int)(c:I6)(d:Int)(w:World)(K:KP):=an w (.cells (iv b :: c.on [iv d]:List Value).toArray 44) λ b c=>∃ d:Bool->qW,(∀ e f,d f e->∀ g:qv,cond f (K (iv 6) e) (∃ f:Bool->qW,(∀ g h,f h g->∀ i:qv,cond h (K (iv 4) g) (∃ h:I6,af g (qd b 1) 0 h.vs/\CC 47 #[.agg h.vs.toArray] g λ g h=>∃ i,g=.returned (iv i)/\K (iv i) h))/\∃ g,e.cell? (qd b 7)=some (iv g)/\cond (decide (g<1)) (f true e) (∃ g,e.cell? (qd b 7)=some (iv g)/\f (decide (g>1000000)) e)))/\∃ e,c.cell? (qd b 0)=some (iv e)/\cond (decide (e<0)) (d true c) (∃ e,c.cell? (qd b 0)=some (iv e)/\d (decide (e>=a)) c)
theorem tG{n1 n2 u1 n3 w K}(h:oR n1 n2 u1 n3 w K):CP 79 #[iv n1,.agg (iv n2 :: u1.on [iv n3]:List Value).toArray] w K:=ah (az [(12,[(5,.s .bool)]),(51,[(15,.s .bool)])]) func79 (by kernel_rfl) (by kernel_rfl) h
def qU(a:OA)(b c:Nat)(d:OA)(e f:Nat)(g:OA)(h i:Nat)(j:OA)(k l:Nat)(m:OA)(n o:Nat)(w:World)(K:KP):=an w (.cells #[.slice a b c,.slice d e f,.slice g h i,.slice j k l] 75) λ a b=>an b (.cells #[qz,qz,qz,qz,qz,qz,qz,qz,qz,qz,qz,qz,qz,qz,qz,qz,qz,qz,qn,qn] 67) λ b c=>∃ d e f g h i j k l o p q,af c (qd a 0) 0 [.slice d e f,.slice g h i,.slice j k l,.slice o p q]/\CC 62 #[.agg #[.slice d e f,.slice g h i,.slice j k l,.slice o p q]] c λ c d=>∃ e,c=.returned (iv e)/\cond (e !=0) (aK (qd b 0) 0 [qz,qz,qz,qz,qz,qz,qz,qz,qz,qz,qz,qz,qz,qz,qz,qz,qz,qz,qn,qn] d λ c=>∃ f g h:I6,∃ i j k l o p,af c (qd b 0) 0 (f.on (g.on (h.on [.slice i j k,.slice l o p])))/\K (.tuple #[.agg (f.on (g.on (h.on [.slice i j k,.slice l o p])):List Value).toArray,qn,iv e]) c) (cond (decide ((n:Int)>(320:Int))) (aK (qd b 0) 0 [qz,qz,qz,qz,qz,qz,qz,qz,qz,qz,qz,qz,qz,qz,qz,qz,qz,qz,qn,qn] d λ c=>∃ e f g:I6,∃ h i j k l o,af c (qd b 0) 0 (e.on (f.on (g.on [.slice h i j,.slice k l o])))/\K (.tuple #[.agg (e.on (f.on (g.on [.slice h i j,.slice k l o])):List Value).toArray,qn,iv 3]) c) (aP prog (Instr.makeMap 140 none) d λ c d=>∃ e:Option Nat,c=(.map e)/\∃ c:Int->qN,(∃ f,c 0 d f)/\∀ d f g,c g d f->∀ h:qv,cond (decide (g<(n:Int))) (∃ h:qW,(∀ i,h i->∀ j:qv,∃ j,j<f/\c (IntKind.i64.wrap (g+1)) i j)/\aq m λ c=>0<=g/\g<(n:Int)/\∃ f,∃ i:I6,∃ j,af d (Addr.add c ((g).toNat*8)) 0 (iv f :: i.on [iv j])/\an d (.cells #[qz,qz,qz,qz,qz,qz,qz,qz] 44) λ c k=>aK (qd c 0) 0 (iv f :: i.on [iv j]) k λ f=>∃ i j k,f.cell? (qd a 1)=some (.slice i j k)/\∃ i,∃ k:I6,∃ l,af f (qd c 0) 0 (iv i :: k.on [iv l])/\CC 79 #[iv (j:Int),.agg (iv i :: k.on [iv l]:List Value).toArray] f λ f i=>∃ j,f=.returned (iv j)/\cond (j !=0) (aK (qd b 0) 0 [qz,qz,qz,qz,qz,qz,qz,qz,qz,qz,qz,qz,qz,qz,qz,qz,qz,qz,qn,qn] i λ f=>∃ k l o:I6,∃ p q r s t u,af f (qd b 0) 0 (k.on (l.on (o.on [.slice p q r,.slice s t u])))/\K (.tuple #[.agg (k.on (l.on (o.on [.slice p q r,.slice s t u])):List Value).toArray,qn,iv j]) f) (∃ f,i.cell? (qd c 0)=some (iv f)/\∃ j:I6,af i (qd c 1) 0 j.vs/\an i (.cells #[qz,qz,qz,qz,qz,qz,qz] 143) λ i k=>aK (qd i 0) 0 (iv f :: j.vs) k λ f=>∃ j,∃ k:I6,af f (qd i 0) 0 (iv j :: k.vs)/\aP prog (Instr.lookup 140 (.map e) (.agg (iv j :: k.vs:List Value).toArray) true) f λ f j=>∃ k,∃ l,f=(.tuple #[iv k,.bool l])/\∃ f:Bool->qW,(∀ o p,f p o->∀ q:qv,cond p (∃ p,∃ q:I6,af o (qd i 0) 0 (iv p :: q.vs)/\aP prog (Instr.mapUpdate 140 (.map e) (.agg (iv p :: q.vs:List Value).toArray) (iv g)) o λ _e1 g=>h g) (h o))/\cond (!l) (f true j.drew) (aq m λ g=>0<=k/\k<(n:Int)/\∃ h,j.drew.cell? (Addr.add (Addr.add g ((k).toNat*8)) 7)=some (iv h)/\∃ g,j.drew.cell? (qd c 7)=some (iv g)/\f (decide (h<g)) j.drew))) (∃ c f g,d.cell? (qd a 0)=some (.slice c f g)/\CC 34 #[.slice c f g] d λ c d=>∃ f:I6,c=.returned (.agg f.vs.toArray)/\an d (.cells #[qz,qz,qz,qz,qz,qz,qz,qz,qz,qz,qz,qz,qz,qz,qz,qz,qz,qz,qn,qn] 67) λ c d=>aK (qd c 0) 0 (f.on [qz,qz,qz,qz,qz,qz,qz,qz,qz,qz,qz,qz,qn,qn]) d λ d=>∃ f g h i j k l o p q r s,af d (qd a 0) 0 [.slice f g h,.slice i j k,.slice l o p,.slice q r s]/\CC 80 #[.agg #[.slice f g h,.slice i j k,.slice l o p,.slice q r s]] d λ d f=>∃ g h:I6,d=.returned (.tuple #[.agg g.vs.toArray,.agg h.vs.toArray])/\aK (qd c 6) 0 g.vs f λ d=>aK (qd c 12) 0 h.vs d λ d=>∃ f g h,d.cell? (qd a 1)=some (.slice f g h)/\∃ h:Int->qN,(∃ i,h 0 d i)/\∀ d i j,h j d i->∀ k:qv,cond (decide (j<(g:Int))) (aq f λ f=>0<=j/\j<(g:Int)/\∃ g k l o,af d (Addr.add f ((j).toNat*4)) 0 [.string g,iv k,iv l,iv o]/\an d (.cells #[.string (bs []),qz,qz,qz] 137) λ f p=>aK (qd f 0) 0 [.string g,iv k,iv l,iv o] p λ g=>∃ k l o,g.cell? (qd c 18)=some (.slice k l o)/\∃ p,g.cell? (qd f 1)=some (iv p)/\an g (.cells #[iv p] 3) λ f g=>aP prog (Builtin.append_ #[65,65] 65 #[.slice k l o,.slice (some (qd f 0)) 1 1]) g λ f g=>∃ k l o,f=(.slice k l o)/\aM g (qd c 18) (.slice k l o) λ f=>∃ g,g<i/\h (IntKind.i64.wrap (j+1)) f g) (∃ f:OA->Nat->Nat->Int->qN,(∃ g,f none 0 0 0 d g)/\∀ d g h i j k,f h i j k d g->∀ l:qv,cond (decide (k<(n:Int))) (∃ l:OA->Nat->Nat->qW,(∀ o p q r,l p q r o->∀ s:qv,∃ s,s<g/\f p q r (IntKind.i64.wrap (k+1)) o s)/\aq m λ f=>0<=k/\k<(n:Int)/\∃ g,∃ m:I6,∃ n,af d (Addr.add f ((k).toNat*8)) 0 (iv g :: m.on [iv n])/\an d (.cells #[qz,qz,qz,qz,qz,qz,qz,qz] 44) λ f o=>aK (qd f 0) 0 (iv g :: m.on [iv n]) o λ g=>∃ m,g.drew.cell? (qd f 7)=some (iv m)/\∃ n o p,g.drew.cell? (qd a 0)=some (.slice n o p)/\∃ q:I6,af g.drew (qd f 1) 0 q.vs/\CC 81 #[.slice n o p,.agg q.vs.toArray] g.drew λ g n=>∃ o,g=.returned (iv o)/\n.cell? (qd f 7)=some (iv m)/\aM n (qd f 7) (iv (IntKind.i64.wrap (m-o))) λ g=>∃ m:Bool->qW,(∀ n o,m o n->∀ p:qv,cond o (l h i j n) (∃ o p q,n.cell? (qd c 19)=some (.slice o p q)/\∃ r,∃ s:I6,∃ t,af n (qd f 0) 0 (iv r :: s.on [iv t])/\an n (.cells (iv r :: s.on [iv t]:List Value).toArray 44) λ n r=>aP prog (Builtin.append_ #[41,41] 41 #[.slice o p q,.slice (some (qd n 0)) 1 1]) r λ n o=>∃ p q r,n=(.slice p q r)/\aM o (qd c 19) (.slice p q r) λ n=>an n (.cells #[iv k] 3) λ n o=>aP prog (Builtin.append_ #[65,65] 65 #[.slice h i j,.slice (some (qd n 0)) 1 1]) o λ n o=>∃ p q r,n=(.slice p q r)/\l p q r o))/\∃ l,g.cell? (qd f 0)=some (iv l)/\∃ n:I6,af g (qd f 1) 0 n.vs/\aP prog (Instr.lookup 140 (.map e) (.agg (iv l :: n.vs:List Value).toArray) false) g λ e g=>∃ l,e=(iv l)/\cond (l !=k) (m true g) (∃ e,g.cell? (qd f 7)=some (iv e)/\cond (decide (e<1)) (m true g) (∃ e:I6,af g (qd f 1) 0 e.vs/\cond (I6.beq e z6) (m true g) (∃ e k l n o p q r s t u v,af g (qd a 0) 0 [.slice e k l,.slice n o p,.slice q r s,.slice t u v]/\∃ a,g.cell? (qd f 0)=some (iv a)/\∃ x:I6,af g (qd f 1) 0 x.vs/\CC 75 #[.agg #[.slice e k l,.slice n o p,.slice q r s,.slice t u v],iv a,.agg x.vs.toArray] g λ a e=>∃ f,a=.returned (iv f)/\m (f !=0) e)))) (cond (decide ((i:Int)>(160:Int))) (aK (qd b 0) 0 [qz,qz,qz,qz,qz,qz,qz,qz,qz,qz,qz,qz,qz,qz,qz,qz,qz,qz,qn,qn] d λ a=>∃ e f g:I6,∃ k l m n o p,af a (qd b 0) 0 (e.on (f.on (g.on [.slice k l m,.slice n o p])))/\K (.tuple #[.agg (e.on (f.on (g.on [.slice k l m,.slice n o p])):List Value).toArray,qn,iv 3]) a) (∃ a e f:I6,∃ g k l m n o,af d (qd c 0) 0 (a.on (e.on (f.on [.slice g k l,.slice m n o])))/\aK (qd b 0) 0 (a.on (e.on (f.on [.slice g k l,.slice m n o]))) d λ a=>∃ c d e:I6,∃ f g k l m n,af a (qd b 0) 0 (c.on (d.on (e.on [.slice f g k,.slice l m n])))/\K (.tuple #[.agg (c.on (d.on (e.on [.slice f g k,.slice l m n])):List Value).toArray,.slice h i j,qz]) a))))))
theorem vg{a1 l1 c1 a2 l2 c2 a3 l3 c3 a4 l4 c4 a5 l5 c5 w K}(h:qU a1 l1 c1 a2 l2 c2 a3 l3 c3 a4 l4 c4 a5 l5 c5 w K):CP 44 #[.agg #[.slice a1 l1 c1,.slice a2 l2 c2,.slice a3 l3 c3,.slice a4 l4 c4],.slice a5 l5 c5] w K:=ah (az [(250,[(34,.s (.int .i64))]),(2003,[]),(128207,[(70,.s .bool)]),(2042,[(89,.s (.int .i64))]),(8186,[(18,.s .slice),(103,.s (.int .i64))]),(65491,[(18,.s .slice)]),(2095718,[(145,.s .bool)])]) func44 (by kernel_rfl) (by kernel_rfl) h
def zu(a:OA)(b c:Nat)(d:OA)(e f:Nat)(g:OA)(h i:Nat)(j:OA)(k l:Nat)(w:World)(K:KP):=an w (.cells #[.slice a b c,.slice d e f,.slice g h i,.slice j k l] 75) λ a b=>an b (.cells z6.vs.toArray 34) λ b c=>an c (.cells z6.vs.toArray 34) λ c d=>∃ e f g h i j k l m n o p,af d (qd a 0) 0 [.slice e f g,.slice h i j,.slice k l m,.slice n o p]/\CC 62 #[.agg #[.slice e f g,.slice h i j,.slice k l m,.slice n o p]] d λ d e=>∃ f,d=.returned (iv f)/\cond (f !=0) (aK (qd b 0) 0 z6.vs e λ d=>aK (qd c 0) 0 z6.vs d λ d=>∃ f:I6,af d (qd b 0) 0 f.vs/\∃ g:I6,af d (qd c 0) 0 g.vs/\K (.tuple #[.agg f.vs.toArray,.agg g.vs.toArray]) d) (∃ d f g h i j k l m n o p,af e (qd a 0) 0 [.slice d f g,.slice h i j,.slice k l m,.slice n o p]/\CC 113 #[.agg #[.slice d f g,.slice h i j,.slice k l m,.slice n o p]] e λ a d=>∃ e f:I6,a=.returned (.tuple #[.agg e.vs.toArray,.agg f.vs.toArray])/\aK (qd b 0) 0 e.vs d λ a=>aK (qd c 0) 0 f.vs a λ a=>∃ d:I6,af a (qd b 0) 0 d.vs/\∃ b:I6,af a (qd c 0) 0 b.vs/\K (.tuple #[.agg d.vs.toArray,.agg b.vs.toArray]) a)
theorem Ad{a1 l1 c1 a2 l2 c2 a3 l3 c3 a4 l4 c4 w K}(h:zu a1 l1 c1 a2 l2 c2 a3 l3 c3 a4 l4 c4 w K):CP 80 #[.agg #[.slice a1 l1 c1,.slice a2 l2 c2,.slice a3 l3 c3,.slice a4 l4 c4]] w K:=ah (az []) func80 (by kernel_rfl) (by kernel_rfl) h
def mG(a:OA)(b c:Nat)(d:I6)(w:World)(K:KP):=an w (.cells d.vs.toArray 34) λ d e=>∃ f:I6,af e (qd d 0) 0 f.vs/\CC 114 #[.agg (.slice a b c :: f.vs:List Value).toArray,.func (.func 115) #[] #[]] e λ a b=>∃ c,a=.returned (iv c)/\K (iv c) b
theorem rE{a1 l1 c1 u1 w K}(h:mG a1 l1 c1 u1 w K):CP 81 #[.slice a1 l1 c1,.agg u1.vs.toArray] w K:=ah (az []) func81 (by kernel_rfl) (by kernel_rfl) h
def js(a:ByteArray)(b c d e:Int)(w:World)(K:KP):=an w (.cells #[.string a,iv b,iv c,iv d,iv e] 120) λ a b=>∃ c,b.cell? (qd a 2)=some (iv c)/\K (iv c) b
theorem nY{s1 n1 n2 n3 n4 w K}(h:js s1 n1 n2 n3 n4 w K):CP 115 #[.agg #[.string s1,iv n1,iv n2,iv n3,iv n4]] w K:=ah (az []) func115 (by kernel_rfl) (by kernel_rfl) h
def gQ(a:Nat)(w:World)(K:KP):=an w (.cells #[qz,qz,qz,qz,qz,qz,qz,qz,qz,qz,qz,qz,qz,qz,qz,qz,qz,qz,qn,qn] 67) λ b c=>∃ d:Bool->qW,(∀ e f,d f e->∀ g:qv,cond f (aK (qd b 0) 0 [qz,qz,qz,qz,qz,qz,qz,qz,qz,qz,qz,qz,qz,qz,qz,qz,qz,qz,qn,qn] e λ f=>∃ g h i:I6,∃ j k l m n o,af f (qd b 0) 0 (g.on (h.on (i.on [.slice j k l,.slice m n o])))/\K (.tuple #[.agg (g.on (h.on (i.on [.slice j k l,.slice m n o])):List Value).toArray,qn,iv 10]) f) (∃ f g h i j k l m n o p q,af e.drew (qd a 5) 0 [.slice f g h,.slice i j k,.slice l m n,.slice o p q]/\CC 13 #[qp a] e.drew λ e r=>∃ s t u,e=.returned (.slice s t u)/\af r (qd a 5) 0 [.slice f g h,.slice i j k,.slice l m n,.slice o p q]/\CC 44 #[.agg #[.slice f g h,.slice i j k,.slice l m n,.slice o p q],.slice s t u] r λ e f=>∃ g h i:I6,∃ j k l m n o p q r s,e=.returned (.tuple #[.agg (g.on (h.on (i.on [.slice j k l,.slice m n o])):List Value).toArray,.slice p q r,iv s])/\aK (qd b 0) 0 (g.on (h.on (i.on [.slice j k l,.slice m n o]))) f λ e=>∃ f g h:I6,∃ i j k l m n,af e (qd b 0) 0 (f.on (g.on (h.on [.slice i j k,.slice l m n])))/\K (.tuple #[.agg (f.on (g.on (h.on [.slice i j k,.slice l m n])):List Value).toArray,.slice p q r,iv s]) e))/\∃ b,c.cell? (qd a 4)=some (iv b)/\cond (b !=3) (∃ b,c.cell? (qd a 4)=some (iv b)/\d (b !=4) c) (d false c)
theorem mz{b1 w K}(h:gQ b1 w K):CP 23 #[.pointer (some ⟨b1,0,none⟩)] w K:=ah (az [(51,[(9,.s .bool)])]) func23 (by kernel_rfl) (by kernel_rfl) h
end Go.Proofs.YtmffhopdpbikgaaGreatDoor
namespace Go.Vc
open Go
abbrev K7:=Int×I6
abbrev qR (u:K7):Value:=.agg (iv u.1 :: u.2.vs).toArray
def K7.beq(u v:K7):Bool:=(u.1==v.1)&&(I6.beq u.2 v.2&&true)
theorem K7.beq_eq(u v:K7):K7.beq u v=decide (u=v):=by
 obtain⟨a,b⟩:=u;obtain⟨c,d⟩:=v;unfold K7.beq;rw[I6.beq_eq,Bool.and_true];show((a==c)&&decide (b=d))=_
 by_cases h1:a=c
 ·subst h1
  by_cases h2:b=d
  ·subst h2; simp
  ·simp[h2]
 ·simp[h1]
structure I9 (P:Program) (t kt et:TypeId):Prop where
 u:P.underlying t=some (.map kt et)
 k:∃ it,P.underlying kt=some (.struct it)
 z:(P.info? et).bind (·.zero)=some (iv 0)
 eq:∀ u v:K7,LN P 12 kt (qR u) (qR v)=some (K7.beq u v)
 ck:∀ (b:Bool) (u:K7) (w:World),(Instr.checkKey b 10000 kt (qR u)).run P w=.ok () w
abbrev EL:=K7×Int
def DE(l:List EL):List (Value×Value):=l.map λ p=>(qR p.1,iv p.2)
structure An (es:List MapEntry) (cl:Nat) (l:List EL):Prop where
 kv:kvs es=DE l
 nd:(es.map (·.born)).Nodup
 lt:∀ e∈es,e.born<cl
 ky:(l.map (·.1)).Nodup
def cR(r:Nat)(l:List EL):aD:=Oa λ (x:{ p:Array MapEntry×Nat // An p.1.toList p.2 l })=>bg r (.map x.1.1 x.1.2)
def eV(l:List EL)(u:K7):Option Int:=(l.find? λ p=>p.1==u).map (·.2)
section
variable {P:Program} {t kt et:TypeId} {w0 w:World} {B:aD} {r:Nat} {l:List EL}
theorem Gi(eq:∀ u v:K7,LN P 12 kt (qR u) (qR v)=some (K7.beq u v))(u:K7)(w:World):∀ (es:List MapEntry) (l:List EL) (i:Nat),kvs es=DE l ->
  (∃ v j,eV l u=some v/\(Instr.findAsking kt (qR u) es i).run P w=.ok (some (i+j,iv v)) w/\∃ e,es[j]?=some e/\e.key=qR u/\l[j]?=some (u,v)) \/
   (eV l u=none/\(Instr.findAsking kt (qR u) es i).run P w=.ok none w)
 | [],[],i,_=>.inr ⟨rfl,by simp[Instr.findAsking]⟩
 | e :: es,p :: l,i,h=>by
  simp only[kvs,DE,List.map_cons,List.cons.injEq,Prod.mk.injEq] at h;obtain⟨⟨hk,hv⟩,hr⟩:=h;have he:(Op.equal kt (qR u) e.key).run P w=.ok (K7.beq u p.1) w:=by rw[hk]; exact yq 12 kt _ _ _ Op.maxDepth (eq u p.1) (by decide)
  have hb:K7.beq u p.1=(p.1==u):=by
   rw[K7.beq_eq]
   by_cases h:u=p.1
   ·rw[decide_eq_true h,h]; simp
   ·rw[decide_eq_false h]; symm; simpa using λ h'=>h h'.symm
  by_cases hu:p.1=u
  ·have hbt:K7.beq u p.1=true:=by rw[hb,hu]; simp
   rw[hbt] at he;refine .inl ⟨p.2,0,?_,?_,e,rfl,by rw[hk,hu],?_⟩
   ·simp[eV,hu]
   ·rw[Instr.findAsking]; simp[he,hv]
   ·obtain⟨a,b⟩:=p; simp only at hu ⊢; subst hu; rfl
  ·have hbf:K7.beq u p.1=false:=by rw[hb]; simpa using hu
   rw[hbf] at he;have hv' : eV (p :: l) u=eV l u:=by
    unfold eV;rw[List.find?_cons];have:(p.1==u)=false:=by simpa using hu
    rw[this]
   rcases Gi eq u w es l (i+1) hr with⟨v,j,h1,h2,e',h3,h4,h5⟩|⟨h1,h2⟩
   ·refine .inl ⟨v,j+1,by rw[hv',h1],?_,e',by simpa using h3,h4,by simpa using h5⟩;rw[Instr.findAsking]; simp[he,h2]; omega
   ·exact .inr ⟨by rw[hv',h1],by rw[Instr.findAsking]; simp[he,h2]⟩
 | [],_ :: _,_,h=>by simp[kvs,DE] at h
 | _ :: _,[],_,h=>by simp[kvs,DE] at h
theorem uN(hT:I9 P t kt et)(u:K7)(w:World){es:List MapEntry}(h:kvs es=DE l) :
  (∃ v j,eV l u=some v/\(Instr.findKey kt (qR u) es).run P w=.ok (some (j,iv v)) w/\∃ e,es[j]?=some e/\e.key=qR u/\l[j]?=some (u,v))\/(eV l u=none/\(Instr.findKey kt (qR u) es).run P w=.ok none w):=by
 obtain⟨it,hk⟩:=hT.k;have hf:(Instr.findKey kt (qR u) es).run P w=(Instr.findAsking kt (qR u) es).run P w:=by
  cases es with
  | nil=>simp[Instr.findKey,aC hk,Instr.findNow,Instr.findAsking]
  | cons e es=>simp[Instr.findKey,aC hk,Instr.findNow,Instr.sameNow]
 rw[hf];rcases Gi hT.eq u w es l 0 h with⟨v,j,h1,h2,h3⟩|h1
 ·exact .inl ⟨v,j,h1,by rw[h2,Nat.zero_add],h3⟩
 ·exact .inr h1
theorem HX(hT:I9 P t kt et)(s:St w0 w (star (cR r l) B))(u:K7){R:Int->World->Prop}(h:R ((eV l u).getD 0) w) :
  aP P (Instr.lookup t (.map (some r)) (qR u) false) w λ e w'=>∃ n:Int,e=iv n/\R n w':=by
 obtain⟨⟨⟨es,cl⟩,hok⟩,s'⟩:=s.ex;have ho:w.heap[r]?=some (.map es cl):=s'.obj;have hz:(zeroValue et).run P w=.ok (iv 0) w:=by
  have:=hT.z
  cases hi:P.info? et with
  | none=>simp[hi] at this
  | some i=>simp[hi] at this; simp[zeroValue,typeInfo,hi,this]
 have hc:=hT.ck es.isEmpty u w;rcases uN hT u w hok.kv with⟨v,j,h1,h2,_⟩|⟨h1,h2⟩
 ·refine⟨iv v,w,?_,v,rfl,by rwa [h1] at h⟩;simp[Instr.lookup,aC hT.u,ho,hc,h2,getObj,Sem.run]
 ·refine⟨iv 0,w,?_,0,rfl,by rwa [h1] at h⟩;simp[Instr.lookup,aC hT.u,ho,hc,h2,hz,getObj,Sem.run]
def o4(l:List EL)(u:K7)(v:Int):List EL:=if (eV l u).isSome then l.map λ p=>if p.1=u then (u,v) else p else l++[(u,v)]
theorem K5{l:List EL}(hn:(l.map (·.1)).Nodup){u:K7}{v v0:Int}{j:Nat}(hj:l[j]?=some (u,v0)):l.map (λ p=>if p.1=u then (u,v) else p)=l.set j (u,v):=by
 have hlt:=(List.getElem?_eq_some_iff.1 hj).1;refine List.ext_getElem? λ i=>?_;rw[List.getElem?_map,List.getElem?_set]
 by_cases e:j=i
 ·subst e; rw[if_pos rfl,if_pos hlt,hj]; simp
 ·rw[if_neg e]
  cases hi:l[i]? with
  | none=>rfl
  | some p =>
   have hil:=(List.getElem?_eq_some_iff.1 hi).1;have hne:p.1≠u:=λ h=>by
    have h1:(l.map (·.1))[j]?=some u:=by rw[List.getElem?_map,hj]; rfl
    have h2:(l.map (·.1))[i]?=some u:=by rw[List.getElem?_map,hi]; simp[h]
    exact e ((List.getElem?_inj (by simpa using hlt) hn).1 (h1.trans h2.symm))
   simp[hne]
theorem FY{l:List EL}{u:K7}(h:eV l u=none):∀ p∈l,p.1≠u:=λ p hp e=>by
 unfold eV at h;rw[Option.map_eq_none_iff,List.find?_eq_none] at h;exact h p hp (by simpa using e)
theorem IT{l:List EL}(hn:(l.map (·.1)).Nodup){p:EL}(hp:p∈l):eV l p.1=some p.2:=by
 induction l with
 | nil=>cases hp
 | cons q l ih =>
  simp only[List.map_cons,List.nodup_cons] at hn;unfold eV;rw[List.find?_cons];rcases List.mem_cons.1 hp with rfl|h
  ·simp
  ·have hne:q.1≠p.1:=λ e=>hn.1 (by rw[e]; exact List.mem_map_of_mem h);have:(q.1==p.1)=false:=by simpa using hne
   rw[this];exact ih hn.2 h
theorem IG(u:K7):Instr.sameBits 10000 (qR u) (qR u)=true:=by
 rw[show(10000:Nat)=9998+1+1 from rfl];simp[Instr.sameBits,I6.vs]
theorem KL(hT:I9 P t kt et)(s:St w0 w (star (cR r l) B))(u:K7)(v:Int){R:World->Prop}(h:∀ w',St w0 w' (star (cR r (o4 l u v)) B)->R w') :
  aP P (Instr.mapUpdate t (.map (some r)) (qR u) (iv v)) w λ _ w'=>R w':=by
 obtain⟨⟨⟨es,cl⟩,hok⟩,s'⟩:=s.ex;have ho:w.heap[r]?=some (.map es cl):=s'.obj;have hc:=hT.ck false u w;rcases uN hT u w hok.kv with⟨v0,j,h1,h2,e0,h3,h4,h5⟩|⟨h1,h2⟩
 ·have hj:=(List.getElem?_eq_some_iff.1 h3).1;have hes:es[j]?=some e0:=by simpa using h3
  have hs:=s'.put (.map (es.modify j λ e=>{ e with key:=qR u,val:=iv v }) cl);have hr:(Instr.mapUpdate t (.map (some r)) (qR u) (iv v)).run P w=.ok () { w with heap:=w.heap.setIfInBounds r (.map (es.modify j λ e=>{ e with key:=qR u,val:=iv v }) cl) }:=by
   simp[Instr.mapUpdate,aC hT.u,ho,hc,h2,hes,h4,Instr.keyThatStays,IG,setObj,getObj,Sem.run]
  suffices H:An (es.modify j λ e=>{ e with key:=qR u,val:=iv v }).toList cl (o4 l u v) from
   ⟨_,_,hr,h _ (St.qx (f:=λ (x:{ p:Array MapEntry×Nat // An p.1.toList p.2 (o4 l u v) })=>bg r (.map x.1.1 x.1.2)) ⟨(_,_),H⟩ hs)⟩
  have esl:o4 l u v=l.set j (u,v):=by rw[o4,if_pos (by rw[h1]; rfl),K5 hok.ky h5]
  have em:(es.modify j λ e=>{ e with key:=qR u,val:=iv v }).toList=es.toList.set j { e0 with key:=qR u,val:=iv v }:=by
   rw[Array.toList_modify];refine List.ext_getElem? λ i=>?_;rw[List.getElem?_modify,List.getElem?_set]
   by_cases e:j=i
   ·subst e; rw[if_pos rfl,if_pos hj,h3]; simp
   ·rw[if_neg e]; cases es.toList[i]? <;> simp[e]
  rw[em,esl];have hkv:=hok.kv;refine⟨?_,?_,?_,?_⟩
  ·unfold kvs DE at hkv ⊢;rw[List.map_set,List.map_set,hkv]
  ·rw[List.map_set];have:(es.toList.map (·.born)).set j e0.born=es.toList.map (·.born):=by
    refine List.ext_getElem? λ i=>?_;rw[List.getElem?_set]
    split
    ·rename_i e; subst e; rw[List.getElem?_map,h3,if_pos (by rw[List.length_map]; exact hj)]; rfl
    ·rfl
   show((es.toList.map (·.born)).set j e0.born).Nodup;rw[this]; exact hok.nd
  ·intro e he;rcases List.mem_or_eq_of_mem_set he with he|rfl
   ·exact hok.lt e he
   ·exact hok.lt e0 (List.mem_of_getElem? h3)
  ·rw[List.map_set];have:(l.map (·.1)).set j u=l.map (·.1):=by
    refine List.ext_getElem? λ i=>?_;rw[List.getElem?_set]
    split
    ·rename_i e; subst e;have:=(List.getElem?_eq_some_iff.1 h5).1;rw[List.getElem?_map,h5]; simp[this]
    ·rfl
   show((l.map (·.1)).set j u).Nodup;rw[this]; exact hok.ky
 ·have hs:=s'.put (.map (es.push { key:=qR u,val:=iv v,born:=cl }) (cl+1));have hr:(Instr.mapUpdate t (.map (some r)) (qR u) (iv v)).run P w=.ok () { w with heap:=w.heap.setIfInBounds r (.map (es.push { key:=qR u,val:=iv v,born:=cl }) (cl+1)) }:=by
   simp[Instr.mapUpdate,aC hT.u,ho,hc,h2,setObj,getObj,Sem.run]
  suffices H:An (es.push { key:=qR u,val:=iv v,born:=cl }).toList (cl+1) (o4 l u v) from
   ⟨_,_,hr,h _ (St.qx (f:=λ (x:{ p:Array MapEntry×Nat // An p.1.toList p.2 (o4 l u v) })=>bg r (.map x.1.1 x.1.2)) ⟨(_,_),H⟩ hs)⟩
  have esl:o4 l u v=l++[(u,v)]:=by rw[o4,if_neg (by rw[h1]; decide)]
  rw[esl];have et:(es.push { key:=qR u,val:=iv v,born:=cl }).toList=es.toList++[{ key:=qR u,val:=iv v,born:=cl }]:=by simp
  rw[et];refine⟨?_,?_,?_,?_⟩
  ·have:=hok.kv; unfold kvs DE at this ⊢; rw[List.map_append,List.map_append,this]; rfl
  ·rw[List.map_append,List.nodup_append];refine⟨hok.nd,by simp,λ a ha b hb=>?_⟩;obtain⟨e,he,rfl⟩:=List.mem_map.1 ha;have:=hok.lt e he;simp at hb; omega
  ·intro e he;rcases List.mem_append.1 he with he|he
   ·have:=hok.lt e he; omega
   ·rw[List.mem_singleton.1 he]; show cl<cl+1; omega
  ·rw[List.map_append,List.nodup_append];refine⟨hok.ky,by simp,λ a ha b hb=>?_⟩;obtain⟨p,hp,rfl⟩:=List.mem_map.1 ha;have:=FY h1 p hp;simp at hb; subst hb; exact this
end
section
variable {P:Program} {t kt et:TypeId} {w0 w:World} {B:aD} {r:Nat} {l:List EL}
theorem Ff(hT:I9 P t kt et)(s:St w0 w (star (cR r l) B))(u:K7){R:Int->Bool->World->Prop}(h:R ((eV l u).getD 0) (eV l u).isSome w) :
  aP P (Instr.lookup t (.map (some r)) (qR u) true) w λ e w'=>∃ (n:Int) (b:Bool),e=.tuple #[iv n,.bool b]/\R n b w':=by
 obtain⟨⟨⟨es,cl⟩,hok⟩,s'⟩:=s.ex;have ho:w.heap[r]?=some (.map es cl):=s'.obj;have hz:(zeroValue et).run P w=.ok (iv 0) w:=by
  have:=hT.z
  cases hi:P.info? et with
  | none=>simp[hi] at this
  | some i=>simp[hi] at this; simp[zeroValue,typeInfo,hi,this]
 have hc:=hT.ck es.isEmpty u w;rcases uN hT u w hok.kv with⟨v,j,h1,h2,_⟩|⟨h1,h2⟩
 ·refine⟨.tuple #[iv v,.bool true],w,?_,v,true,rfl,by rwa [h1] at h⟩;simp[Instr.lookup,aC hT.u,ho,hc,h2,getObj,Sem.run]
 ·refine⟨.tuple #[iv 0,.bool false],w,?_,0,false,rfl,by rwa [h1] at h⟩;simp[Instr.lookup,aC hT.u,ho,hc,h2,hz,getObj,Sem.run]
theorem St.Qz(s:St w0 w (star (bg r (.map #[] 0)) B)):St w0 w (star (cR r []) B) :=
 St.qx (f:=λ (x:{ p:Array MapEntry×Nat // An p.1.toList p.2 ([]:List EL) })=>bg r (.map x.1.1 x.1.2)) ⟨(#[],0),⟨rfl,by simp,by simp,by simp⟩⟩ s
end
