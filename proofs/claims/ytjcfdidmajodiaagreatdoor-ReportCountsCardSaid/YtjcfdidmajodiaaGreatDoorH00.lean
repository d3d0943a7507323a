import Derived.OrdersHeld
import Derived.OrdersIn
import Derived.TacticsIn
import Derived.Sort.LoopGhostIn
import Derived.RangeFuncLeaves
import Derived.RangeFuncRecord
import Derived.RangeFuncSeq
import Derived.Still
import Derived.Tactics
import Derived.Laws.World
import Derived.Deep.LoopGhost
import Derived.Shelf.Abstract
set_option linter.unusedVariables false
set_option linter.defProp false
set_option maxRecDepth 100000
namespace Go.Vc
def Ex4{A0 A1 A2 A3:Type}{p:A0->A1->A2->A3->Prop}{x0 x1 x2 x3}(h:p x0 x1 x2 x3):∃ x0 x1 x2 x3,p x0 x1 x2 x3:=⟨_,_,_,_,h⟩
def Ex8{A0 A1 A2 A3 A4 A5 A6 A7:Type}{p:A0->A1->A2->A3->A4->A5->A6->A7->Prop}{x0 x1 x2 x3 x4 x5 x6 x7}(h:p x0 x1 x2 x3 x4 x5 x6 x7):∃ x0 x1 x2 x3 x4 x5 x6 x7,p x0 x1 x2 x3 x4 x5 x6 x7:=⟨_,_,_,_,_,_,_,_,h⟩
def BK:=@and_self
def oF:=@Bool.or_eq_false_iff
def ah:=@if_neg
def bf:=@List.mem_of_getElem?
def tY:=@List.any_eq_false
def dD:=@List.getElem?_map
def nL:=@Option.map_some
def TZ:=@Option.some.injEq
def ak:=@if_pos
def T0:=@Std.Legacy.Range.forIn_eq_forIn_range'
def gm:=@List.length_cons
def lA:=@List.mem_cons_self
def wJ:=@Nat.eq_of_beq_eq_true
def pG:=@if_true
def Nc:=@Array.isEmpty_iff
def jl:=@List.mem_append_right
def iN:=@List.mem_append_left
def jH:=@List.mem_cons_of_mem
def og:=@List.all_cons
def aX:=@Bool.and_eq_true
def jI:=@List.mem_filter
def bw:=@Nat.lt_or_ge
def Dp:=@Array.getElem?_eq_none
def qP:=@Option.some.inj
def Dq:=@Ne.symm
def cJ:=@List.mem_cons
def bL:=@List.mem_map
def aV:=@List.mem_append
def jm:=@List.map_cons
def aL:=@Nat.zero_add
def Hy:=@List.mem_filterMap
def Hz:=@Array.mem_of_getElem?
def dS:=@List.all_eq_true
def fM:=@List.foldl_cons
def zC:=@decide_eq_true
def zD:=@decide_eq_false
def Nd:=@Array.getElem?_modify
def aO:=@Nat.le_refl
def cC:=@Nat.le_trans
def zE:=@Nat.lt_of_lt_of_le
def zF:=@List.take_succ_eq_append_getElem
def mJ:=@List.append_assoc
def lC:=@List.nil_append
def jJ:=@Nat.zero_le
def gT:=@Nat.add_mul
def zG:=@Nat.mul_le_mul_right
def gG:=@Nat.mul_one
def cq:=@Int.le_refl
def zH:=@List.eq_nil_of_length_eq_zero
def gV:=@List.getElem?_take
def Dr:=@Array.getElem?_toList
def um:=@List.getElem?_cons_succ
def Nf:=@Nat.div_div_eq_div_mul
def zI:=@Nat.pow_succ
def Ds:=@Nat.mul_comm
def iC:=@List.ext_getElem?
def lD:=@List.getElem?_append_left
def kH:=@List.getElem?_append_right
def cr:=@List.getElem?_eq_none
def fN:=@List.take_of_length_le
def HA:=@UInt8.toNat_ofNat'
def aD:=@Int.toNat_natCast
def Ng:=@Int.fdiv_eq_ediv_of_nonneg
def Nh:=@Int.natCast_nonneg
def HB:=@List.replicate_succ
def Dt:=@Nat.mod_lt
def Ni:=@BitVec.toNat_ofInt
def Nj:=@List.set_eq_of_length_le
def dU:=@List.length_map
def HC:=@List.length_range
def qQ:=@List.mem_iff_getElem
def Du:=@List.getElem?_eq_getElem
def zJ:=@List.getElem_mem
def HD:=@ByteArray.ext
def Nk:=@ByteArray.data_extract
def Nl:=@Array.toList_extract
def No:=@List.extract_eq_take_drop
def aR:=@List.getElem?_eq_some_iff
def j5:=@List.flatMap_cons
def wK:=@Nat.zero_mul
def aY:=@List.length_append
def Np:=@List.take_length_add_append
def di:=@List.length_take
def dN:=@List.length_set
def HE:=@List.size_toArray
def gH:=@List.length_drop
def Dv:=@Array.length_toList
def wL:=@Nat.add_zero
def HF:=@List.take_append
def HG:=@List.take_take
def wM:=@Nat.min_eq_left
def iO:=@List.mem_flatMap
def uo:=@List.flatMap_append
def eY:=@List.length_nil
def zK:=@List.append_nil
def HH:=@List.flatMap_singleton
def j6:=@List.length_replicate
def zL:=@List.take_zero
def bS:=@List.length_singleton
def Dw:=@List.cons.injEq
def bp:=@List.mem_singleton
def iW:=@List.getElem?_set
def uY:=@List.getElem?_range
def iX:=@Nat.le_succ_of_le
def sQ:=@Nat.not_lt_zero
def C5:=@Int.mul_add
def yG:=@Int.mul_one
def Ju:=@Nat.le_of_succ_le
def C6:=@Nat.lt_irrefl
def cM:=@Int.le_trans
def iH:=@List.mem_range
def uZ:=@List.nodup_cons
def yH:=@Int.lt_or_le
def C7:=@Nat.succ_pos
def C8:=@Nat.eq_zero_or_pos
def lW:=@List.getElem?_drop
def br:=@List.take_length
def pE:=@List.drop_length
def C9:=@Prod.mk.injEq
def u7:=@List.find?_cons
def Jv:=@List.find?_eq_none
def gP:=@List.mem_map_of_mem
def Jw:=@Option.map_eq_some_iff
def bH:=@beq_iff_eq
def lX:=@List.map_set
def lY:=@List.mem_or_eq_of_mem_set
def bP:=@List.map_append
def ve:=@List.nodup_append
def Jx:=@List.length_erase_of_mem
def vf:=@Prod.ext
def cV:=@List.map_singleton
def nG:=@List.all_eq_false
def aS:=@beq_eq_false_iff_ne
def lZ:=@List.all_append
def yI:=@List.isEmpty_cons
def yJ:=@Bool.not_false
def bt:=@Bool.true_and
def yK:=@List.head?_cons
def nH:=@Option.getD_some
def pF:=@List.take_succ_cons
def vg:=@List.takeWhile_cons
def Jy:=@Nat.add_sub_cancel_left
def Da:=@List.length_eq_zero_iff
def bN:=@decide_eq_true_eq
def Db:=@Int.pow_succ
def eX:=@List.mem_of_mem_take
def nI:=@UInt8.toNat_inj
def yL:=@bne_iff_ne
def mb:=@List.mem_nil_iff
def mc:=@or_false
def Jz:=@UInt8.ofNat_toNat
def JA:=@List.takeWhile_prefix
def jC:=@List.drop_eq_getElem_cons
def vh:=@Nat.add_comm
def sR:=@List.length_tail
def pH:=@Bool.and_eq_false_iff
def iY:=@decide_eq_false_iff_not
def yM:=@Bool.and_true
def kQ:=@Int.mul_le_mul_of_nonneg_left
def gR:=@Int.mul_le_mul_of_nonneg_right
def Dc:=@Int.mul_assoc
def Dd:=@Int.mul_comm
def gS:=@Int.mul_nonneg
def yN:=@List.any_eq_true
def mg:=@List.getElem?_replicate
def aJ:=@List.getD_eq_getElem?_getD
def yO:=@List.range_succ
def vi:=@Int.natCast_add
def jD:=@Int.add_mul
def pI:=@Nat.sub_zero
def De:=@Int.tdiv_eq_ediv_of_nonneg
def Dg:=@Bool.false_and
def yP:=@List.map_nil
def JB:=@List.findIdx?_cons
def Dh:=@List.any_cons
def JC:=@List.findIdx?_eq_none_iff
def iI:=@of_decide_eq_true
def JD:=@Nat.lt_of_le_of_lt
def yQ:=@List.sum_cons
def eG:=@List.map_map
def dz:=@List.map_congr_left
def iJ:=@List.foldl_append
def vj:=@List.getLast?_eq_getElem?
def mh:=@List.foldl_nil
def j4:=@Int.toNat_of_nonneg
def yR:=@Nat.sub_self
def yS:=@List.getElem?_of_mem
def vl:=@List.eq_of_mem_replicate
def vm:=@Int.eq_ofNat_of_zero_le
def sU:=@Bool.true_or
def yT:=@Bool.or_true
def nJ:=@Bool.false_or
def vn:=@List.sum_singleton
def nK:=@List.getElem?_set_self
def Di:=@Int.mul_le_mul
def Dj:=@List.set_set
def Dk:=@decide_eq_decide
def Dl:=@Bool.not_eq_true'
def JE:=@List.mem_of_mem_drop
def JF:=@ByteArray.size_extract
def JG:=@Int.lt_trichotomy
def Dm:=@Bool.eq_iff_iff
def yU:=@and_congr_right
def JH:=@Int.tmod_eq_emod_of_nonneg
def iK:=@Decidable.of_not_not
def JI:=@List.count_eq_zero
def Dn:=@List.contains_iff_mem
def yV:=@List.drop_zero
def JJ:=@List.take_append_drop
def yW:=@Bool.not_eq_false
def JK:=@List.filter_eq_nil_iff
def JL:=@List.filter_eq_self
abbrev af:=World
def dT{p:Prop}[Decidable p](h:p):decide p=true:=decide_eq_true h
def dF{p:Prop}[Decidable p](h : ¬p):decide p=false:=decide_eq_false h
def gE{α:Type}{l:List α}{i:Nat}(h:i<l.length):l[i]?=some l[i]:=List.getElem?_eq_getElem h
abbrev qd (b o:Nat):Addr:=⟨b,o,none⟩
abbrev qp (b:Nat):Value:=.pointer (some ⟨b,0,none⟩)
abbrev qz:Value:=.int .i64 0
abbrev qn:Value:=.slice none 0 0
abbrev qv:=Nat->Value
abbrev qW:=World->Prop
abbrev qN:=World->Nat->Prop
abbrev OA:=Option Addr
abbrev KP:=Value->World->Prop
abbrev qs (b:Nat):Option Addr:=some ⟨b,0,none⟩
def bx{α:Type}(l:List α)(k:Nat)(h:k<l.length):∃ x,l[k]?=some x:=⟨_,List.getElem?_eq_getElem h⟩
abbrev Tm:=List Value
def gt:Tm->Nat->Value
 | [],_=>undef
 | v :: _,0=>v
 | _ :: t,n+1=>gt t n
def st:Tm->Nat->Value->Tm
 | [],_,_=>[]
 | _ :: t,0,v=>v :: t
 | x :: t,n+1,v=>x :: st t n v
def pt(t:Tm)(d:Option Nat)(v:Value):Tm :=
 match d with
 | some d=>st t d v
 | none=>t
def ev(t:Tm):Operand->Value
 | .tmp i=>gt t i
 | .const v=>v
 | .global g=>.pointer (some ⟨g,0,none⟩)
 | .func f=>.func (.func f) #[] #[]
def Ka(t:Tm):∀ i,gt t i=t.toArray.getD i undef:=by
 induction t with
 | nil=>intro i; simp[gt]
 | cons x t a =>
  intro i
  cases i with
  | zero=>simp[gt]
  | succ n=>simp[gt,a]
def Qg(t:Tm):∀ i v,(st t i v)=t.set i v:=by
 induction t with
 | nil=>intro i v; simp[st]
 | cons x t a =>
  intro i v
  cases i with
  | zero=>simp[st]
  | succ n=>simp[st,a]
def pq(t:Tm)(d:List Deferred):Act:={ tmps:=t.toArray,defers:=d }
def nS(t:Tm)(ds:List Deferred)(d:Option Nat)(v:Value):(pq t ds).put d v=pq (pt t d v) ds:=by
 cases d with
 | none=>rfl
 | some d=>simp[pq,Act.put,pt,Qg]
def oV(t:Tm)(ds:List Deferred):(pq t ds).eval=ev t:=by
 funext x
 cases x with
 | tmp i=>simp[Act.eval,pq,ev,Ka]
 | _=>rfl
def On(t:Tm):∀ (i j:Nat) (v:Value),i≠j->gt (st t i v) j=gt t j:=by
 induction t with
 | nil=>intro i j v _; rfl
 | cons x t a =>
  intro i j v h
  cases i with
  | zero=>cases j with
   | zero=>exact absurd rfl h
   | succ j=>rfl
  | succ i=>cases j with
   | zero=>rfl
   | succ j=>exact a i j v (by omega)
def LS(t:Tm)(i:Nat)(v:Value):(st t i v).length=t.length:=by simp[Qg]
theorem Om:∀ (t a:Tm),t.length=a.length->(∀ i,i<t.length->gt t i=gt a i)->t=a
 | [],[],_,_=>rfl
 | x :: t,y :: a,c,h=>by
  have b:=h 0 (by simp);simp only[gt] at b;rw[b,Om t a (by simpa using c) (λ i hi=>by have:=h (i+1) (by simpa using hi); simpa[gt] using this)]
structure I6 where
 a:Int
 b:Int
 c:Int
 d:Int
 e:Int
 f:Int
def I6.vs(u:I6):List Value:=[.int .i64 u.a,.int .i64 u.b,.int .i64 u.c,.int .i64 u.d,.int .i64 u.e,.int .i64 u.f]
inductive SK where
 | int (k:IntKind)
 | bool
 | str
 | ptr
 | slice
 | map
 | blk
 | six
 | raw
inductive TK where
 | s (k:SK)
 | agg (ks:List SK)
inductive Kd where
 | t (k:TK)
 | tup (ks:List TK)
def Uc:SK->(Value->Prop)->Prop
 | .int k,K=>∃ n:Int,K (.int k n)
 | .bool,K=>∃ b:Bool,K (.bool b)
 | .str,K=>∃ s:ByteArray,K (.string s)
 | .ptr,K=>∃ p:Option Addr,K (.pointer p)
 | .slice,K=>∃ (a:Option Addr) (l c:Nat),K (.slice a l c)
 | .map,K=>∃ r:Option Nat,K (.map r)
 | .blk,K=>∃ r:Nat,K (.pointer (some ⟨r,0,none⟩))
 | .six,_=>False
 | .raw,K=>∃ v:Value,K v
def Vg:List SK->(List Value->Prop)->Prop
 | [],K=>K []
 | .six :: ks,K=>∃ u:I6,Vg ks λ vs=>K (u.vs++vs)
 | k :: ks,K=>Uc k λ v=>Vg ks λ vs=>K (v :: vs)
def Ue:TK->(Value->Prop)->Prop
 | .s k,K=>Uc k K
 | .agg ks,K=>Vg ks λ vs=>K (.agg vs.toArray)
def RR:List TK->(List Value->Prop)->Prop
 | [],K=>K []
 | k :: ks,K=>Ue k λ v=>RR ks λ vs=>K (v :: vs)
def Zq:Kd->(Value->Prop)->Prop
 | .t k,K=>Ue k K
 | .tup ks,K=>RR ks λ vs=>K (.tuple vs.toArray)
def DT{k:SK}{K:Value->Prop}(h:Uc k K):∃ v,K v:=by
 cases k<;>simp only[Uc] at h
 case slice=>obtain⟨a,l,c,h⟩:=h; exact⟨_,h⟩
 all_goals (obtain⟨v,h⟩:=h; exact⟨_,h⟩)
def Io:List SK->Nat
 | []=>0
 | .six :: ks=>Io ks+6
 | _ :: ks=>Io ks+1
def Wu(k:SK):k=.six\/k≠.six:=by cases k<;>simp
def N6{k:SK}{ks:List SK}{K:List Value->Prop}(a:k≠.six):Vg (k :: ks) K=Uc k λ v=>Vg ks λ vs=>K (v :: vs):=by cases k<;>first|rfl|exact absurd rfl a
def LR{k:SK}{ks:List SK}(a:k≠.six):Io (k :: ks)=Io ks+1:=by cases k<;>first|rfl|exact absurd rfl a
theorem DS:∀ {ks:List SK} {K:List Value->Prop},Vg ks K->∃ vs,vs.length=Io ks/\K vs
 | [],_,h=>⟨[],rfl,h⟩
 | k :: ks,K,h=>by
  rcases Wu k with rfl|b
  ·obtain⟨u,h⟩:=h;obtain⟨vs,a,h⟩:=DS h;exact⟨u.vs++vs,by simp[a,Io,I6.vs],h⟩
  ·rw[N6 b] at h;obtain⟨v,h⟩:=DT h;obtain⟨vs,a,h⟩:=DS h;exact⟨v :: vs,by rw[LR b]; simp[a],h⟩
def uy{k:TK}{K:Value->Prop}(h:Ue k K):∃ v,K v:=by
 cases k with
 | s k=>exact DT h
 | agg ks=>obtain⟨vs,_,h⟩:=DS h; exact⟨_,h⟩
theorem DU:∀ {ks:List TK} {K:List Value->Prop},RR ks K->∃ vs,K vs
 | [],_,h=>⟨[],h⟩
 | _ :: _,_,h=>by
  obtain⟨v,h⟩:=uy h;obtain⟨vs,h⟩:=DU h;exact⟨v :: vs,h⟩
def N5{k:Kd}{K:Value->Prop}(h:Zq k K):∃ v,K v:=by
 cases k with
 | t k=>exact uy h
 | tup ks=>obtain⟨vs,h⟩:=DU h; exact⟨_,h⟩
def QN:IntKind->IntKind->Bool
 | .i8,.i8|.i16,.i16|.i32,.i32|.i64,.i64|.u8,.u8|.u16,.u16|.u32,.u32|.u64,.u64=>true
 | _,_=>false
def ru{a b:IntKind}(h:QN a b=true):a=b:=by cases a<;>cases b<;>first|rfl|(simp[QN] at h)
def nM{b:Bool}{R:Prop}(h:cond b R False):b=true/\R:=by cases b<;>simp_all
def Yq(P:Program)(t:TypeId):SK :=
 match P.underlying t with
 | some .bool=>.bool
 | some (.int k)=>.int k
 | some .string=>.str
 | some (.pointer _)=>.ptr
 | some (.slice _)=>.slice
 | some (.map _ _)=>.map
 | _=>.raw
def XN(P:Program)(t:TypeId):Bool:=match P.underlying t with
 | some (.int .i64)=>true
 | _=>false
def DG(P:Program):Nat->TypeId->List SK
 | 0,_=>[]
 | n+1,t =>
  match P.underlying t with
  | some (.struct a)=>a.toList.flatMap λ f=>DG P n f.type
  | some (.array len e)=>cond (Nat.beq len 6&&XN P e) [.six] (List.replicate len (DG P n e)).flatten
  | _=>[Yq P t]
def wz(P:Program)(t:TypeId):TK :=
 match P.underlying t with
 | some (.struct _)=>.agg (DG P 12 t)
 | some (.array _ _)=>.agg (DG P 12 t)
 | _=>.s (Yq P t)
def XP(P:Program)(t:TypeId):Kd :=
 match P.underlying t with
 | some (.tuple a)=>.tup (a.toList.map (wz P))
 | _=>.t (wz P t)
def isRow:Obj->Bool
 | .cells ..=>true
 | _=>false
def Hu(P:Program){α:Type}:Sem α->World->(α->World->Prop)->Prop
 | .pure a,w,K=>K a w
 | .load _ a k,w,K=>∃ v,w.cell? a=some v/\Hu P (k v) w K
 | .store _ a v k,w,K=>v.oneCell'=true/\(∃ x,w.cell? a=some x)/\w.frozen? a=false/\Hu P k (w.setCell a v) K
 | .new o k,w,K=>Hu P (k w.heap.size) (w.alloc o) K
 | .shape r k,w,K=>Hu P (k (w.shape? r)) w K
 | .freeze a n k,w,K=>Hu P k (w.freeze a n) K
 | .frozen a k,w,K=>Hu P (k (w.frozen? a)) w K
 | .getObj r k,w,K=>∃ o,w.heap[r]?=some o/\isRow o=false/\Hu P (k o) w K
 | .setObj r o k,w,K=>∃ x,w.heap[r]?=some x/\isRow x=false/\Hu P k { w with heap:=w.heap.setIfInBounds r o } K
 | .choose q k,w,K=>cond q.forced (Hu P (k 0) w K) (∀ t,Hu P (k (q.cut t)) w.drew K)
 | .sys _ _,_,_=>False
 | .program k,w,K=>Hu P (k P) w K
 | .mark _ k,w,K=>Hu P k w K
 | .halt _,_,_=>False
def KA{P:Program}{α:Type}:∀ (s:Sem α) (w:World) (K:α->World->Prop),Hu P s w K->∃ a w',s.run P w=.ok a w'/\K a w':=by
 intro s
 induction s with
 | pure a=>exact λ w K h=>⟨a,w,rfl,h⟩
 | load m a k b =>
  rintro w K ⟨v,j,h⟩;obtain⟨x,w',e,d⟩:=b v w K h;exact⟨x,w',by simp only[Sem.run,j]; exact e,d⟩
 | store m a v k b =>
  rintro w K ⟨h1,⟨x,l⟩,i,h⟩;obtain⟨y,w',e,d⟩:=b (w.setCell a v) K h;refine⟨y,w',?_,d⟩
  cases v<;>first|(simp[Value.oneCell'] at h1; done)|(simp only[Sem.run,l,i]; exact e)
 | new o k b=>exact λ w K h=>b _ _ K h
 | shape r k b=>exact λ w K h=>b _ _ K h
 | freeze a n k b=>exact λ w K h=>b _ K h
 | frozen a k b=>exact λ w K h=>b _ _ K h
 | getObj r k b =>
  rintro w K ⟨o,g,f,h⟩;obtain⟨x,w',e,d⟩:=b o w K h;refine⟨x,w',?_,d⟩;simp only[Sem.run,g]
  cases o<;>first|(simp[isRow] at f; done)|exact e
 | setObj r o k b =>
  rintro w K ⟨p,g,f,h⟩;obtain⟨x,w',e,d⟩:=b _ K h;refine⟨x,w',?_,d⟩;simp only[Sem.run,g]
  cases p <;> first|(simp[isRow] at f; done)|exact e
 | choose q k b =>
  intro w K h;simp only[Hu] at h
  cases hq:q.forced with
  | true =>
   rw[hq] at h;obtain⟨x,w',e,d⟩:=b 0 w K h;exact⟨x,w',by simp only[Sem.run,hq,if_true]; exact e,d⟩
  | false =>
   rw[hq] at h;obtain⟨x,w',e,d⟩:=b _ w.drew K (h (w.tape w.drawn q));exact⟨x,w',by simp only[Sem.run,hq,Bool.false_eq_true,if_false]; exact e,d⟩
 | sys c k b=>exact λ w K h=>h.elim
 | program k b=>exact λ w K h=>b P w K h
 | mark m k b=>exact λ w K h=>b w K h
 | halt x=>exact λ w K h=>h.elim
abbrev FW (ro:Option Nat):Fence:={ Fence.wide with round:=ro }
def Cu(P:Program)(ty:TypeId)(K:Value->World->Prop):Next->World->Prop
 | .value v,w=>K v w
 | .skip,w=>K undef w
 | .enter f args,w=>Calls P f args w λ e w'=>Zq (XP P ty) λ v=>e=.returned v/\K v w'
 | .round l f tmps assign body,w=>RoundIn Fence.wide 0 P l f tmps assign body w λ e w'=>∃ v,e=.returned v/\K v w'
 | _,_=>False
def pK(P:Program)(l:Nat)(args:Array Value)(w:World)(K:Bool->World->Prop):Prop :=
 YieldAt Fence.wide 0 P l args w λ e w'=>∃ b,e=.returned (.bool b)/\K b w'
def kV:Op->Bool
 | .defer _=>false
 | _=>true
def mU{o:Op}(h:kV o=true):∀ c,o≠.defer c:=λ c e=>by rw[e] at h; cases h
def sK{P:Program}{ro:Option Nat}{o:Oper}{a:Act}{w:World}{ty:TypeId}{K:Value->World->Prop}{N:Act->World->Prop}{Q:Exit->Act->World->Prop}{n:Next}(c:∀ v w',K v w'->N (a.put o.dst v) w')(b:Cu P ty K n w):o.uponIn (FW ro) 0 P a N Q (.ok n w):=by
 cases n<;>simp only[Cu] at b<;>simp only[Oper.uponIn]
 ·exact c _ _ b
 ·exact c _ _ b
 ·refine⟨λ h=>(by cases h),?_⟩;have h1:CallsIn Fence.wide 0 P _ _ w _:=callsIn_wide.2 b;refine CallsIn.mono (show CallsIn (FW ro) 0 P _ _ w _ from h1) λ e f he=>?_;obtain⟨v,rfl,d⟩:=N5 he;exact c _ _ d
 ·refine⟨λ h=>(by cases h),RoundIn.mono (show RoundIn (FW ro) 0 P _ _ _ _ _ w _ from b) λ e f he=>?_⟩;obtain⟨v,rfl,d⟩:=he;exact c _ _ d
def holds(T:List (World->Prop))(w:World):Prop:=∀ f∈T,f w
def S8(P:Program){α:Type}:Sem α->World->List (World->Prop)->(α->List (World->Prop)->Prop)->Prop
 | .pure a,_,T,K=>K a T
 | .load _ a k,w,T,K=>∃ v,w.cell? a=some v/\S8 P (k v) w ((λ w'=>w'.cell? a=some v) :: T) K
 | .shape r k,w,T,K=>S8 P (k (w.shape? r)) w ((λ w'=>w'.shape? r=w.shape? r) :: T) K
 | .frozen a k,w,T,K=>S8 P (k (w.frozen? a)) w ((λ w'=>w'.frozen? a=w.frozen? a) :: T) K
 | .getObj r k,w,T,K=>∃ o,w.heap[r]?=some o/\isRow o=false/\S8 P (k o) w ((λ w'=>w'.heap[r]?=some o) :: T) K
 | .choose q k,w,T,K=>cond q.forced (S8 P (k 0) w T K) False
 | .program k,w,T,K=>S8 P (k P) w T K
 | _,_,_,_=>False
def S9{P:Program}{α:Type}:∀ (s:Sem α) (w:World) (T:List (World->Prop)) (K:α->List (World->Prop)->Prop),S8 P s w T K ->
  ∃ a d,K a d/\(holds T w->holds d w)/\∀ w',holds d w'->holds T w'/\s.run P w' = .ok a w':=by
 intro s
 induction s with
 | pure a=>exact λ w T K h=>⟨a,T,h,id,λ w' hw=>⟨hw,rfl⟩⟩
 | load m a k e =>
  rintro w T K ⟨v,l,h⟩;obtain⟨x,d,i,hw,g⟩:=e v w _ K h;refine⟨x,d,i,λ j=>hw λ f b=>?_,λ w' c=>?_⟩
  ·rcases List.mem_cons.1 b with rfl|b
   ·exact l
   ·exact j f b
  ·obtain⟨h1,h2⟩:=g w' c;have h3:w'.cell? a=some v:=h1 _ (List.mem_cons_self ..);exact⟨λ f b=>h1 f (List.mem_cons_of_mem _ b),by simp only[Sem.run,h3]; exact h2⟩
 | shape r k e =>
  intro w T K h;obtain⟨x,d,i,hw,g⟩:=e _ w _ K h;refine⟨x,d,i,λ j=>hw λ f b=>?_,λ w' c=>?_⟩
  ·rcases List.mem_cons.1 b with rfl|b
   ·rfl
   ·exact j f b
  ·obtain⟨h1,h2⟩:=g w' c;have h3:w'.shape? r=w.shape? r:=h1 _ (List.mem_cons_self ..);exact⟨λ f b=>h1 f (List.mem_cons_of_mem _ b),by simp only[Sem.run,h3]; exact h2⟩
 | frozen r k e =>
  intro w T K h;obtain⟨x,d,i,hw,g⟩:=e _ w _ K h;refine⟨x,d,i,λ j=>hw λ f b=>?_,λ w' c=>?_⟩
  ·rcases List.mem_cons.1 b with rfl|b
   ·rfl
   ·exact j f b
  ·obtain⟨h1,h2⟩:=g w' c;have h3:w'.frozen? r=w.frozen? r:=h1 _ (List.mem_cons_self ..);exact⟨λ f b=>h1 f (List.mem_cons_of_mem _ b),by simp only[Sem.run,h3]; exact h2⟩
 | getObj r k e =>
  rintro w T K ⟨v,l,n,h⟩;obtain⟨x,d,i,hw,g⟩:=e v w _ K h;refine⟨x,d,i,λ j=>hw λ f b=>?_,λ w' c=>?_⟩
  ·rcases List.mem_cons.1 b with rfl|b
   ·exact l
   ·exact j f b
  ·obtain⟨h1,h2⟩:=g w' c;have h3:w'.heap[r]?=some v:=h1 _ (List.mem_cons_self ..);refine⟨λ f b=>h1 f (List.mem_cons_of_mem _ b),?_⟩;simp only[Sem.run,h3]
   cases v<;>first|(simp[isRow] at n; done)|exact h2
 | choose q k e =>
  intro w T K h;simp only[S8] at h
  cases hq:q.forced with
  | true =>
   rw[hq] at h;obtain⟨x,d,i,hw,g⟩:=e _ w _ K h;exact⟨x,d,i,hw,λ w' c=>⟨(g w' c).1,by simp only[Sem.run,hq,if_true]; exact(g w' c).2⟩⟩
  | false=>rw[hq] at h; exact h.elim
 | program k e=>exact λ w T K h=>e P w T K h
 | store=>exact λ w T K h=>h.elim
 | new=>exact λ w T K h=>h.elim
 | freeze=>exact λ w T K h=>h.elim
 | setObj=>exact λ w T K h=>h.elim
 | sys=>exact λ w T K h=>h.elim
 | mark=>exact λ w T K h=>h.elim
 | halt=>exact λ w T K h=>h.elim
end Go.Vc
namespace Go.Vc
def bO{α:Type}(p:Option α)(F:α->Prop):Prop :=
 match p with
 | some a=>F a
 | none=>False
def je{α:Type}{p:Option α}{F:α->Prop}(h:bO p F):∃ a,p=some a/\F a:=by
 cases p with
 | none=>exact h.elim
 | some a=>exact⟨a,rfl,h⟩
def yD(P:Program)(t:TypeId):Option Nat:=(P.info? t).map (·.size)
def wP(x:Option Value)(a top:Nat)(F:Nat->Prop):Prop :=
 match x with
 | none=>F a
 | some (.int _ i)=>0<=i/\i<=(top:Int)/\F i.toNat
 | some _=>False
def ZQ(P:Program)(ty:TypeId)(x:Value)(lo hi mx:Option Value)(K:Value->Prop):Prop :=
 match P.underlying ty with
 | some .string=>match x,mx with
  | .string s,none=>wP hi s.size s.size λ h=>wP lo 0 h λ l=>K (.string (s.extract l h))
  | _,_=>False
 | some (.slice e)=>match x with
  | .slice a len cap=>cond (mx.isSome&&hi.isNone) False <| bO (yD P e) λ sz=>wP mx cap cap λ m=>wP hi len m λ h=>wP lo 0 h λ l =>
    K (.slice (if m=l then a else a.map (·.add (l*sz))) (h-l) (m-l))
  | _=>False
 | _=>False
def Zu(P:Program)(ty:TypeId)(x i:Value)(K:Value->Prop):Prop :=
 match P.underlying ty,i with
 | some .string,.int _ i=>match x with
  | .string s=>0<=i/\bO s[i.toNat]? λ b=>K (.int .u8 b.toNat)
  | _=>False
 | some (.array n e),.int _ i=>match x with
  | .agg cs=>0<=i/\i<(n:Int)/\bO (yD P e) λ sz=>(match wz P e with
    | .s k=>cond (P.underlying e).isSome (Uc k λ v=>cs[i.toNat*sz]?=some v/\K v) False
    | .agg _=>K (.agg (cs.extract (i.toNat*sz) (i.toNat*sz+sz))))
  | _=>False
 | _,_=>False
def Vz(P:Program)(ty:TypeId)(x i:Value)(K:Value->Prop):Prop :=
 match P.underlying ty,i with
 | some (.slice e),.int _ i=>match x with
  | .slice base len _=>bO base λ ad=>0<=i/\i<(len:Int)/\bO (yD P e) λ sz=>K (.pointer (some (ad.add (i.toNat*sz))))
  | _=>False
 | some (.array n e),.int _ i=>match x with
  | .pointer base=>bO base λ ad=>0<=i/\i<(n:Int)/\bO (yD P e) λ sz=>K (.pointer (some (ad.add (i.toNat*sz))))
  | _=>False
 | _,_=>False
def OZ(v:Value)(F:Bool->Prop):Prop :=
 match v with
 | .nilIface=>F true
 | .iface _ _=>F false
 | _=>False
def OY(v:Value)(F:Bool->Prop):Prop :=
 match v with
 | .nilFunc=>F true
 | .func _ _ _=>F false
 | _=>False
def L7(P:Program)(ty:TypeId)(neg:Bool)(x:Value)(y:Operand):Option ((Value->Prop)->Prop) :=
 match P.underlying ty,y with
 | some (.pointer _),.const (.pointer none)=>match x with
  | .pointer p=>some λ K=>K (.bool (cond neg (!p.isNone) p.isNone))
  | _=>none
 | some (.slice _),.const (.slice none _ _)=>match x with
  | .slice a _ _=>some λ K=>K (.bool (cond neg (!a.isNone) a.isNone))
  | _=>none
 | some (.interface _),.const .nilIface=>some λ K=>OZ x λ b=>K (.bool (cond neg (!b) b))
 | some (.func _ _ _),.const .nilFunc=>some λ K=>OY x λ b=>K (.bool (cond neg (!b) b))
 | _,_=>none
def Ow:TypeDesc->Bool
 | .struct _=>true
 | .array _ _=>true
 | _=>false
def xS(P:Program)(e:TypeId)(cs:Array Value)(off:Nat):Option Value :=
 match P.underlying e,yD P e with
 | some d,some sz=>cond (Ow d) (some (.agg (cs.extract off (off+sz)))) cs[off]?
 | _,_=>none
def E5:List (Option Bool)->Option Bool
 | []=>some true
 | none :: _=>none
 | some b :: l=>match E5 l with
  | none=>none
  | some r=>some (b&&r)
def Ub(P:Program):Nat->TypeId->Value->Value->Option Bool
 | 0,_,_,_=>none
 | d+1,t,x,y =>
  match P.underlying t with
  | some .bool=>match x,y with
   | .bool a,.bool b=>some (a==b)
   | _,_=>none
  | some (.int _)=>match x,y with
   | .int k a,.int h b=>cond (QN k h) (some (a==b)) none
   | _,_=>none
  | some .string=>match x,y with
   | .string a,.string b=>some (a==b)
   | _,_=>none
  | some (.struct g)=>match x,y with
   | .agg xs,.agg c=>cond (P.stoodInHeld t||g.toList.any λ f=>f.name== "_") none
     (E5 (g.toList.map λ f=>match xS P f.type xs f.offset,xS P f.type c f.offset with
      | some a,some b=>Ub P d f.type a b
      | _,_=>none))
   | _,_=>none
  | some (.array n e)=>match x,y with
   | .agg xs,.agg c=>match yD P e with
    | none=>none
    | some sz=>E5 ((List.range n).map λ i=>match xS P e xs (i*sz),xS P e c (i*sz) with
      | some a,some b=>Ub P d e a b
      | _,_=>none)
   | _,_=>none
  | _=>none
def Q4(P:Program)(ty:TypeId)(neg:Bool)(x y:Value):Option ((Value->Prop)->Prop) :=
 match x,y with
 | .agg xs,.agg a=>cond (P.eqGuardType P.depth ty) none (match Ub P 12 ty (.agg xs) (.agg a) with
  | some b=>some λ K=>K (.bool (cond neg (!b) b))
  | none=>none)
 | _,_=>none
def Zd(op:BinOp)(x y:Value):Option ((Value->Prop)->Prop) :=
 match op,x,y with
 | .quo,.int k a,.int c b=>cond (QN k c) (some λ K=>b≠0/\K (.int k (k.wrap (a.tdiv b)))) none
 | .rem,.int k a,.int c b=>cond (QN k c) (some λ K=>b≠0/\K (.int k (a.tmod b))) none
 | .shl,.int k a,.int _ b=>some λ K=>0<=b/\K (.int k (k.wrap (a*2 ^ (min b.toNat k.bits))))
 | .shr,.int k a,.int _ b=>some λ K=>0<=b/\K (.int k (a.fdiv (2 ^ (min b.toNat k.bits))))
 | .add,.string a,.string b=>some λ K=>((a.size+b.size:Nat):Int)<=IntKind.i64.max/\K (.string (a++b))
 | _,_,_=>none
def X3{α:Type}(x y:Option α):Option α :=
 match x with
 | some a=>some a
 | none=>y
def TB(P:Program)(o:Oper)(t:Tm):Option ((Value->Prop)->Prop) :=
 match o.op with
 | .move x|.assign x=>some λ K=>K (ev t x)
 | .pick c a b=>match ev t c with
  | .bool x=>some λ K=>cond x (K (ev t a)) (K (ev t b))
  | _=>none
 | .convert src dst x=>match P.underlying src,P.underlying dst,ev t x with
  | some _,some (.int k),.int _ n=>some λ K=>K (.int k (k.wrap n))
  | _,_,_=>none
 | .nilCheck x=>match ev t x with
  | .pointer p=>some λ K=>bO p λ a=>K (.pointer (some a))
  | _=>none
 | .slice ty x lo hi mx=>some (ZQ P ty (ev t x) (lo.map (ev t)) (hi.map (ev t)) (mx.map (ev t)))
 | .index ty x i=>some (Zu P ty (ev t x) (ev t i))
 | .indexAddr ty x i=>some (Vz P ty (ev t x) (ev t i))
 | .binOp op ty x y _=>match op with
  | .eql=>X3 (L7 P ty false (ev t x) y) (X3 (L7 P ty false (ev t y) x) (Q4 P ty false (ev t x) (ev t y)))
  | .neq=>X3 (L7 P ty true (ev t x) y) (X3 (L7 P ty true (ev t y) x) (Q4 P ty true (ev t x) (ev t y)))
  | op=>Zd op (ev t x) (ev t y)
 | _=>none
def DC{P:Program}{x:Option Value}{d top:Nat}{F:Nat->Prop}(h:wP x d top F) :
  ∃ n,F n/\∀ (code:BoundsCode) (w:World),(match x with|some v=>(Instr.sliceBound v top code).run P w|none=>.ok d w)=.ok n w:=by
 unfold wP at h
 split at h
 ·exact⟨d,h,λ _ _=>rfl⟩
 ·rename_i k i;obtain⟨a,h1,h2⟩:=h;exact⟨i.toNat,h2,λ _ _=>by simp[Instr.sliceBound,asIntOf,a,h1]⟩
 ·exact h.elim
def bu{P:Program}{t:TypeId}{d:TypeDesc}(h:P.underlying t=some d)(w:World):(underlying t).run P w=.ok d w:=by
 simp[underlying,h]
def sE{P:Program}{t:TypeId}{n:Nat}(h:yD P t=some n)(w:World):(sizeOf t).run P w=.ok n w:=by
 unfold yD at h
 cases hi:P.info? t with
 | none=>simp[hi] at h
 | some i=>simp[hi] at h; simp[sizeOf,typeInfo,hi,h]
def zR{P:Program}{b:Bool}{len cap:Nat}{lo hi mx:Option Value}{F:Nat->Nat->Nat->Prop}(hm:mx=none\/hi≠none)(h:wP mx cap cap λ m=>wP hi len m λ h=>wP lo 0 h λ l=>F l h m) :
  ∃ l h m,F l h m/\∀ w,(Instr.sliceBounds b len cap lo hi mx).run P w=.ok (l,h,m) w:=by
 obtain⟨m,g1,e⟩:=DC (P:=P) h;obtain⟨f,g2,a⟩:=DC (P:=P) g1;obtain⟨l,g3,d⟩:=DC (P:=P) g2;refine⟨l,f,m,g3,λ w=>?_⟩;have a1:=λ c=>e c w;have a2:=λ c=>a c w;have a3:=λ c=>d c w;clear h g1 g2 g3 e a d
 cases mx with
 | none =>
  have:=a1 .index;simp only[Result.ok.injEq,and_true] at this;subst this
  cases hi<;>cases lo<;>simp_all [Instr.sliceBounds]
 | some i =>
  cases hi with
  | none=>simp at hm
  | some g=>cases lo<;>simp_all [Instr.sliceBounds]
def Tx{P:Program}{ty:TypeId}{x:Value}{lo hi mx:Option Value}{K:Value->Prop}(h:ZQ P ty x lo hi mx K) :
  ∃ v,(∀ w,(Instr.sliceAt ty x lo hi mx).run P w=.ok v w)/\K v:=by
 unfold ZQ at h
 split at h
 ·rename_i hu
  split at h
  ·rename_i s;obtain⟨l,c,m,d,f⟩:=zR (P:=P) (b:=false) (len:=s.size) (cap:=s.size) (lo:=lo) (hi:=hi) (mx:=none) (F:=λ l c _=>K (.string (s.extract l c))) (.inl rfl) h;exact⟨_,λ w=>by simp[Instr.sliceAt,Instr.slice,bu hu,f],d⟩
  ·exact h.elim
 ·rename_i e hu
  split at h
  ·rename_i a len cap;have hm:mx=none\/hi≠none:=by
    cases mx with
    | none=>exact .inl rfl
    | some _=>cases hi with
     | none=>exact h.elim
     | some _=>exact .inr (by simp)
   have h:bO (yD P e) λ sz=>wP mx cap cap λ m=>wP hi len m λ h=>wP lo 0 h λ l =>
     K (.slice (if m=l then a else a.map (·.add (l*sz))) (h-l) (m-l)):=by
    cases hb:(mx.isSome&&hi.isNone) with
    | false=>rw[hb] at h; exact h
    | true=>rw[hb] at h; exact h.elim
   obtain⟨sz,g,h⟩:=je h;obtain⟨l,c,m,d,f⟩:=zR (P:=P) (b:=true) hm h;exact⟨_,λ w=>by simp[Instr.sliceAt,Instr.slice,bu hu,f,sE g],d⟩
  ·exact h.elim
 ·exact h.elim
def JN{P:Program}{t:TypeId}{ks:List SK}(h:wz P t=.agg ks)(w:World):(isAgg t).run P w=.ok true w:=by
 unfold wz at h
 split at h
 ·rename_i hu; simp[isAgg,bu hu]
 ·rename_i hu; simp[isAgg,bu hu]
 ·cases h
def Cw{P:Program}{t:TypeId}{k:SK}(h:wz P t=.s k)(hi:(P.underlying t).isSome=true)(w:World):(isAgg t).run P w=.ok false w:=by
 unfold wz at h
 split at h
 ·cases h
 ·cases h
 ·rename_i h1 h2
  cases hu:P.underlying t with
  | none=>simp[hu] at hi
  | some d =>
   cases d<;>first|exact absurd hu (h1 _)|exact absurd hu (h2 _ _)|simp[isAgg,bu hu]
def Sd{P:Program}{ty:TypeId}{x i:Value}{K:Value->Prop}(h:Zu P ty x i K) :
  ∃ v,(∀ w,(Instr.index ty x i).run P w=.ok v w)/\K v:=by
 unfold Zu at h
 split at h
 ·rename_i k n hu
  split at h
  ·rename_i s;obtain⟨d,h⟩:=h;obtain⟨b,g,a⟩:=je h;exact⟨_,λ w=>by simp[Instr.index,asIntOf,bu hu,d,g],a⟩
  ·exact h.elim
 ·rename_i n e k i hu
  split at h
  ·rename_i cs;obtain⟨d,h1,h⟩:=h;obtain⟨sz,c,h⟩:=je h
   split at h
   ·rename_i k a;obtain⟨hi,h⟩:=nM h;obtain⟨v,j,f⟩:=DT h;exact⟨v,λ w=>by simp[Instr.index,asIntOf,bu hu,d,h1,part,Cw a hi,sE c,j],f⟩
   ·rename_i ks a;exact⟨_,λ w=>by simp[Instr.index,asIntOf,bu hu,d,h1,part,JN a,sE c],h⟩
  ·exact h.elim
 ·exact h.elim
def Oy{P:Program}{ty:TypeId}{x i:Value}{K:Value->Prop}(h:Vz P ty x i K) :
  ∃ v,(∀ w,(Instr.indexAt ty x i).run P w=.ok v w)/\K v:=by
 unfold Vz at h
 split at h
 ·rename_i e k i hu
  split at h
  ·obtain⟨ad,rfl,b,h1,h⟩:=je h;obtain⟨sz,a,h⟩:=je h;exact⟨_,λ w=>by simp[Instr.indexAt,asIntOf,bu hu,b,h1,sE a],h⟩
  ·exact h.elim
 ·rename_i n e k i hu
  split at h
  ·obtain⟨ad,rfl,b,h1,h⟩:=je h;obtain⟨sz,a,h⟩:=je h;exact⟨_,λ w=>by simp[Instr.indexAt,Instr.sureAddr,asIntOf,bu hu,b,h1,sE a],h⟩
  ·exact h.elim
 ·exact h.elim
def kT{P:Program}{ty:TypeId}{x y:Value}{b:Bool}{w:World}(h:∀ d,(Op.equalIn (d+1) ty x y).run P w=.ok b w):(Op.equal ty x y).run P w=.ok b w:=h 9999
def j9{P:Program}{ty:TypeId}{x y:Value}{b neg:Bool}{w:World}(h:(Op.equal ty x y).run P w=.ok b w)(a:(binOp (cond neg .neq .eql) ty x y)=(do let r <- Op.equal ty x y; pure (.bool (cond neg (!r) r)))):(binOp (cond neg .neq .eql) ty x y).run P w=.ok (.bool (cond neg (!b) b)) w:=by
 rw[a];simp[h]
def zj{P:Program}{ty:TypeId}{neg:Bool}{t:Tm}{x y:Operand}{F:(Value->Prop)->Prop}(f:L7 P ty neg (ev t x) y=some F){K:Value->Prop}(h:F K) :
  ∃ v,(∀ w,(do eqGuard (cond neg .neq .eql) ty x y (ev t x) (ev t y); binOp (cond neg .neq .eql) ty (ev t x) (ev t y):Sem Value).run P w=.ok v w/\(do eqGuard (cond neg .neq .eql) ty y x (ev t y) (ev t x); binOp (cond neg .neq .eql) ty (ev t y) (ev t x):Sem Value).run P w=.ok v w)/\K v:=by
 unfold L7 at f
 split at f
 ·rename_i e hu
  split at f
  ·rename_i p hp
   cases f
   refine⟨_,λ w=>?_,h⟩;have h1:(Op.equal ty (.pointer p) (.pointer none)).run P w=.ok p.isNone w:=kT λ d=>by cases p<;>simp[Op.equalIn,bu hu]
   have h2:(Op.equal ty (.pointer none) (.pointer p)).run P w=.ok p.isNone w:=kT λ d=>by cases p<;>simp[Op.equalIn,bu hu]
   have h3:=j9 (neg:=neg) h1 (by cases neg<;>rfl);have h4:=j9 (neg:=neg) h2 (by cases neg<;>rfl);have g1:∀ a b:Operand,(eqGuard (cond neg .neq .eql) ty a b (.pointer p) (.pointer none)).run P w=.ok () w:=λ a b=>by cases neg<;>simp[eqGuard]
   have g2:∀ a b:Operand,(eqGuard (cond neg .neq .eql) ty a b (.pointer none) (.pointer p)).run P w=.ok () w:=λ a b=>by cases neg<;>simp[eqGuard]
   rw[hp];simp only[ev,Sem.run_bind,g1,g2,Result.andThen_ok,h3,h4,BK]
  ·cases f
 ·rename_i e l c hu
  split at f
  ·rename_i p k c' hp
   cases f
   refine⟨_,λ w=>?_,h⟩;have h1:(Op.equal ty (.slice p k c') (.slice none l c)).run P w=.ok p.isNone w:=kT λ d=>by cases p<;>simp[Op.equalIn,bu hu]
   have h2:(Op.equal ty (.slice none l c) (.slice p k c')).run P w=.ok p.isNone w:=kT λ d=>by cases p<;>simp[Op.equalIn,bu hu]
   have h3:=j9 (neg:=neg) h1 (by cases neg<;>rfl);have h4:=j9 (neg:=neg) h2 (by cases neg<;>rfl);have g1:∀ a b:Operand,(eqGuard (cond neg .neq .eql) ty a b (.slice p k c') (.slice none l c)).run P w=.ok () w:=λ a b=>by cases neg<;>simp[eqGuard]
   have g2:∀ a b:Operand,(eqGuard (cond neg .neq .eql) ty a b (.slice none l c) (.slice p k c')).run P w=.ok () w:=λ a b=>by cases neg<;>simp[eqGuard]
   rw[hp];simp only[ev,Sem.run_bind,g1,g2,Result.andThen_ok,h3,h4,BK]
  ·cases f
 ·rename_i ms hu
  cases f
  revert h;generalize ev t x=v;intro h
  cases v<;>simp only[OZ] at h
  ·rename_i tx m;refine⟨_,λ w=>?_,h⟩;have h1:(Op.equal ty (.iface tx m) .nilIface).run P w=.ok false w:=kT λ d=>by simp[Op.equalIn,bu hu]
   have h2:(Op.equal ty .nilIface (.iface tx m)).run P w=.ok false w:=kT λ d=>by simp[Op.equalIn,bu hu]
   have h3:=j9 (neg:=neg) h1 (by cases neg<;>rfl);have h4:=j9 (neg:=neg) h2 (by cases neg<;>rfl);have g1:(eqGuard (cond neg .neq .eql) ty x (.const .nilIface) (.iface tx m) .nilIface).run P w=.ok () w:=by cases neg<;>simp[eqGuard]
   have g2:(eqGuard (cond neg .neq .eql) ty (.const .nilIface) x .nilIface (.iface tx m)).run P w=.ok () w:=by cases neg<;>simp[eqGuard]
   simp only[ev,Sem.run_bind,g1,g2,Result.andThen_ok,h3,h4,BK]
  ·refine⟨_,λ w=>?_,h⟩;have h1:(Op.equal ty .nilIface .nilIface).run P w=.ok true w:=kT λ d=>by simp[Op.equalIn,bu hu]
   have h3:=j9 (neg:=neg) h1 (by cases neg<;>rfl);have g1:(eqGuard (cond neg .neq .eql) ty x (.const .nilIface) .nilIface .nilIface).run P w=.ok () w:=by cases neg<;>simp[eqGuard]
   have g2:(eqGuard (cond neg .neq .eql) ty (.const .nilIface) x .nilIface .nilIface).run P w=.ok () w:=by cases neg<;>simp[eqGuard]
   simp only[ev,Sem.run_bind,g1,g2,Result.andThen_ok,h3,BK]
 ·rename_i a1 a2 a3 hu
  cases f
  revert h;generalize ev t x=v;intro h
  cases v<;>simp only[OY] at h
  ·rename_i g i j;refine⟨_,λ w=>?_,h⟩;have h1:(Op.equal ty (.func g i j) .nilFunc).run P w=.ok false w:=kT λ d=>by simp[Op.equalIn,bu hu]
   have h2:(Op.equal ty .nilFunc (.func g i j)).run P w=.ok false w:=kT λ d=>by simp[Op.equalIn,bu hu]
   have h3:=j9 (neg:=neg) h1 (by cases neg<;>rfl);have h4:=j9 (neg:=neg) h2 (by cases neg<;>rfl);have g1:(eqGuard (cond neg .neq .eql) ty x (.const .nilFunc) (.func g i j) .nilFunc).run P w=.ok () w:=by cases neg<;>simp[eqGuard]
   have g2:(eqGuard (cond neg .neq .eql) ty (.const .nilFunc) x .nilFunc (.func g i j)).run P w=.ok () w:=by cases neg<;>simp[eqGuard]
   simp only[ev,Sem.run_bind,g1,g2,Result.andThen_ok,h3,h4,BK]
  ·refine⟨_,λ w=>?_,h⟩;have h1:(Op.equal ty .nilFunc .nilFunc).run P w=.ok true w:=kT λ d=>by simp[Op.equalIn,bu hu]
   have h3:=j9 (neg:=neg) h1 (by cases neg<;>rfl);have g1:(eqGuard (cond neg .neq .eql) ty x (.const .nilFunc) .nilFunc .nilFunc).run P w=.ok () w:=by cases neg<;>simp[eqGuard]
   have g2:(eqGuard (cond neg .neq .eql) ty (.const .nilFunc) x .nilFunc .nilFunc).run P w=.ok () w:=by cases neg<;>simp[eqGuard]
   simp only[ev,Sem.run_bind,g1,g2,Result.andThen_ok,h3,BK]
 ·cases f
def vY{P:Program}{e:TypeId}{cs:Array Value}{off:Nat}{v:Value}(h:xS P e cs off=some v)(w:World):(part e cs off).run P w=.ok v w:=by
 unfold xS at h
 split at h
 ·rename_i d sz hu a
  cases hd:Ow d with
  | true =>
   rw[hd] at h
   cases h
   have ha:(isAgg e).run P w=.ok true w:=by cases d<;>first|(cases hd; done)|simp[isAgg,bu hu]
   simp[part,ha,sE a]
  | false =>
   rw[hd] at h;have ha:(isAgg e).run P w=.ok false w:=by cases d<;>first|(cases hd; done)|simp[isAgg,bu hu]
   have h:cs[off]?=some v:=h;simp[part,ha,h]
 ·cases h
abbrev ye:=Option Bool×Unit
theorem wY{α:Type}{P:Program}{w:World}(body:α->ye->Sem (ForInStep ye)):∀ (l:List α) (os:List (Option Bool)) (b:Bool),E5 os=some b->os.length=l.length->(∀ (i:Nat) (a:α) (c:Bool) (r:ye),l[i]?=some a->os[i]?=some (some c)->(body a r).run P w=.ok (cond c (.yield (none,())) (.done (some false,()))) w)->(forIn l ((none,()):ye) body).run P w=.ok (cond b (none,()) (some false,())) w
 | [],[],b,e,_,_=>by
  simp[E5] at e;subst e
  simp
 | [],_ :: _,_,_,f,_=>by simp at f
 | _ :: _,[],_,_,f,_=>by simp at f
 | a :: l,o :: os,b,e,f,d=>by
  cases o with
  | none=>simp[E5] at e
  | some c =>
   simp only[E5] at e
   split at e
   ·cases e
   ·rename_i r j
    cases e
    have h1:=d 0 a c (none,()) rfl rfl;have h2:=wY body l os r j (by simpa using f) (λ i a c k h g=>d (i+1) a c k (by simpa using h) (by simpa using g));rw[List.forIn_cons,Sem.run_bind,h1]
    cases c with
    | true=>simpa[Result.andThen] using h2
    | false=>simp[Result.andThen]
theorem DO{P:Program}{w:World}:∀ (d:Nat) (t:TypeId) (x y:Value) (b:Bool) (m:Nat),Ub P d t x y=some b->d<=m->(Op.equalIn m t x y).run P w=.ok b w
 | 0,_,_,_,_,_,h,_=>by cases h
 | d+1,t,x,y,b,0,_,hd=>by omega
 | d+1,t,x,y,b,m+1,h,hd=>by
  unfold Ub at h
  split at h
  ·rename_i hu
   split at h
   ·cases h; simp[Op.equalIn,bu hu]
   ·cases h
  ·rename_i k hu
   split at h
   ·rename_i F a G c
    cases he:QN F G with
    | false=>simp[he] at h
    | true =>
     have:=ru he;subst this;rw[he] at h
     cases h
     simp[Op.equalIn,bu hu]
   ·cases h
  ·rename_i hu
   split at h
   ·cases h; simp[Op.equalIn,bu hu]
   ·cases h
  ·rename_i v hu
   split at h
   ·rename_i xs q
    cases hs:(P.stoodInHeld t||v.toList.any λ f=>f.name== "_") with
    | true=>rw[hs] at h; cases h
    | false =>
     rw[hs] at h;simp only[oF] at hs;have h:E5 (v.toList.map λ f=>match xS P f.type xs f.offset,xS P f.type q f.offset with
      | some a,some b=>Ub P d f.type a b
      | _,_=>none)=some b:=h
     unfold Op.equalIn;simp only[Sem.run_bind,bu hu,Result.andThen_ok];have hp:(Sem.run P program w)=.ok P w:=rfl;rw[hp,Result.andThen_ok,ah (by rw[hs.1]; decide),Sem.run_bind,<- Array.forIn_toList];have B:=wY (P:=P) (w:=w) (λ f (o:ye) =>
        if f.name≠ "_" then do
         let g <- part f.type xs f.offset;let l <- part f.type q f.offset;let g <- Op.equalIn m f.type g l
         if (!g)=true then pure (ForInStep.done (some false,()))
          else pure (ForInStep.yield (none,()))
        else pure (ForInStep.yield (none,()))) v.toList _ b h (by simp) (λ i f c r z hc=>?_)
     ·rw[B]
      cases b<;>rfl
     ·have s:f∈v.toList:=bf z;have p:f.name≠ "_":=λ e=>by
       have:=tY.1 hs.2 f s;rw[e] at this;exact this rfl
      rw[dD,z] at hc;simp only[nL,TZ] at hc;rw[ak p]
      split at hc
      ·rename_i D E ha A;have u:=DO (w:=w) d f.type D E c m hc (by omega);simp only[Sem.run_bind,vY ha,vY A,u,Result.andThen_ok]
       cases c<;>rfl
      ·cases hc
   ·cases h
  ·rename_i n e hu
   split at h
   ·rename_i xs q
    split at h
    ·cases h
    ·rename_i sz C;unfold Op.equalIn;simp only[Sem.run_bind,bu hu,sE C,Result.andThen_ok];have B:=wY (P:=P) (w:=w) (λ (i:Nat) (o:ye)=>do
      let g <- part e xs (i*sz);let l <- part e q (i*sz);let g <- Op.equalIn m e g l
      if (!g)=true then pure (ForInStep.done (some false,())) else pure (ForInStep.yield (none,()))) (List.range n) _ b h (by simp) (λ i j c r z hc=>?_)
     ·have u:(forIn [:n] ((none,()):ye) (λ (i:Nat) (o:ye)=>(do
        let g <- part e xs (i*sz);let l <- part e q (i*sz);let g <- Op.equalIn m e g l
        if (!g)=true then pure (ForInStep.done (some false,())) else pure (ForInStep.yield (none,())):Sem (ForInStep ye))))=forIn (List.range n) ((none,()):ye) (λ (i:Nat) (o:ye)=>(do
        let g <- part e xs (i*sz);let l <- part e q (i*sz);let g <- Op.equalIn m e g l
        if (!g)=true then pure (ForInStep.done (some false,())) else pure (ForInStep.yield (none,())):Sem (ForInStep ye))):=by
       rw[T0,List.range_eq_range'];simp[Std.Legacy.Range.size]
      rw[u,B]
      cases b<;>rfl
     ·rw[dD,z] at hc;simp only[nL,TZ] at hc
      split at hc
      ·rename_i D E ha A;have u:=DO (w:=w) d e D E c m hc (by omega);simp only[Sem.run_bind,vY ha,vY A,u,Result.andThen_ok]
       cases c<;>rfl
      ·cases hc
   ·cases h
  ·cases h
def zN{P:Program}{ty:TypeId}{neg:Bool}{x y:Operand}{a b:Value}{F:(Value->Prop)->Prop}(c:Q4 P ty neg a b=some F){K:Value->Prop}(h:F K) :
  ∃ v,(∀ w,(do eqGuard (cond neg .neq .eql) ty x y a b; binOp (cond neg .neq .eql) ty a b:Sem Value).run P w=.ok v w)/\K v:=by
 unfold Q4 at c
 split at c
 ·rename_i xs d
  cases hg:P.eqGuardType P.depth ty with
  | true=>rw[hg] at c; cases c
  | false =>
   rw[hg] at c;simp only[cond_false] at c
   split at c
   ·rename_i b e
    cases c
    refine⟨_,λ w=>?_,h⟩;have h1:(Op.equal ty (.agg xs) (.agg d)).run P w=.ok b w:=DO 12 ty _ _ b Op.maxDepth e (by decide);have h3:=j9 (neg:=neg) h1 (by cases neg<;>rfl);have g1:(eqGuard (cond neg .neq .eql) ty x y (.agg xs) (.agg d)).run P w=.ok () w:=by
     have hp:(Sem.run P program w)=.ok P w:=rfl
     cases neg<;>simp[eqGuard,hp,hg]
    simp only[Sem.run_bind,g1,Result.andThen_ok,h3]
   ·cases c
 ·cases c
def vT{α:Type}{x y:Option α}{a:α}(h:X3 x y=some a):x=some a\/y=some a:=by
 cases x with
 | none=>exact .inr h
 | some b=>exact .inl h
def UP{P:Program}{op:BinOp}{ty:TypeId}{x y:Operand}{a b:Value}{F:(Value->Prop)->Prop}(c:Zd op a b=some F){K:Value->Prop}(h:F K) :
  ∃ v,(∀ w,(do eqGuard op ty x y a b; binOp op ty a b:Sem Value).run P w=.ok v w)/\K v:=by
 unfold Zd at c
 split at c
 ·rename_i k a d b
  cases he:QN k d with
  | false=>simp[he] at c
  | true =>
   have:=ru he;subst this;rw[he] at c
   cases c
   exact⟨_,λ w=>by simp[eqGuard,binOp,Op.intDiv,h.1],h.2⟩
 ·rename_i k a d b
  cases he:QN k d with
  | false=>simp[he] at c
  | true =>
   have:=ru he;subst this;rw[he] at c
   cases c
   exact⟨_,λ w=>by simp[eqGuard,binOp,Op.intDiv,h.1],h.2⟩
 ·cases c
  exact⟨_,λ w=>by simp[eqGuard,binOp,Op.shift,Int.not_lt.2 h.1],h.2⟩
 ·cases c
  exact⟨_,λ w=>by simp[eqGuard,binOp,Op.shift,Int.not_lt.2 h.1],h.2⟩
 ·rename_i a b
  cases c
  refine⟨_,λ w=>?_,h.2⟩;have e:=h.1;have hm:IntKind.i64.max=9223372036854775807:=rfl;rw[hm] at e;simp only[eqGuard,binOp,Op.stringOp]
  simp
  omega
 ·cases c
def G7{P:Program}{o:Oper}{t:Tm}{F:(Value->Prop)->Prop}(e:TB P o t=some F){K:Value->Prop}(h:F K) :
  ∃ v,(∀ w,(execOp (ev t) o).run P w=.ok (.value v) w)/\K v:=by
 unfold TB at e
 split at e
 ·rename_i x j; cases e; exact⟨_,λ w=>by simp[execOp,j],h⟩
 ·rename_i x j; cases e; exact⟨_,λ w=>by simp[execOp,j],h⟩
 ·rename_i c a b j
  split at e
  ·rename_i x hc
   cases e
   cases x with
   | true=>exact⟨_,λ w=>by simp[execOp,j,hc,asBool],h⟩
   | false=>exact⟨_,λ w=>by simp[execOp,j,hc,asBool],h⟩
  ·cases e
 ·rename_i src dst x j
  split at e
  ·rename_i d k q n m hu l
   cases e
   refine⟨_,λ w=>?_,h⟩;simp[execOp,j,l,convert,bu hu,bu m,Conv.intToInt]
  ·cases e
 ·rename_i x j
  split at e
  ·rename_i p hp
   cases e
   obtain⟨a,rfl,h⟩:=je h;exact⟨_,λ w=>by simp[execOp,j,hp],h⟩
  ·cases e
 ·rename_i ty x lo hi mx j
  cases e
  obtain⟨v,f,g⟩:=Tx h;exact⟨v,λ w=>by simp[execOp,j,f],g⟩
 ·rename_i ty x i j
  cases e
  obtain⟨v,f,g⟩:=Sd h;exact⟨v,λ w=>by simp[execOp,j,f],g⟩
 ·rename_i ty x i j
  cases e
  obtain⟨v,f,g⟩:=Oy h;exact⟨v,λ w=>by simp[execOp,j,f],g⟩
 ·rename_i op ty x y r j;have key:∀ v w,(do eqGuard op ty x y (ev t x) (ev t y); binOp op ty (ev t x) (ev t y):Sem Value).run P w=.ok v w->(execOp (ev t) o).run P w=.ok (.value v) w:=λ v w f=>by
   simp only[execOp,j,Sem.run_bind] at f ⊢;rw[f]; rfl
  split at e
  ·rcases vT e with e|e
   ·obtain⟨v,f,g⟩:=zj e h;exact⟨v,λ w=>key v w (f w).1,g⟩
   rcases vT e with e|e
   ·obtain⟨v,f,g⟩:=zj e h;exact⟨v,λ w=>key v w (f w).2,g⟩
   ·obtain⟨v,f,g⟩:=zN e h;exact⟨v,λ w=>key v w (f w),g⟩
  ·rcases vT e with e|e
   ·obtain⟨v,f,g⟩:=zj e h;exact⟨v,λ w=>key v w (f w).1,g⟩
   rcases vT e with e|e
   ·obtain⟨v,f,g⟩:=zj e h;exact⟨v,λ w=>key v w (f w).2,g⟩
   ·obtain⟨v,f,g⟩:=zN e h;exact⟨v,λ w=>key v w (f w),g⟩
  ·obtain⟨v,f,g⟩:=UP (P:=P) (ty:=ty) (x:=x) (y:=y) e h;exact⟨v,λ w=>key v w (f w),g⟩
 ·cases e
end Go.Vc
namespace Go.Vc
def aA(w:World)(a:Addr):Nat->List Value->Prop
 | _,[]=>True
 | i,v :: vs=>w.cell? (a.add i)=some v/\aA w a (i+1) vs
def XS(P:Program)(ty:TypeId)(x:Value)(w:World)(K:Value->List (World->Prop)->Prop):Prop :=
 match x with
 | .pointer p=>bO p λ a=>match wz P ty with
  | .s k=>cond (P.underlying ty).isSome (Uc k λ v=>w.cell? a=some v/\K v [λ w'=>w'.cell? a=some v]) False
  | .agg ks=>cond (match yD P ty with|some n=>Nat.beq n (Io ks)|none=>false)
    (Vg ks λ vs=>aA w a 0 vs/\K (.agg vs.toArray) [λ w'=>aA w' a 0 vs]) False
 | _=>False
theorem BV{P:Program}{w:World}{a:Addr}:∀ (vs:List Value) (i:Nat) (acc:Array Value),aA w a i vs ->
  (loadCellsFrom a i vs.length acc).run P w=.ok (acc++vs.toArray) w
 | [],i,acc,_=>by simp[loadCellsFrom]
 | v :: vs,i,acc,h=>by
  obtain⟨h1,h2⟩:=h;have:=BV (P:=P) vs (i+1) (acc.push v) h2;simp only[gm,loadCellsFrom,Sem.run_bind,run_load,h1,Result.andThen_ok,this]
  simp
def D4{P:Program}{ty:TypeId}{x:Value}{w:World}{K:Value->List (World->Prop)->Prop}(h:XS P ty x w K) :
  ∃ v T,holds T w/\(∀ w',holds T w'->(Instr.loadAt ty x).run P w' = .ok v w')/\K v T:=by
 unfold XS at h
 split at h
 ·obtain⟨a,rfl,h⟩:=je h
  split at h
  ·rename_i k d;obtain⟨hi,h⟩:=nM h;obtain⟨v,h1,h2⟩:=DT h;refine⟨v,_,?_,?_,h2⟩
   ·intro f c; simp at c; subst c; exact h1
   ·intro w' b;have h3:w'.cell? a=some v:=b (λ w'=>w'.cell? a=some v) (lA ..);simp[Instr.loadAt,Instr.sureAddr,loadVar,Cw d hi,h3]
  ·rename_i ks d;obtain⟨e,h⟩:=nM h;obtain⟨vs,g,h1,h2⟩:=DS h;refine⟨_,_,?_,?_,h2⟩
   ·intro f c; simp at c; subst c; exact h1
   ·intro w' b;have h3:aA w' a 0 vs:=b (λ w'=>aA w' a 0 vs) (lA ..);have i:yD P ty=some vs.length:=by
     cases hz:yD P ty with
     | none=>simp[hz] at e
     | some n=>simp only[hz] at e; rw[wJ e,g]
    simp only[Instr.loadAt,Instr.sureAddr,loadVar,Sem.run_bind,Sem.run_pure,Result.andThen_ok,JN d,pG,sE i,loadCells,BV vs 0 _ h3]
    simp
 ·exact h.elim
def gi(P:Program){α:Type}(s:Sem α)(w:World)(K:α->World->Prop):Prop:=∃ a w',s.run P w=.ok a w'/\K a w'
def jG(P:Program)(a:FuncId):Bool:=match P.funcs[a]? with
 | none=>false
 | some fn=>match fn.body with
  | none=>false
  | some _=>!(fn.name== "runtime.NumGoroutine")
def ux{P:Program}{a:FuncId}(h:jG P a=true)(args:Array Value)(w:World):(callFunc a args).run P w=.ok (.enter a args) w:=by
 unfold jG at h
 cases hf:P.funcs[a]? with
 | none=>rw[hf] at h; cases h
 | some fn =>
  rw[hf] at h
  cases hb:fn.body with
  | none=>simp[hb] at h
  | some c =>
   simp only[hb] at h;exact Go.Proofs.enters_of hf (by simpa using h) hb args w
def lK(P:Program)(v:Value)(args:Array Value)(w:World)(R:Ending->World->Prop):Prop :=
 match v with
 | .func (.yield l) x y=>cond (x.isEmpty&&y.isEmpty) (pK P l args w λ b w'=>R (.returned (.bool b)) w') False
 | .func (.func g) x y=>cond (jG P g) (Calls P g (x++args++y) w R) False
 | _=>False
def Zv(P:Program)(ty:TypeId)(b:Bool)(F:Value->Prop):Prop:=match P.underlying ty with
 | some (.map _ e)=>Ue (wz P e) λ u=>cond b (∃ x:Bool,F (.tuple #[u,.bool x])) (F u)
 | _=>False
def VE{P:Program}{ty:TypeId}{b:Bool}{F:Value->Prop}(h:Zv P ty b F):∃ v,F v:=by
 unfold Zv at h
 split at h
 ·obtain⟨u,h⟩:=uy h
  cases b with
  | true=>obtain⟨x,h⟩:=h; exact⟨_,h⟩
  | false=>exact⟨_,h⟩
 ·exact h.elim
def nxK(s:Bool)(v:Value)(F:Value->Prop):Prop :=
 (v=.tuple #[.bool false]/\F (.tuple #[.bool false])) \/
  cond s (∃ (n:Int) (c:Int),v=.tuple #[.bool true,.int .i64 n,.int .i32 c]/\F (.tuple #[.bool true,.int .i64 n,.int .i32 c])) (∃ k x:Value,v=.tuple #[.bool true,k,x]/\F (.tuple #[.bool true,k,x]))
def O2{s:Bool}{v:Value}{F:Value->Prop}(h:nxK s v F):F v:=by
 rcases h with⟨rfl,h⟩|h
 ·exact h
 ·cases s with
  | true=>obtain⟨n,c,rfl,h⟩:=h; exact h
  | false=>obtain⟨k,x,rfl,h⟩:=h; exact h
def Ug(P:Program)(o:Oper):Bool:=match o.op with
 | .call { callee:=.value (.func g),.. }=>match P.funcs[g]? with
  | some f=>f.body.isNone&&f.name== "internal/bytealg.IndexString"
  | none=>false
 | _=>false
def XU(P:Program)(a:Array TypeId):Bool:=match (a[0]?).bind P.underlying with
 | some (.map _ _)=>true
 | _=>false
def MY(P:Program)(o:Oper)(t:Tm)(w:World)(K:KP):Prop :=
 match TB P o t with
 | some F=>F λ v=>K v w
 | none =>
  match o.op with
  | .load ty x=>XS P ty (ev t x) w λ v _=>K v w
  | .convert src dst x=>gi P (convert src dst (ev t x)) w λ v w'=>Ue (wz P o.type) λ u=>v=u/\K u w'
  | .makeSlice ty l c=>gi P (Instr.makeSlice ty (ev t l) (ev t c)) w λ v w'=>Ue (wz P o.type) λ u=>v=u/\K u w'
  | .call { callee:=.builtin .append,args:=args,argTypes:=a }=>gi P (Builtin.append_ a o.type (args.map (ev t))) w λ v w'=>Ue (wz P o.type) λ u=>v=u/\K u w'
  | .call { callee:=.builtin .copy,args:=args,argTypes:=a }=>gi P (Builtin.copy_ a o.type (args.map (ev t))) w K
  | .call { callee:=.builtin .clear,args:=args,argTypes:=a }=>gi P (Builtin.clear_ a o.type (args.map (ev t))) w K
  | .call { callee:=.builtin .len,args:=args,argTypes:=a }=>cond (XU P a) (gi P (Builtin.len_ a o.type (args.map (ev t))) w λ v w'=>Ue (wz P o.type) λ u=>v=u/\K u w') (Hu P (execOp (ev t) o) w (Cu P o.type K))
  | .lookup ty x i b=>gi P (Instr.lookup ty (ev t x) (ev t i) b) w λ v w'=>Zv P ty b λ u=>v=u/\K u w'
  | .mapUpdate ty m k x=>gi P (Instr.mapUpdate ty (ev t m) (ev t k) (ev t x)) w λ _ w'=>K undef w'
  | .insert ty m k x=>gi P (Instr.mapUpdate ty (ev t m) (ev t k) (ev t x)) w λ _ w'=>K undef w'
  | .makeMap ty r=>gi P (Instr.makeMap ty (r.map (ev t))) w λ v w'=>∃ m:Option Nat,v=.map m/\K (.map m) w'
  | .range ty x=>gi P (Instr.range ty (ev t x)) w λ v w'=>∃ r:Nat,v=.pointer (some ⟨r,0,none⟩)/\K (.pointer (some ⟨r,0,none⟩)) w'
  | .next it s=>gi P (Instr.next (ev t it) s o.type) w λ v w'=>nxK s v λ u=>K u w'
  | .call { callee:=.value (.tmp f),args:=args,argTypes:=_ }=>lK P (gt t f) (args.map (ev t)) w λ e w'=>Zq (XP P o.type) λ v=>e=.returned v/\K v w'
  | _=>cond (Ug P o) False (Hu P (execOp (ev t) o) w (Cu P o.type K))
def Hi{P:Program}{o:Oper}{t:Tm}{w:World}{K:KP}(h:MY P o t w K):∃ n w',(execOp (ev t) o).run P w=.ok n w'/\Cu P o.type K n w':=by
 unfold MY at h
 split at h
 ·rename_i F E;obtain⟨v,d,j⟩:=G7 E h;exact⟨_,w,d w,j⟩
 ·split at h
  ·rename_i ty x a;obtain⟨v,T,h1,h2,h3⟩:=D4 h;exact⟨.value v,w,by simp[execOp,a,h2 w h1],h3⟩
  ·rename_i src dst x a;obtain⟨v,w',d,h⟩:=h;obtain⟨u,rfl,j⟩:=uy h;exact⟨.value v,w',by simp[execOp,a,d],j⟩
  ·rename_i ty l c a;obtain⟨v,w',d,h⟩:=h;obtain⟨u,rfl,j⟩:=uy h;exact⟨.value v,w',by simp[execOp,a,d],j⟩
  ·rename_i args p a;obtain⟨v,w',d,h⟩:=h;obtain⟨u,rfl,j⟩:=uy h;exact⟨.value v,w',by simp[execOp,a,resolve,invoke,builtin,d],j⟩
  ·rename_i args p a;obtain⟨v,w',d,h⟩:=h;exact⟨.value v,w',by simp[execOp,a,resolve,invoke,builtin,d],h⟩
  ·rename_i args p a;obtain⟨v,w',d,h⟩:=h;exact⟨.value v,w',by simp[execOp,a,resolve,invoke,builtin,d],h⟩
  ·rename_i args p a
   cases hb:XU P p with
   | true =>
    rw[hb] at h;obtain⟨v,w',d,h⟩:=h;obtain⟨u,rfl,j⟩:=uy h;exact⟨.value v,w',by simp[execOp,a,resolve,invoke,builtin,d],j⟩
   | false=>rw[hb] at h; exact KA _ _ _ h
  ·rename_i ty x i b a;obtain⟨v,w',d,h⟩:=h;obtain⟨u,rfl,j⟩:=VE h;exact⟨.value v,w',by simp[execOp,a,d],j⟩
  ·rename_i ty m k x a;obtain⟨v,w',d,h⟩:=h;exact⟨.skip,w',by simp[execOp,a,d],h⟩
  ·rename_i ty m k x a;obtain⟨v,w',d,h⟩:=h;exact⟨.skip,w',by simp[execOp,a,d],h⟩
  ·rename_i ty r a;obtain⟨v,w',d,m,rfl,h⟩:=h;exact⟨.value _,w',by simp[execOp,a,d],h⟩
  ·rename_i ty x a;obtain⟨v,w',d,m,rfl,h⟩:=h;exact⟨.value _,w',by simp[execOp,a,d],h⟩
  ·rename_i it s a;obtain⟨v,w',d,h⟩:=h;exact⟨.value v,w',by simp[execOp,a,d],O2 h⟩
  ·rename_i f args p a;have q:ev t (.tmp f)=gt t f:=rfl;unfold lK at h
   split at h
   ·rename_i l x y C;obtain⟨he,h⟩:=nM h;obtain⟨B,D⟩:x = #[]/\y = #[]:=by simpa[Nc] using he
    subst B D;obtain⟨fn,tmps,A,body,z,G⟩:=h;refine⟨.round l fn tmps A body,w,?_,RoundIn.mono G λ e w' he=>?_⟩
    ·simp[execOp,a,resolve,q,C,invoke,callFunc];simp[Deferred.ofValue,z]
    ·obtain⟨b,rfl,j⟩:=he;obtain⟨v,H,j⟩:=N5 j;exact⟨v,H,j⟩
   ·rename_i g x y C;obtain⟨he,h⟩:=nM h;refine⟨.enter g (x++args.map (ev t)++y),w,?_,h⟩;have d:=ux he (x++args.map (ev t)++y) w;simp[execOp,a,resolve,q,C,invoke];simp[Deferred.ofValue];simpa using d
   ·exact h.elim
  ·cases hb:Ug P o with
   | true=>rw[hb] at h; exact h.elim
   | false=>rw[hb] at h; exact KA _ _ _ h
def RP(P:Program)(d:Option Nat)(i:Nat):List Oper->TK
 | []=>.s .raw
 | o :: l=>match o.op,d with
  | .extract (.tmp x) j,some y=>cond (Nat.beq x y&&Nat.beq i j) (wz P o.type) (RP P d i l)
  | _,_=>RP P d i l
def Hg(P:Program)(rest:List Oper)(o:Oper)(t:Tm)(w:World)(K:KP):Prop:=match o.op with
 | .entry it=>gi P (Instr.entry (ev t it)) w λ v w'=>RR [RP P o.dst 0 rest,RP P o.dst 1 rest] λ vs=>v=.tuple vs.toArray/\K (.tuple vs.toArray) w'
 | _=>MY P o t w K
def MZ{P:Program}{rest:List Oper}{o:Oper}{t:Tm}{w:World}{K:KP}(h:Hg P rest o t w K):∃ n w',(execOp (ev t) o).run P w=.ok n w'/\Cu P o.type K n w':=by
 unfold Hg at h
 split at h
 ·rename_i it c;obtain⟨v,w',b,h⟩:=h;obtain⟨vs,rfl,a⟩:=DU h;exact⟨.value _,w',by simp[execOp,c,b],a⟩
 ·exact Hi h
def Hh{P:Program}{rest:List Oper}{ro:Option Nat}{o:Oper}{t:Tm}{d:List Deferred}{w:World}{K:KP}{N:Act->World->Prop}{Q:Exit->Act->World->Prop}(hd:kV o.op=true)(a:∀ v w',K v w'->N (pq (pt t o.dst v) d) w')(h:Hg P rest o t w K):o.wpIn (FW ro) 0 P (pq t d) w N Q:=by
 obtain⟨n,w',c,b⟩:=MZ h;refine⟨λ _ _=>trivial,?_⟩;rw[Oper.semAt_eq _ _ _ (mU hd),oV,c];exact sK (λ v w' e=>by rw[nS]; exact a _ _ e) b
def TR{P:Program}{ro:Option Nat}{o:Oper}{t:Tm}{d:List Deferred}{w:World}{K:KP}{N:Act->World->Prop}{Q:Exit->Act->World->Prop}(hd:kV o.op=true)(a:∀ v w',K v w'->N (pq (pt t o.dst v) d) w')(h:MY P o t w K):o.wpIn (FW ro) 0 P (pq t d) w N Q:=by
 obtain⟨n,w',c,b⟩:=Hi h;refine⟨λ _ _=>trivial,?_⟩;rw[Oper.semAt_eq _ _ _ (mU hd),oV,c];exact sK (λ v w' e=>by rw[nS]; exact a _ _ e) b
def V9(P:Program)(o:Oper)(t:Tm)(w:World)(K:Value->List (World->Prop)->Prop):Prop :=
 match TB P o t with
 | some F=>F λ v=>K v []
 | none =>
  match o.op with
  | .load ty x=>XS P ty (ev t x) w K
  | _=>S8 P (execOp (ev t) o) w [] λ n T=>match n with
   | .value v=>K v T
   | _=>False
def PK{P:Program}{o:Oper}{t:Tm}{w:World}{K:Value->List (World->Prop)->Prop}(h:V9 P o t w K) :
  ∃ v T,K v T/\holds T w/\∀ w',holds T w'->(execOp (ev t) o).run P w' = .ok (.value v) w':=by
 unfold V9 at h
 split at h
 ·rename_i F e;obtain⟨v,d,b⟩:=G7 e h;exact⟨v,[],b,λ f c=>(by cases c),λ w' _=>d w'⟩
 ·split at h
  ·rename_i ty x g;obtain⟨v,T,h1,h2,h3⟩:=D4 h;exact⟨v,T,h3,h1,λ w' a=>by simp[execOp,g,h2 w' a]⟩
  ·obtain⟨n,T,b,hw,d⟩:=S9 _ _ _ _ h
   cases n<;>simp only at b
   exact⟨_,T,b,hw (λ f c=>by cases c),λ w' a=>(d w' a).2⟩
def gd(ops:Array Oper)(t:Tm)(o:Oper)(A B:Tm->Prop):Prop :=
 match o.guard with
 | none=>A t
 | some (j,a)=>match (ops[j]?).bind (·.dst) with
  | none=>B t
  | some d=>match gt t d with
   | .bool b=>cond a (cond b (A (st t d (.bool true))) (B (st t d (.bool false)))) (cond b (B (st t d (.bool true))) (A (st t d (.bool false))))
   | _=>B t
def Yy(t:Tm):∀ d v,gt t d=v->v≠undef->st t d v=t:=by
 induction t with
 | nil=>intro d v _ _; rfl
 | cons x t b =>
  intro d v h a
  cases d with
  | zero=>simp only[gt] at h; subst h; rfl
  | succ d=>simp only[gt] at h; simp only[st,b d v h a]
def Hq(ops:Array Oper)(t:Tm)(dd:List Deferred)(j:Nat):yielded ops (pq t dd).tmps j =
  match (ops[j]?).bind (·.dst) with
  | none=>none
  | some d=>match gt t d with
   | .bool b=>some b
   | _=>none:=by
 unfold yielded
 cases (ops[j]?).bind (·.dst) with
 | none=>rfl
 | some d =>
  have a:(pq t dd).tmps[d]?=t[d]?:=by simp[pq]
  have h1:gt t d=(t[d]?).getD undef:=by rw[Ka]; simp[Array.getD]; split<;>simp_all
  simp only[Option.bind_some,a,h1]
  cases t[d]? with
  | none=>rfl
  | some v=>cases v<;>rfl
def y9{dd:List Deferred}{ops:Array Oper}{t:Tm}{o:Oper}{A B:Tm->Prop}(h:gd ops t o A B):(Region.wanted o (yielded ops (pq t dd).tmps)=true/\A t)\/(Region.wanted o (yielded ops (pq t dd).tmps)=false/\B t):=by
 unfold gd at h
 cases hg:o.guard with
 | none=>rw[hg] at h; exact .inl ⟨by simp[Region.wanted,hg],h⟩
 | some c =>
  obtain⟨j,a⟩:=c;simp only[hg] at h;have f:=Hq ops t dd j;have hw:Region.wanted o (yielded ops (pq t dd).tmps)=(yielded ops (pq t dd).tmps j==some a):=by simp[Region.wanted,hg]
  rw[hw,f]
  cases hd:(ops[j]?).bind (·.dst) with
  | none=>rw[hd] at h; exact .inr ⟨rfl,h⟩
  | some d =>
   simp only[hd] at h ⊢
   cases hx:gt t d with
   | bool b =>
    have e:=Yy t d (.bool b) hx (by simp[undef]);rw[hx] at h
    cases a<;>cases b<;>simp only[cond,e] at h
    ·exact .inl ⟨rfl,h⟩
    ·exact .inr ⟨rfl,h⟩
    ·exact .inr ⟨rfl,h⟩
    ·exact .inl ⟨rfl,h⟩
   | _=>rw[hx] at h; exact .inr ⟨rfl,h⟩
def Lg(P:Program)(ops:Array Oper):List Oper->Tm->World->(Tm->World->Prop)->Prop
 | [],t,w,K=>K t w
 | o :: rest,t,w,K=>gd ops t o (λ t=>Hg P rest o t w λ v w'=>Lg P ops rest (pt t o.dst v) w' K) (λ t=>Lg P ops rest (pt t o.dst undef) w K)
def Dx(ds:List Nat)(t a:Tm):Prop:=a.length=t.length/\∀ i,i∉ds->gt a i=gt t i
def ij(ds:List Nat)(t:Tm):Dx ds t t:=⟨rfl,λ _ _=>rfl⟩
def sW{ds es:List Nat}{t c a:Tm}(h:Dx ds t c)(b:Dx es c a):Dx (ds++es) t a :=
 ⟨b.1.trans h.1,λ i hi=>(b.2 i λ h=>hi (jl _ h)).trans (h.2 i λ h=>hi (iN _ h))⟩
def mK{ds es:List Nat}{t a:Tm}(b:∀ d∈ds,d∈es)(h:Dx ds t a):Dx es t a:=⟨h.1,λ i hi=>h.2 i λ h=>hi (b i h)⟩
def pL{ds:List Nat}{t0 t:Tm}{dst:Option Nat}{v:Value}(h:Dx ds t0 t)(hd:∀ d,dst=some d->d∈ds):Dx ds t0 (pt t dst v):=by
 cases dst with
 | none=>exact h
 | some d=>exact⟨(LS t d v).trans h.1,λ i hi=>(On t d i v λ e=>hi (e▸hd d rfl)).trans (h.2 i hi)⟩
def rN(ops:List Oper):Bool:=ops.all λ o=>kV o.op
theorem A9{P:Program}{ro:Option Nat}{ops:Array Oper}{d:List Deferred}{Q:Exit->Act->World->Prop}{ds:List Nat}{t0:Tm}:∀ (l:List Oper) (t:Tm) (w:World) (K:Tm->World->Prop),rN l=true->(∀ t w,Dx ds t0 t->K t w->Q .normal (pq t d) w)->(∀ o∈l,∀ d,o.dst=some d->d∈ds)->Dx ds t0 t->Lg P ops l t w K->wpListIn (FW ro) 0 P ops Q l (pq t d) w
 | [],t,w,K,_,c,_,ha,h=>c _ _ ha h
 | o :: rest,t,w,K,e,c,hd,ha,h=>by
  have a:=hd o (lA ..);have b:=λ i f=>hd i (jH _ f);simp only[rN,og,aX] at e;unfold wpListIn;rcases y9 h with⟨hw,h⟩|⟨hw,h⟩
  ·rw[ak hw];exact Hh e.1 (λ v w' g=>A9 rest _ _ K e.2 c b (pL ha a) g) h
  ·rw[ah (by simpa using hw),nS];exact⟨λ _ _=>trivial,A9 rest _ _ K e.2 c b (pL ha a) h⟩
def A8(P:Program)(ops:Array Oper):List Oper->Tm->List Deferred->World->(Tm->List Deferred->World->Prop)->Prop
 | [],t,d,w,K=>K t d w
 | o :: rest,t,d,w,K=>gd ops t o (λ t=>match o.op with
  | .defer { callee:=.value (.tmp f),args:=args,argTypes:=_ }=>match gt t f with
   | .func (.func g) x y=>A8 P ops rest (pt t o.dst undef) ({ target:=.fn (.func g) y,args:=x++args.map (ev t) } :: d) w K
   | _=>False
  | .defer _=>False
  | _=>Hg P rest o t w λ v w'=>A8 P ops rest (pt t o.dst v) d w' K) (λ t=>A8 P ops rest (pt t o.dst undef) d w K)
theorem tG{P:Program}{ops:Array Oper}{Q:Exit->Act->World->Prop}{ds:List Nat}{t0:Tm}:∀ (l:List Oper) (t:Tm) (d:List Deferred) (w:World) (K:Tm->List Deferred->World->Prop),(∀ t d w,Dx ds t0 t->K t d w->Q .normal (pq t d) w)->(∀ o∈l,∀ d,o.dst=some d->d∈ds)->Dx ds t0 t->A8 P ops l t d w K->wpListIn (FW none) 0 P ops Q l (pq t d) w
 | [],t,d,w,K,c,_,ha,h=>c _ _ _ ha h
 | o :: rest,t,d,w,K,c,hd,ha,h=>by
  have a:=hd o (lA ..);have b:=λ s k=>hd s (jH _ k);unfold wpListIn;rcases y9 (dd:=d) h with⟨hw,h⟩|⟨hw,h⟩
  ·rw[ak hw]
   split at h
   ·rename_i f args u q
    split at h
    ·rename_i g x y r;refine⟨λ _ _=>trivial,?_⟩;have p:(execOp (ev t) o).run P w=.ok (.defer { target:=.fn (.func g) y,args:=x++args.map (ev t) }) w:=by
      have e:ev t (.tmp f)=gt t f:=rfl;simp[execOp,q,resolve,e,r,Deferred.ofValue]
     show o.uponIn (FW none) 0 P _ _ _ ((execOp _ o).run P w);rw[oV,p];simp only[Oper.uponIn];have:({ (pq t d) with defers:={ target:=.fn (.func g) y,args:=x++args.map (ev t) } :: (pq t d).defers }:Act)=pq t ({ target:=.fn (.func g) y,args:=x++args.map (ev t) } :: d):=rfl;rw[this,nS];exact tG rest _ _ _ K c b (pL ha a) h
    ·exact h.elim
   ·exact h.elim
   ·rename_i n i;have j:kV o.op=true:=by
     cases ho:o.op<;>first|rfl|exact absurd ho (i _)
    exact Hh j (λ v w' m=>tG rest _ _ _ K c b (pL ha a) m) h
  ·rw[ah (by simpa using hw),nS];exact⟨λ _ _=>trivial,tG rest _ _ _ K c b (pL ha a) h⟩
end Go.Vc
namespace Go.Vc
abbrev zB:=List (Nat×List (World->Prop))
def dep(ops:Array Oper):Nat->Nat->Nat->Bool
 | 0,_,_=>false
 | n+1,j,i=>match ops[j]? with
  | none=>false
  | some o=>o.after.toList.any λ e=>Region.binds .any e&&(Nat.beq e.on i||dep ops n e.on i)
def closed(ops:Array Oper)(listed:Array Bool):Prop :=
 ∀ j o,ops[j]?=some o->listed.getD j false=true->∀ e∈o.after,Region.binds .any e=true->listed.getD e.on false=true
theorem zZ{ops:Array Oper}{listed:Array Bool}(hc:closed ops listed){i:Nat}(hi:listed.getD i false=false) :
  ∀ n j o,ops[j]?=some o->(∀ e∈o.after,Region.binds .any e=true->listed.getD e.on false=true)->dep ops n j i=false
 | 0,_,_,_,_=>rfl
 | n+1,j,o,c,b=>by
  simp only[dep,c,tY];intro e he;simp only[aX,not_and,Bool.or_eq_true,not_or];intro a;have h1:=b e (by simpa using he) a;refine⟨λ h=>?_,?_⟩
  ·rw[wJ h,hi] at h1
   cases h1
  ·cases ho':ops[e.on]? with
   | none=>cases n<;>simp[dep,ho']
   | some d=>rw[zZ hc hi n e.on d ho' (hc _ _ ho' h1)]; simp
def drop(ops:Array Oper)(j:Nat)(a:zB):zB:=a.filter λ p=>!dep ops ops.size j p.1
def qf(ro:Option Nat)(P:Program)(ops:Array Oper)(Q:Exit->Act->World->Prop):Nat->Array Bool->zB->Act->World->Prop
 | 0,listed,_,a,w=>Region.ready .any ops listed=[]/\Q .normal a w
 | n+1,listed,b,a,w=>(Region.ready .any ops listed=[]->Q .normal a w) /\
  ∀ i∈Region.ready .any ops listed,wpOpIn (FW ro) 0 P ops Q i (λ a' w'=>(∀ p∈drop ops i b,holds p.2 w')/\qf ro P ops Q n (listed.setIfInBounds i true) (drop ops i b) a' w') a w
theorem Bb{ro:Option Nat}{P:Program}{ops:Array Oper}{Q:Exit->Act->World->Prop}:∀ (n:Nat) (listed:Array Bool) (b:zB) (a:Act) (w:World),qf ro P ops Q n listed b a w->wpAnyIn (FW ro) 0 P .any ops Q n listed a w
 | 0,_,_,_,_,h=>h
 | n+1,_,_,_,_,h=>⟨h.1,λ i hi=>wpOpIn_mono (λ _ _ h=>Bb n _ _ _ _ h.2) (h.2 i hi)⟩
theorem uU{ro:Option Nat}{P:Program}{ops:Array Oper}{Q:Exit->Act->World->Prop}:∀ (n:Nat) (listed:Array Bool) (c b:zB) (a:Act) (w:World),(∀ p∈b,p∈c\/p.2=[])->qf ro P ops Q n listed c a w->qf ro P ops Q n listed b a w
 | 0,_,_,_,_,_,_,h=>h
 | n+1,_,c,b,_,_,g,h=>by
  refine⟨h.1,λ i hi=>wpOpIn_mono (λ _ _ h=>?_) (h.2 i hi)⟩;have d:∀ p∈drop ops i b,p∈drop ops i c\/p.2=[]:=λ p hp=>by
   simp only[drop,jI] at hp ⊢;exact(g p hp.1).imp (λ h=>⟨h,hp.2⟩) id
  refine⟨λ p hp=>?_,uU n _ _ _ _ _ d h.2⟩;rcases d p hp with h1|h1
  ·exact h.1 p h1
  ·rw[h1]; exact λ f e=>by cases e
def Ba{ro:Option Nat}{P:Program}{ops:Array Oper}{Q:Exit->Act->World->Prop}(n:Nat)(listed:Array Bool)(c b:zB)(a:Act)(w:World)(d:∀ p∈b,p∈c)(h:qf ro P ops Q n listed c a w):qf ro P ops Q n listed b a w :=
 uU n listed c b a w (λ p hp=>.inl (d p hp)) h
def xZ{ro:Option Nat}{P:Program}{ops:Array Oper}{Q:Exit->Act->World->Prop}{S:World->Prop}{i:Nat}{o:Oper}{v:Value}{a:Act}(b:kV o.op=true)(hi:ops[i]?=some o)(e:YieldsIf P ops S o v a){K:Act->World->Prop}{w:World}(c:S w)(h:K (a.put o.dst v) w):wpOpIn (FW ro) 0 P ops Q i K a w:=by
 unfold wpOpIn;simp only[hi];rcases e with⟨hw,d⟩|⟨hw,rfl⟩
 ·rw[ak hw];refine⟨λ _ _=>trivial,?_⟩;rw[Oper.semAt_eq _ _ _ (mU b),d w c];exact h
 ·rw[ah (by simp[hw])];exact⟨λ _ _=>trivial,h⟩
def EW{ro:Option Nat}{P:Program}{ops:Array Oper}{Q:Exit->Act->World->Prop}{S:World->Prop}{j:Nat}{g i:Oper}{v:Value}(n:kV i.op=true)(t:ops[j]?=some i)(p:g.apart ops i=true)(q:∀ cs b,g.op≠.select cs b)(s:∀ cs b,i.op≠.select cs b)(hQ:∀ c a w,Q (.panic c) (a.put g.dst v) w->Q (.panic c) a w){K:Act->World->Prop}{a:Act}{w:World}(k:YieldsIf P ops S g v a)(h:wpOpIn (FW ro) 0 P ops Q j K (a.put g.dst v) w) :
  wpOpIn (FW ro) 0 P ops Q j (λ a' w'=>YieldsIf P ops S g v a'/\K (a'.put g.dst v) w') a w:=by
 obtain⟨h1,h2,h3⟩:=Oper.apart_spec p;have keep:∀ (a:Act),YieldsIf P ops S g v a->∀ u,YieldsIf P ops S g v (a.put i.dst u):=λ a k u =>
  k.of_same (execOp_put g q a i.dst u h3) (wanted_put g a i.dst u h3)
 have m:∀ d,YieldsIf P ops S g v { a with defers:=d :: a.defers }:=λ d=>k.of_same rfl rfl;unfold wpOpIn at *;simp only[t] at *;rw[wanted_put i a g.dst v h1] at h
 split
 ·rename_i hw;simp only[hw,pG] at h;unfold Oper.wpIn at *;refine⟨λ _ _=>trivial,?_⟩;have h:=h.2;rw[Oper.semAt_eq _ _ _ (mU n),execOp_put i s a g.dst v h1] at h;rw[Oper.semAt_eq _ _ _ (mU n)];generalize(execOp a.eval i).run P w=r at *
  cases r with
  | ok x w' =>
   cases x<;>simp only[Oper.uponIn] at h ⊢
   case value u=>exact⟨keep a k u,by rw[<- Act.put_comm a v u h2]; exact h⟩
   case skip=>exact⟨keep a k _,by rw[<- Act.put_comm a v undef h2]; exact h⟩
   case defer d =>
    refine⟨keep _ (m d) _,?_⟩;rw[<- Act.put_comm _ v undef h2,<- Act.put_defers];exact h
   case enter f args =>
    refine⟨h.1,CallsIn.mono h.2 λ e o he=>?_⟩
    cases e with
    | returned u=>exact⟨keep a k u,by rw[<- Act.put_comm a v u h2]; exact he⟩
    | panicked c=>exact hQ _ _ _ he
    | outgrown=>exact he
   case row row args=>exact⟨h.1,RowsIn.mono h.2 λ u o he=>⟨keep a k u,by rw[<- Act.put_comm a v u h2]; exact he⟩⟩
   case round l f tmps assign body =>
    refine⟨h.1,RoundIn.mono h.2 λ e o he=>?_⟩
    cases e with
    | returned u=>exact⟨keep a k u,by rw[<- Act.put_comm a v u h2]; exact he⟩
    | panicked c=>exact hQ _ _ _ he
    | outgrown=>exact he
  | halt x w' =>
   cases x<;>simp only[Oper.uponIn] at h ⊢
   case panic u=>exact hQ _ _ _ h
 ·rename_i hw;simp only[hw] at h;exact⟨λ _ _=>trivial,keep a k _,by rw[<- Act.put_comm a v undef h2]; exact h.2⟩
def wG{ro:Option Nat}{P:Program}{ops:Array Oper}{Q:Exit->Act->World->Prop}{i:Nat}{C:Oper}{v:Value}{T:List (World->Prop)}(z:∀ (j:Nat) (o:Oper),ops[j]?=some o->kV o.op=true)(hi:ops[i]?=some C)(x:∀ (j:Nat) (o:Oper) cs b,ops[j]?=some o->o.op≠.select cs b)(hQ:∀ c a w,¬ Q (.panic c) a w) :
  ∀ (fuel:Nat) (listed:Array Bool) (d:zB) (a:Act) (w:World),closed ops listed ->
   (∀ j y,ops[j]?=some y->j≠i->listed.getD j true=false->(∀ e∈y.after,Region.binds .any e=true->e.on≠i)->C.apart ops y=true) ->
   i∈Region.ready .any ops listed->YieldsIf P ops (holds T) C v a->holds T w->(∀ p∈d,holds p.2 w) ->
   qf ro P ops Q fuel (listed.setIfInBounds i true) ((i,T) :: d) (a.put C.dst v) w->qf ro P ops Q (fuel+1) listed d a w:=by
 intro fuel
 induction fuel with
 | zero =>
  intro listed d a w _ _ B K N hp H;refine⟨λ h=>(by rw[h] at B; cases B),λ j I=>?_⟩
  by_cases g:j=i
  ·subst g;exact xZ (z _ _ hi) hi K N ⟨λ p A=>hp p ((jI.1 A).1),Ba 0 _ _ _ _ _ (λ p hp=>jH _ ((jI.1 hp).1)) H⟩
  ·have:=ready_mono I g;rw[H.1] at this
   cases this
 | succ fuel W =>
  intro listed d a w hc n B K N hp H;refine⟨λ h=>(by rw[h] at B; cases B),λ j I=>?_⟩
  by_cases g:j=i
  ·subst g;exact xZ (z _ _ hi) hi K N ⟨λ p A=>hp p ((jI.1 A).1),Ba _ _ _ _ _ _ (λ p hp=>jH _ ((jI.1 hp).1)) H⟩
  ·have h1:=H.2 j (ready_mono I g);obtain⟨u,y,l,m⟩:=mem_ready.1 I;have t:listed.getD i false=false:=by
    have M:=(mem_ready.1 B).1;rcases bw i listed.size with L | L
    ·simp[L] at M ⊢; exact M
    ·simp[Dp L] at M
   have E:∀ e∈y.after,Region.binds .any e=true->e.on≠i:=λ e he G heq=>by
    have h1:=m e he G;rw[heq,t] at h1
    cases h1
   have D:dep ops ops.size j i=false:=zZ hc t _ _ _ l m;have h2:=EW (z _ _ l) l (n j y l g u E) (λ cs b=>x i C cs b hi) (λ cs b=>x j y cs b l) (λ c a w h=>(hQ _ _ _ h).elim) K h1;have hd:drop ops j ((i,T) :: d)=(i,T) :: drop ops j d:=by simp[drop,D]
   refine wpOpIn_mono (λ a' w' h3=>?_) h2;obtain⟨U,f,r⟩:=h3;rw[hd] at f r;refine⟨λ p hp=>f p (jH _ hp),?_⟩;have s:∀ k ok,ops[k]?=some ok->k≠i->(listed.setIfInBounds j true).getD k true=false->(∀ e∈ok.after,Region.binds .any e=true->e.on≠i)->C.apart ops ok=true:=λ k ok J R F S=>by
    refine n k ok J R ?_ S
    by_cases q:j=k
    ·subst q; exact u
    ·rw[getD_set_ne true q] at F; exact F
   have O:closed ops (listed.setIfInBounds j true):=λ k ok J V e he G=>by
    by_cases q:j=k
    ·subst q;have:ok=y:=qP (J.symm.trans l);subst this;exact getD_set_true (m e he G)
    ·rw[getD_set_ne false q] at V;exact getD_set_true (hc k ok J V e he G)
   refine W (listed.setIfInBounds j true) (drop ops j d) a' w' O s (ready_mono B (Dq g)) U (f (i,T) (lA ..)) (λ p hp=>f p (jH _ hp)) ?_;rw[Array.setIfInBounds_comm _ _ g];exact r
def XO:Op->Bool
 | .move _|.assign _|.pick _ _ _|.load _ _|.nilCheck _|.binOp _ _ _ _ _|.unOp _ _ _|.makeInterface _ _|.makeFunc _ _ _
 | .slice _ _ _ _ _|.fieldAddr _ _ _|.field _ _ _|.indexAddr _ _ _|.index _ _ _|.extract _ _|.typeAssert _ _ _ _|.build _ _=>true
 | .call { callee:=.builtin .len,.. }|.call { callee:=.builtin .min,.. }|.call { callee:=.builtin .max,.. }|.call { callee:=.builtin .cap,.. }=>true
 | _=>false
def pick(ops:Array Oper):List Nat->Option Nat
 | []=>none
 | i :: is=>match ops[i]? with
  | some o=>cond (XO o.op) (some i) (pick ops is)
  | none=>pick ops is
theorem At{ops:Array Oper}{i:Nat}:∀ {l:List Nat},pick ops l=some i->i∈l
 | [],h=>by cases h
 | j :: is,h=>by
  unfold pick at h
  split at h
  ·rename_i o a
   cases hr:XO o.op with
   | true=>rw[hr] at h; cases h; exact lA ..
   | false=>rw[hr] at h; exact jH _ (At h)
  ·exact jH _ (At h)
def UO:List (World->Prop)->World->Prop->Prop
 | [],_,R=>R
 | f :: a,w,R=>f w/\UO a w R
theorem BP:∀ {T:List (World->Prop)} {w:World} {R:Prop},UO T w R->holds T w/\R
 | [],_,_,h=>⟨λ _ b=>(by cases b),h⟩
 | _ :: _,_,_,h=>by
  obtain⟨h1,h2⟩:=BP h.2;refine⟨λ g a=>?_,h2⟩;rcases cJ.1 a with rfl|a
  ·exact h.1
  ·exact h1 g a
def Q6:zB->World->Prop->Prop
 | [],_,R=>R
 | p :: ps,w,R=>UO p.2 w (Q6 ps w R)
theorem BO:∀ {ps:zB} {w:World} {R:Prop},Q6 ps w R->(∀ p∈ps,holds p.2 w)/\R
 | [],_,_,h=>⟨λ _ b=>(by cases b),h⟩
 | _ :: _,_,_,h=>by
  obtain⟨h1,h2⟩:=BP h;obtain⟨h3,h4⟩:=BO h2;refine⟨λ g a=>?_,h4⟩;rcases cJ.1 a with rfl|a
  ·exact h1
  ·exact h3 g a
def UN:List Prop->Prop
 | []=>True
 | [p]=>p
 | p :: q :: ps=>p/\UN (q :: ps)
theorem BN:∀ {l:List Prop},UN l->∀ p∈l,p
 | [],_,_,h=>by cases h
 | [p],h,q,b=>by
  have:q=p:=by simpa using b
  rw[this]; exact h
 | p :: q :: ps,h,r,a=>by
  rcases cJ.1 a with rfl|a
  ·exact h.1
  ·exact BN h.2 r a
def qe(P:Program)(ops:Array Oper):Nat->Array Bool->zB->Tm->World->(Tm->World->Prop)->Prop
 | 0,listed,_,t,w,K=>cond (Region.ready .any ops listed).isEmpty (K t w) False
 | n+1,listed,a,t,w,K =>
  match pick ops (Region.ready .any ops listed) with
  | some i=>match ops[i]? with
   | none=>False
   | some o=>cond (Region.free .any ops listed i) (gd ops t o (λ t=>V9 P o t w λ v T=>qe P ops n (listed.setIfInBounds i true) ((i,T) :: a) (pt t o.dst v) w K)
     (λ t=>qe P ops n (listed.setIfInBounds i true) a (pt t o.dst undef) w K)) False
  | none=>match Region.ready .any ops listed with
   | []=>K t w
   | i :: is=>UN ((i :: is).map λ i=>match ops[i]? with
    | none=>False
    | some o=>gd ops t o
     (λ t=>MY P o t w λ v w'=>Q6 (drop ops i a) w' (qe P ops n (listed.setIfInBounds i true) (drop ops i a) (pt t o.dst v) w' K))
     (λ t=>qe P ops n (listed.setIfInBounds i true) (drop ops i a) (pt t o.dst undef) w K))
def uw{ops:Array Oper}{listed:Array Bool}{i:Nat}(hc:closed ops listed)(hi:i∈Region.ready .any ops listed):closed ops (listed.setIfInBounds i true):=by
 obtain⟨_,h,c,a⟩:=mem_ready.1 hi;intro k ok f g e he d
 by_cases b:i=k
 ·subst b;have:ok=h:=qP (f.symm.trans c);subst this;exact getD_set_true (a e he d)
 ·rw[getD_set_ne false b] at g;exact getD_set_true (hc k ok f g e he d)
theorem sM{ro:Option Nat}{P:Program}{ops:Array Oper}{dd:List Deferred}{Q:Exit->Act->World->Prop}(g:∀ (j:Nat) (o:Oper),ops[j]?=some o->kV o.op=true)(r:Region.noSelect ops=true)(hQ:∀ c a w,¬ Q (.panic c) a w){K:Tm->World->Prop}{ds:List Nat}{t0:Tm}(q:∀ t w,Dx ds t0 t->K t w->Q .normal (pq t dd) w)(hd:∀ (i:Nat) (o:Oper),ops[i]?=some o->∀ d,o.dst=some d->d∈ds) :
  ∀ (n:Nat) (listed:Array Bool) (b:zB) (t:Tm) (w:World),Dx ds t0 t->closed ops listed->(∀ p∈b,holds p.2 w) ->
  qe P ops n listed b t w K->qf ro P ops Q n listed b (pq t dd) w
 | 0,listed,b,t,w,ha,_,_,h=>by
  obtain⟨h1,h2⟩:=nM h;exact⟨List.isEmpty_iff.1 h1,q _ _ ha h2⟩
 | n+1,listed,b,t,w,ha,hc,hp,h=>by
  unfold qe at h
  split at h
  ·rename_i i hi;have l:=At hi
   split at h
   ·exact h.elim
   ·rename_i o k;obtain⟨u,h⟩:=nM h;rcases y9 h with⟨hw,h⟩|⟨hw,h⟩
    ·obtain⟨v,T,A,y,m⟩:=PK h;refine wG g k (Region.noSelect_spec r) hQ n listed b (pq t dd) w hc (Region.free_spec k u) l (.inl ⟨hw,λ w' x=>by rw[oV]; exact m w' x⟩) y hp ?_;rw[nS];refine sM g r hQ q hd n _ _ _ _ (pL ha (hd _ _ k)) (uw hc l) ?_ A;intro p e;rcases cJ.1 e with rfl|e
     ·exact y
     ·exact hp p e
    ·refine wG (T:=[]) g k (Region.noSelect_spec r) hQ n listed b (pq t dd) w hc (Region.free_spec k u) l (.inr ⟨hw,rfl⟩) (λ f u=>by cases u) hp ?_;rw[nS];refine uU n _ b _ _ _ (λ p e=>?_) (sM g r hQ q hd n _ _ _ _ (pL ha (hd _ _ k)) (uw hc l) hp h);rcases cJ.1 e with rfl|e
     ·exact .inr rfl
     ·exact .inl e
  ·split at h
   ·rename_i m;exact⟨λ _=>q _ _ ha h,λ i hi=>by rw[m] at hi; cases hi⟩
   ·rename_i i0 is m;refine⟨λ z=>(by rw[z] at m; cases m),λ i hi=>?_⟩;have hm:(match ops[i]? with
     | none=>False
     | some o=>gd ops t o
      (λ t=>MY P o t w λ v w'=>Q6 (drop ops i b) w' (qe P ops n (listed.setIfInBounds i true) (drop ops i b) (pt t o.dst v) w' K)) (λ t=>qe P ops n (listed.setIfInBounds i true) (drop ops i b) (pt t o.dst undef) w K)):=by
     refine BN h _ (bL.2 ⟨i,by rw[<- m]; exact hi,rfl⟩)
    have s:=uw hc hi;unfold wpOpIn
    cases k:ops[i]? with
    | none=>rw[k] at hm; exact hm.elim
    | some o =>
     simp only[k] at hm ⊢;rcases y9 hm with⟨hw,hm⟩|⟨hw,hm⟩
     ·rw[ak hw];refine(TR (g _ _ k) (λ v w' B=>?_) hm);obtain⟨h1,h2⟩:=BO B;exact⟨h1,sM g r hQ q hd n _ _ _ _ (pL ha (hd _ _ k)) s h1 h2⟩
     ·rw[ah (by simp[hw]),nS];have h1:∀ p∈drop ops i b,holds p.2 w:=λ p e=>hp p ((jI.1 e).1);exact⟨λ _ _=>trivial,h1,sM g r hQ q hd n _ _ _ _ (pL ha (hd _ _ k)) s h1 hm⟩
