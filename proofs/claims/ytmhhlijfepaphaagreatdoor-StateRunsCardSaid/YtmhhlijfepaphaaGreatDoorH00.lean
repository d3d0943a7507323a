import Derived.OrdersHeld
import Derived.OrdersIn
import Derived.TacticsIn
import Derived.Sort.LoopGhostIn
import Derived.RangeFuncLeaves
import Derived.RangeFuncRecord
import Derived.RangeFuncSeq
import Derived.Still
import Derived.Tactics
import Derived.Laws.World
import Derived.Deep.LoopGhost
import Derived.Shelf.Abstract
set_option linter.all false
set_option maxRecDepth 100000
namespace Go.Vc
def Ex4{A0 A1 A2 A3:Type}{p:A0->A1->A2->A3->Prop}{x0 x1 x2 x3}(h:p x0 x1 x2 x3):∃x0 x1 x2 x3,p x0 x1 x2 x3:=⟨_,_,_,_,h⟩
def Ex8{A0 A1 A2 A3 A4 A5 A6 A7:Type}{p:A0->A1->A2->A3->A4->A5->A6->A7->Prop}{x0 x1 x2 x3 x4 x5 x6 x7}(h:p x0 x1 x2 x3 x4 x5 x6 x7):∃x0 x1 x2 x3 x4 x5 x6 x7,p x0 x1 x2 x3 x4 x5 x6 x7:=⟨_,_,_,_,_,_,_,_,h⟩
def nO:=@and_self
def lZ:=@List.forIn_cons
def cI:=@Bool.or_eq_false_iff
def af:=@if_neg
def ak:=@List.mem_of_getElem?
def aL:=@List.getElem?_map
def cU:=@Option.map_some
def mZ:=@Option.some.injEq
def ag:=@if_pos
def fe:=@Std.Legacy.Range.forIn_eq_forIn_range'
def bN:=@List.length_cons
def dw:=@List.mem_cons_self
def gy:=@Nat.eq_of_beq_eq_true
def kD:=@if_true
def oF:=@Array.isEmpty_iff
def cC:=@List.mem_append_right
def cr:=@List.mem_append_left
def cR:=@List.mem_cons_of_mem
def fz:=@List.all_cons
def aF:=@Bool.and_eq_true
def eG:=@List.any_eq_false
def cS:=@List.mem_filter
def aP:=@List.mem_cons
def aN:=@List.mem_map
def aB:=@List.mem_append
def cD:=@List.map_cons
def az:=@Nat.zero_add
def ob:=@List.mem_filterMap
def bw:=@List.all_eq_true
def aQ:=@Nat.lt_or_ge
def bD:=@List.foldl_cons
def ct:=@decide_eq_false_iff_not
def bL:=@beq_iff_eq
def aC:=@beq_eq_false_iff_ne
def o5:=@decide_eq_true
def ow:=@decide_eq_false
def gL:=@Array.getElem?_modify
def aD:=@Nat.le_refl
def bp:=@Nat.le_trans
def jg:=@Nat.lt_of_lt_of_le
def ki:=@Array.toList_setIfInBounds
def eB:=@List.take_succ_eq_append_getElem
def nF:=@List.take_set_of_le
def dA:=@List.append_assoc
def bZ:=@List.nil_append
def nA:=@List.drop_set_of_lt
def e9:=@Nat.zero_le
def cH:=@Nat.add_mul
def dZ:=@Nat.mul_le_mul_right
def eZ:=@Nat.mul_one
def bR:=@Int.le_refl
def fh:=@List.eq_nil_of_length_eq_zero
def nD:=@List.length_pos_iff
def bz:=@List.getElem?_take
def dy:=@Array.getElem?_toList
def iN:=@List.getElem?_cons_succ
def lW:=@Nat.div_div_eq_div_mul
def jN:=@Nat.pow_succ
def lq:=@Nat.mul_comm
def aX:=@List.ext_getElem?
def dJ:=@List.getElem?_append_right
def bB:=@List.take_of_length_le
def aq:=@Int.toNat_natCast
def mE:=@List.set_append_right
def jZ:=@List.replicate_succ
def jE:=@Nat.mod_lt
def kT:=@List.set_eq_of_length_le
def bu:=@List.length_map
def oG:=@List.length_range
def dY:=@List.mem_iff_getElem
def fI:=@List.getElem?_eq_getElem
def aJ:=@List.getElem?_eq_none
def ai:=@List.getElem?_eq_some_iff
def bQ:=@List.flatMap_cons
def gz:=@Nat.zero_mul
def dK:=@List.getElem?_append_left
def aA:=@List.length_append
def od:=@List.set_cons_succ
def j0:=@List.take_length_add_append
def kC:=@Nat.add_assoc
def aW:=@List.length_take
def bf:=@List.length_set
def js:=@List.size_toArray
def bG:=@List.length_drop
def fG:=@Array.length_toList
def gX:=@Nat.add_zero
def jh:=@List.take_take
def gu:=@Nat.min_eq_left
def fH:=@List.flatMap_append
def aT:=@List.length_nil
def fu:=@List.append_nil
def jw:=@List.flatMap_singleton
def mY:=@Nat.div_lt_of_lt_mul
def bS:=@List.length_replicate
def ji:=@List.take_zero
def jL:=@List.take_append_of_le_length
def aG:=@List.length_singleton
def cA:=@List.getElem?_drop
def bW:=@List.getElem?_set
def aO:=@Bool.true_and
def mO:=@Bool.false_and
def fO:=@Bool.false_or
def aH:=@List.take_length
def fA:=@List.all_eq_false
def fq:=@List.all_append
def jr:=@List.isEmpty_cons
def j7:=@Bool.not_false
def je:=@List.head?_cons
def fL:=@Option.getD_some
def fJ:=@List.take_succ_cons
def gO:=@List.takeWhile_cons
def jk:=@Nat.add_sub_cancel_left
def jj:=@List.length_eq_zero_iff
def aV:=@decide_eq_true_eq
def oo:=@Int.pow_succ
def bC:=@List.mem_of_mem_take
def fP:=@UInt8.toNat_inj
def mH:=@UInt8.toNat_ofNat'
def pK:=@bne_iff_ne
def dR:=@List.mem_nil_iff
def iS:=@or_false
def oI:=@UInt8.ofNat_toNat
def mF:=@List.takeWhile_prefix
def bO:=@List.drop_eq_getElem_cons
def dP:=@Option.some.inj
def jM:=@Nat.add_comm
def gI:=@List.length_tail
def eX:=@Bool.and_eq_false_iff
def jv:=@Bool.and_true
def cw:=@Int.mul_le_mul_of_nonneg_left
def bt:=@Int.mul_le_mul_of_nonneg_right
def nu:=@Int.mul_assoc
def om:=@Int.mul_comm
def bM:=@Int.le_trans
def dh:=@Int.mul_nonneg
def gG:=@List.any_eq_true
def cM:=@List.getElem?_replicate
def au:=@List.getD_eq_getElem?_getD
def lG:=@List.replicate_succ'
def iR:=@Int.natCast_add
def eY:=@Int.add_mul
def fk:=@Nat.sub_zero
def iM:=@Int.tdiv_eq_ediv_of_nonneg
def eV:=@List.mem_range
def cO:=@List.mem_or_eq_of_mem_set
def aS:=@List.map_append
def oq:=@List.map_nil
def mC:=@List.findIdx?_cons
def nv:=@List.any_cons
def jX:=@List.findIdx?_eq_none_iff
def dG:=@of_decide_eq_true
def oe:=@Nat.lt_of_le_of_lt
def jc:=@List.cons.injEq
def aI:=@List.mem_singleton
def jx:=@List.getElem?_range
def de:=@Nat.le_succ_of_le
def gT:=@Nat.not_lt_zero
def oH:=@Nat.le_of_succ_le
def eH:=@List.getLast?_eq_getElem?
def cG:=@List.foldl_append
def fK:=@List.foldl_nil
def ja:=@List.length_erase_of_mem
def iw:=@List.pairwise_map
def dL:=@List.nodup_append
def gN:=@Int.toNat_of_nonneg
def jD:=@List.getElem_mem
def bq:=@List.map_congr_left
def ot:=@Nat.sub_self
def dQ:=@List.getElem?_of_mem
def bH:=@List.map_singleton
def fZ:=@List.eq_of_mem_replicate
def cZ:=@Int.eq_ofNat_of_zero_le
def iY:=@Bool.true_or
def kX:=@Bool.or_true
def cN:=@List.getElem?_set_self
def kZ:=@List.set_set
def nI:=@decide_eq_decide
def jP:=@Bool.not_eq_true'
def jF:=@Prod.mk.injEq
def mV:=@List.getElem?_inj
def rq:=@Option.map_eq_none_iff
def gr:=@List.nodup_cons
def nt:=@Array.toList_modify
def dO:=@List.map_set
def mW:=@List.mem_erase_of_ne
def lV:=@List.length_pos_of_mem
def bV:=@List.mem_map_of_mem
def mG:=@Prod.ext
def nE:=@List.sum_cons
def cE:=@List.map_map
def gH:=@List.drop_length
def gV:=@List.sum_singleton
def nG:=@Nat.add_one_sub_one
def dx:=@List.mem_flatMap
def mX:=@List.mem_of_mem_drop
def lR:=@ByteArray.size_extract
def kY:=@Int.lt_or_le
def jq:=@Bool.not_eq_false
def kJ:=@Int.lt_trichotomy
def gA:=@getElem!_pos
def jf:=@Nat.eq_zero_or_pos
def jK:=@Array.getElem?_append_left
def jd:=@List.filter_append
def mD:=@List.length_filter_le
def mP:=@Int.mul_le_mul
def iB:=@List.take_append_drop
def ou:=@Nat.succ_pos
def lY:=@Bool.eq_iff_iff
def lu:=@and_congr_right
def kj:=@Int.tmod_eq_emod_of_nonneg
def cq:=@Decidable.of_not_not
def nZ:=@List.count_eq_zero
def jJ:=@List.contains_iff_mem
def nH:=@beq_self_eq_true
def j8:=@List.drop_zero
def kS:=@Array.mem_of_getElem?
def lS:=@List.filter_eq_nil_iff
def nC:=@List.filter_eq_self
abbrev ah:=World
def dT{p:Prop}[Decidable p](h:p):decide p=true:=decide_eq_true h
def dF{p:Prop}[Decidable p](h:¬p):decide p=false:=decide_eq_false h
def gE{a:Type}{l:List a}{i:Nat}(h:i<l.length):l[i]?=some l[i]:=List.getElem?_eq_getElem h
abbrev qd (b o:Nat):Addr:=⟨b,o,none⟩
abbrev qp (b:Nat):Value:=.pointer (some ⟨b,0,none⟩)
abbrev qz:Value:=.int .i64 0
abbrev qn:Value:=.slice none 0 0
abbrev qv:=Nat->Value
abbrev qW:=World->Prop
abbrev qN:=World->Nat->Prop
abbrev OA:=Option Addr
abbrev KP:=Value->World->Prop
abbrev qs (b:Nat):Option Addr:=some ⟨b,0,none⟩
def dX{a:Type}(l:List a)(k:Nat)(h:k<l.length):∃x,l[k]?=some x:=⟨_,List.getElem?_eq_getElem h⟩
abbrev Tm:=List Value
def gt:Tm->Nat->Value
 |[],_=>undef
 |v::_,0=>v
 |_::t,n+1=>gt t n
def st:Tm->Nat->Value->Tm
 |[],_,_=>[]
 |_::t,0,v=>v::t
 |x::t,n+1,v=>x::st t n v
def pt(t:Tm)(d:Option Nat)(v:Value):Tm:=
 match d with
 |some d=>st t d v
 |none=>t
def ev(t:Tm):Operand->Value
 |.tmp i=>gt t i
 |.const v=>v
 |.global g=>.pointer (some ⟨g,0,none⟩)
 |.func f=>.func (.func f) #[] #[]
def NG(t:Tm):∀i,gt t i=t.toArray.getD i undef:=by
 induction t with
 |nil=>intro i;simp[gt]
 |cons x t a=>
  intro i
  cases i with
  |zero=>simp[gt]
  |succ n=>simp[gt,a]
theorem UE(t:Tm):∀i v,(st t i v)=t.set i v:=by
 induction t with
 |nil=>intro i v;simp[st]
 |cons x t a=>
  intro i v
  cases i with
  |zero=>simp[st]
  |succ n=>simp[st,a]
def vp(t:Tm)(d:List Deferred):Act:={tmps:=t.toArray,defers:=d}
def ud(t:Tm)(ds:List Deferred)(d:Option Nat)(v:Value):(vp t ds).put d v=vp (pt t d v) ds:=by
 cases d<;>grind[vp,Act.put,pt,UE]
def uX(t:Tm)(ds:List Deferred):(vp t ds).eval=ev t:=by
 funext x
 cases x with
 |tmp i=>simp[Act.eval,vp,ev,NG]
 |_=>rfl
def SH(t:Tm):∀(i j:Nat) (v:Value),i≠j->gt (st t i v) j=gt t j:=by
 induction t with
 |nil=>intro i j v _;rfl
 |cons x t a=>
  intro i j v h
  cases i with
  |zero=>cases j with
   |zero=>exact absurd rfl h
   |succ j=>rfl
  |succ i=>cases j with
   |zero=>rfl
   |succ j=>exact a i j v (by omega)
def PA(t:Tm)(i:Nat)(v:Value):(st t i v).length=t.length:=by simp[UE]
theorem SG:∀(t a:Tm),t.length=a.length->(∀i,i<t.length->gt t i=gt a i)->t=a
 |[],[],_,_=>rfl
 |x::t,y::a,d,h=>by
  have b:=h 0 (by simp);simp only[gt] at b;rw[b,SG t a (by simpa using d) (λi c=>by have:=h (i+1) (by simpa using c);simpa[gt] using this)]
structure I6 where
 a:Int
 b:Int
 c:Int
 d:Int
 e:Int
 f:Int
def I6.vs(u:I6):List Value:=[.int .i64 u.a,.int .i64 u.b,.int .i64 u.c,.int .i64 u.d,.int .i64 u.e,.int .i64 u.f]
inductive SK where
 |int (k:IntKind)
 |bool
 |str
 |ptr
 |slice
 |map
 |blk
 |six
 |raw
inductive TK where
 |s (k:SK)
 |agg (ks:List SK)
inductive Kd where
 |t (k:TK)
 |tup (ks:List TK)
def X1:SK->(Value->Prop)->Prop
 |.int k,K=>∃n:Int,K (.int k n)
 |.bool,K=>∃b:Bool,K (.bool b)
 |.str,K=>∃s:ByteArray,K (.string s)
 |.ptr,K=>∃p:Option Addr,K (.pointer p)
 |.slice,K=>∃(a:Option Addr) (l c:Nat),K (.slice a l c)
 |.map,K=>∃r:Option Nat,K (.map r)
 |.blk,K=>∃r:Nat,K (.pointer (some ⟨r,0,none⟩))
 |.six,_=>False
 |.raw,K=>∃v:Value,K v
def Y3:List SK->(List Value->Prop)->Prop
 |[],K=>K []
 |.six::a,K=>∃u:I6,Y3 a λb=>K (u.vs++b)
 |k::a,K=>X1 k λv=>Y3 a λb=>K (v::b)
def X2:TK->(Value->Prop)->Prop
 |.s k,K=>X1 k K
 |.agg a,K=>Y3 a λb=>K (.agg b.toArray)
def V7:List TK->(List Value->Prop)->Prop
 |[],K=>K []
 |k::a,K=>X2 k λv=>V7 a λb=>K (v::b)
def exK:Kd->(Value->Prop)->Prop
 |.t k,K=>X2 k K
 |.tup a,K=>V7 a λb=>K (.tuple b.toArray)
def Hr{k:SK}{K:Value->Prop}(h:X1 k K):∃v,K v:=by
 cases k<;>simp only[X1] at h
 case slice=>obtain⟨a,l,c,h⟩:=h;exact⟨_,h⟩
 all_goals (obtain⟨v,h⟩:=h;exact⟨_,h⟩)
def L0:List SK->Nat
 |[]=>0
 |.six::a=>L0 a+6
 |_::a=>L0 a+1
def aaj(k:SK):k=.six\/k≠.six:=by grind
def Sn{k:SK}{a:List SK}{K:List Value->Prop}(b:k≠.six):Y3 (k::a) K=X1 k λv=>Y3 a λc=>K (v::c):=by cases k<;>first|rfl|exact absurd rfl b
def Pz{k:SK}{a:List SK}(b:k≠.six):L0 (k::a)=L0 a+1:=by cases k<;>first|rfl|grind
theorem Hq:∀{c:List SK} {K:List Value->Prop},Y3 c K->∃a,a.length=L0 c/\K a
 |[],_,h=>⟨[],rfl,h⟩
 |k::c,K,h=>by
  rcases aaj k with rfl|d
  .obtain⟨u,h⟩:=h;obtain⟨a,b,h⟩:=Hq h;exact⟨u.vs++a,by simp[b,L0,I6.vs],h⟩
  rw[Sn d] at h;obtain⟨v,h⟩:=Hr h;obtain⟨a,b,h⟩:=Hq h;exact⟨v::a,by rw[Pz d];simp[b],h⟩
def zh{k:TK}{K:Value->Prop}(h:X2 k K):∃v,K v:=by
 cases k with
 |s k=>exact Hr h
 |agg a=>obtain⟨b,_,h⟩:=Hq h;exact⟨_,h⟩
theorem Hs:∀{b:List TK} {K:List Value->Prop},V7 b K->∃a,K a
 |[],_,h=>⟨[],h⟩
 |_::_,_,h=>by
  obtain⟨v,h⟩:=zh h;obtain⟨a,h⟩:=Hs h;exact⟨v::a,h⟩
def Sm{k:Kd}{K:Value->Prop}(h:exK k K):∃v,K v:=by
 cases k with
 |t k=>exact zh h
 |tup a=>obtain⟨b,h⟩:=Hs h;exact⟨_,h⟩
def U3:IntKind->IntKind->Bool
 |.i8,.i8|.i16,.i16|.i32,.i32|.i64,.i64|.u8,.u8|.u16,.u16|.u32,.u32|.u64,.u64=>true
 |_,_=>false
def wR{a b:IntKind}(h:U3 a b=true):a=b:=by cases a<;>cases b<;>first|rfl|grind[U3]
def tX{b:Bool}{R:Prop}(h:cond b R False):b=true/\R:=by grind
def ach(P:Program)(t:TypeId):SK:=
 match P.underlying t with
 |some .bool=>.bool
 |some (.int k)=>.int k
 |some .string=>.str
 |some (.pointer _)=>.ptr
 |some (.slice _)=>.slice
 |some (.map _ _)=>.map
 |_=>.raw
def abH(P:Program)(t:TypeId):Bool:=match P.underlying t with
 |some (.int .i64)=>true
 |_=>false
def G3(P:Program):Nat->TypeId->List SK
 |0,_=>[]
 |n+1,t=>
  match P.underlying t with
  |some (.struct a)=>a.toList.flatMap λf=>G3 P n f.type
  |some (.array len e)=>cond (Nat.beq len 6&&abH P e) [.six] (List.replicate len (G3 P n e)).flatten
  |_=>[ach P t]
def AV(P:Program)(t:TypeId):TK:=
 match P.underlying t with
 |some (.struct _)=>.agg (G3 P 12 t)
 |some (.array _ _)=>.agg (G3 P 12 t)
 |_=>.s (ach P t)
def abJ(P:Program)(t:TypeId):Kd:=
 match P.underlying t with
 |some (.tuple a)=>.tup (a.toList.map (AV P))
 |_=>.t (AV P t)
def isRow:Obj->Bool
 |.cells ..=>true
 |_=>false
def Lg(P:Program){b:Type}:Sem b->World->(b->World->Prop)->Prop
 |.pure a,w,K=>K a w
 |.load _ a k,w,K=>∃v,w.cell? a=some v/\Lg P (k v) w K
 |.store _ a v k,w,K=>v.oneCell'=true/\(∃x,w.cell? a=some x)/\w.frozen? a=false/\Lg P k (w.setCell a v) K
 |.new o k,w,K=>Lg P (k w.heap.size) (w.alloc o) K
 |.shape r k,w,K=>Lg P (k (w.shape? r)) w K
 |.freeze a n k,w,K=>Lg P k (w.freeze a n) K
 |.frozen a k,w,K=>Lg P (k (w.frozen? a)) w K
 |.getObj r k,w,K=>∃o,w.heap[r]?=some o/\isRow o=false/\Lg P (k o) w K
 |.setObj r o k,w,K=>∃x,w.heap[r]?=some x/\isRow x=false/\Lg P k {w with heap:=w.heap.setIfInBounds r o} K
 |.choose q k,w,K=>cond q.forced (Lg P (k 0) w K) (∀t,Lg P (k (q.cut t)) w.drew K)
 |.sys _ _,_,_=>False
 |.program k,w,K=>Lg P (k P) w K
 |.mark _ k,w,K=>Lg P k w K
 |.halt _,_,_=>False
def N5{P:Program}{i:Type}:∀(s:Sem i) (w:World) (K:i->World->Prop),Lg P s w K->∃a d,s.run P w=.ok a d/\K a d:=by
 intro s
 induction s with
 |pure a=>exact λw K h=>⟨a,w,rfl,h⟩
 |load m a k b=>
  rintro w K ⟨v,f,h⟩;obtain⟨x,d,e,c⟩:=b v w K h;exact⟨x,d,by simp only[Sem.run,f];exact e,c⟩
 |store m a v k b=>
  rintro w K ⟨f,⟨x,j⟩,g,h⟩;obtain⟨y,d,e,c⟩:=b (w.setCell a v) K h;refine⟨y,d,?_,c⟩
  cases v<;>first|(simp[Value.oneCell'] at f;done)|(simp only[Sem.run,j,g];exact e)
 |new o k b=>exact λw K h=>b _ _ K h
 |shape r k b=>exact λw K h=>b _ _ K h
 |freeze a n k b=>exact λw K h=>b _ K h
 |frozen a k b=>exact λw K h=>b _ _ K h
 |getObj r k b=>
  rintro w K ⟨o,g,f,h⟩;obtain⟨x,d,e,c⟩:=b o w K h;refine⟨x,d,?_,c⟩;simp only[Sem.run,g]
  cases o<;>first|(simp[isRow] at f;done)|exact e
 |setObj r o k b=>
  rintro w K ⟨j,g,f,h⟩;obtain⟨x,d,e,c⟩:=b _ K h;refine⟨x,d,?_,c⟩;simp only[Sem.run,g]
  cases j <;> first|(simp[isRow] at f;done)|exact e
 |choose q k b=>
  intro w K h;simp only[Lg] at h
  cases hq:q.forced with
  |true=>
   rw[hq] at h;obtain⟨x,d,e,c⟩:=b 0 w K h;exact⟨x,d,by simp only[Sem.run,hq,if_true];exact e,c⟩
  |false=>
   rw[hq] at h;obtain⟨x,d,e,c⟩:=b _ w.drew K (h (w.tape w.drawn q));exact⟨x,d,by simp only[Sem.run,hq,Bool.false_eq_true,if_false];exact e,c⟩
 |sys c k b=>exact λw K h=>h.elim
 |program k b=>exact λw K h=>b P w K h
 |mark m k b=>exact λw K h=>b w K h
 |halt x=>exact λw K h=>h.elim
abbrev FW (ro:Option Nat):Fence:={Fence.wide with round:=ro}
def Gc(P:Program)(ty:TypeId)(K:Value->World->Prop):Next->World->Prop
 |.value v,w=>K v w
 |.skip,w=>K undef w
 |.enter f args,w=>Calls P f args w λe c=>exK (abJ P ty) λv=>e=.returned v/\K v c
 |.round l f b assign a,w=>RoundIn Fence.wide 0 P l f b assign a w λe c=>∃v,e=.returned v/\K v c
 |_,_=>False
def vu(P:Program)(l:Nat)(args:Array Value)(w:World)(K:Bool->World->Prop):Prop:=
 YieldAt Fence.wide 0 P l args w λe a=>∃b,e=.returned (.bool b)/\K b a
def ri:Op->Bool
 |.defer _=>false
 |_=>true
def tn{o:Op}(h:ri o=true):∀c,o≠.defer c:=λc e=>by rw[e] at h;cases h
def xR{P:Program}{ro:Option Nat}{o:Oper}{a:Act}{w:World}{ty:TypeId}{K:Value->World->Prop}{N:Act->World->Prop}{Q:Exit->Act->World->Prop}{n:Next}(c:∀v i,K v i->N (a.put o.dst v) i)(b:Gc P ty K n w):o.uponIn (FW ro) 0 P a N Q (.ok n w):=by
 cases n<;>simp only[Gc] at b<;>simp only[Oper.uponIn]
 .exact c _ _ b
 .exact c _ _ b
 .refine⟨λh=>(by cases h),?_⟩;have j:CallsIn Fence.wide 0 P _ _ w _:=callsIn_wide.2 b;refine CallsIn.mono (show CallsIn (FW ro) 0 P _ _ w _ from j) λe g d=>?_;obtain⟨v,rfl,f⟩:=Sm d;exact c _ _ f
 refine⟨λh=>(by cases h),RoundIn.mono (show RoundIn (FW ro) 0 P _ _ _ _ _ w _ from b) λe g d=>?_⟩;obtain⟨v,rfl,f⟩:=d;exact c _ _ f
def holds(T:List (World->Prop))(w:World):Prop:=∀f∈T,f w
def W8(P:Program){c:Type}:Sem c->World->List (World->Prop)->(c->List (World->Prop)->Prop)->Prop
 |.pure a,_,T,K=>K a T
 |.load _ a k,w,T,K=>∃v,w.cell? a=some v/\W8 P (k v) w ((λb=>b.cell? a=some v)::T) K
 |.shape r k,w,T,K=>W8 P (k (w.shape? r)) w ((λb=>b.shape? r=w.shape? r)::T) K
 |.frozen a k,w,T,K=>W8 P (k (w.frozen? a)) w ((λb=>b.frozen? a=w.frozen? a)::T) K
 |.getObj r k,w,T,K=>∃o,w.heap[r]?=some o/\isRow o=false/\W8 P (k o) w ((λb=>b.heap[r]?=some o)::T) K
 |.choose q k,w,T,K=>cond q.forced (W8 P (k 0) w T K) False
 |.program k,w,T,K=>W8 P (k P) w T K
 |_,_,_,_=>False
def W9{P:Program}{u:Type}:∀(s:Sem u) (w:World) (T:List (World->Prop)) (K:u->List (World->Prop)->Prop),W8 P s w T K ->
  ∃a e,K a e/\(holds T w->holds e w)/\∀d,holds e d->holds T d/\s.run P d = .ok a d:=by
 intro s
 induction s with
 |pure a=>exact λw T K h=>⟨a,T,h,id,λd i=>⟨i,rfl⟩⟩
 |load m a k j=>
  rintro w T K ⟨v,t,h⟩;obtain⟨x,e,n,i,l⟩:=j v w _ K h;refine⟨x,e,n,λq=>i λf b=>?_,λd c=>?_⟩
  .rcases List.mem_cons.1 b with rfl|b
   .exact t
   exact q f b
  obtain⟨g,o⟩:=l d c;have p:=g _ (List.mem_cons_self ..);exact⟨λf b=>g f (List.mem_cons_of_mem _ b),by simp only[Sem.run,p];exact o⟩
 |shape r k j=>
  intro w T K h;obtain⟨x,e,n,i,l⟩:=j _ w _ K h;refine⟨x,e,n,λq=>i λf b=>?_,λd c=>?_⟩
  .rcases List.mem_cons.1 b with rfl|b
   .rfl
   exact q f b
  obtain⟨g,o⟩:=l d c;have p:=g _ (List.mem_cons_self ..);exact⟨λf b=>g f (List.mem_cons_of_mem _ b),by simp only[Sem.run,p];exact o⟩
 |frozen r k j=>
  intro w T K h;obtain⟨x,e,n,i,l⟩:=j _ w _ K h;refine⟨x,e,n,λq=>i λf b=>?_,λd c=>?_⟩
  .rcases List.mem_cons.1 b with rfl|b
   .rfl
   exact q f b
  obtain⟨g,o⟩:=l d c;have p:=g _ (List.mem_cons_self ..);exact⟨λf b=>g f (List.mem_cons_of_mem _ b),by simp only[Sem.run,p];exact o⟩
 |getObj r k j=>
  rintro w T K ⟨v,t,y,h⟩;obtain⟨x,e,n,i,l⟩:=j v w _ K h;refine⟨x,e,n,λq=>i λf b=>?_,λd c=>?_⟩
  .rcases List.mem_cons.1 b with rfl|b
   .exact t
   exact q f b
  obtain⟨g,o⟩:=l d c;have p:=g _ (List.mem_cons_self ..);refine⟨λf b=>g f (List.mem_cons_of_mem _ b),?_⟩;simp only[Sem.run,p]
  cases v<;>first|(simp[isRow] at y;done)|exact o
 |choose q k j=>
  intro w T K h;simp only[W8] at h
  cases hq:q.forced with
  |true=>
   rw[hq] at h;obtain⟨x,e,n,i,l⟩:=j _ w _ K h;exact⟨x,e,n,i,λd c=>⟨(l d c).1,by simp only[Sem.run,hq,if_true];exact(l d c).2⟩⟩
  |false=>rw[hq] at h;exact h.elim
 |program k j=>exact λw T K h=>j P w T K h
 |store=>exact λw T K h=>h.elim
 |new=>exact λw T K h=>h.elim
 |freeze=>exact λw T K h=>h.elim
 |setObj=>exact λw T K h=>h.elim
 |sys=>exact λw T K h=>h.elim
 |mark=>exact λw T K h=>h.elim
 |halt=>exact λw T K h=>h.elim
end Go.Vc
namespace Go.Vc
def fN{b:Type}(p:Option b)(F:b->Prop):Prop:=
 match p with
 |some a=>F a
 |none=>False
def nU{b:Type}{p:Option b}{F:b->Prop}(h:fN p F):∃a,p=some a/\F a:=by
 cases p with
 |none=>exact h.elim
 |some a=>exact⟨a,rfl,h⟩
def CJ(P:Program)(t:TypeId):Option Nat:=(P.info? t).map (·.size)
def A8(x:Option Value)(a top:Nat)(F:Nat->Prop):Prop:=
 match x with
 |none=>F a
 |some (.int _ i)=>0<=i/\i<=(top:Int)/\F i.toNat
 |some _=>False
def slK(P:Program)(ty:TypeId)(x:Value)(lo hi mx:Option Value)(K:Value->Prop):Prop:=
 match P.underlying ty with
 |some .string=>match x,mx with
  |.string s,none=>A8 hi s.size s.size λh=>A8 lo 0 h λl=>K (.string (s.extract l h))
  |_,_=>False
 |some (.slice e)=>match x with
  |.slice a len cap=>cond (mx.isSome&&hi.isNone) False <|fN (CJ P e) λb=>A8 mx cap cap λm=>A8 hi len m λh=>A8 lo 0 h λl=>
    K (.slice (if m=l then a else a.map (·.add (l*b))) (h-l) (m-l))
  |_=>False
 |_=>False
def ixK(P:Program)(ty:TypeId)(x i:Value)(K:Value->Prop):Prop:=
 match P.underlying ty,i with
 |some .string,.int _ i=>match x with
  |.string s=>0<=i/\fN s[i.toNat]? λb=>K (.int .u8 b.toNat)
  |_=>False
 |some (.array n e),.int _ i=>match x with
  |.agg cs=>0<=i/\i<(n:Int)/\fN (CJ P e) λa=>(match AV P e with
    |.s k=>cond (P.underlying e).isSome (X1 k λv=>cs[i.toNat*a]?=some v/\K v) False
    |.agg _=>K (.agg (cs.extract (i.toNat*a) (i.toNat*a+a))))
  |_=>False
 |_,_=>False
def Zj(P:Program)(ty:TypeId)(x i:Value)(K:Value->Prop):Prop:=
 match P.underlying ty,i with
 |some (.slice e),.int _ i=>match x with
  |.slice base len _=>fN base λad=>0<=i/\i<(len:Int)/\fN (CJ P e) λa=>K (.pointer (some (ad.add (i.toNat*a))))
  |_=>False
 |some (.array n e),.int _ i=>match x with
  |.pointer base=>fN base λad=>0<=i/\i<(n:Int)/\fN (CJ P e) λa=>K (.pointer (some (ad.add (i.toNat*a))))
  |_=>False
 |_,_=>False
def Ti(v:Value)(F:Bool->Prop):Prop:=
 match v with
 |.nilIface=>F true
 |.iface _ _=>F false
 |_=>False
def Th(v:Value)(F:Bool->Prop):Prop:=
 match v with
 |.nilFunc=>F true
 |.func _ _ _=>F false
 |_=>False
def PS(P:Program)(ty:TypeId)(neg:Bool)(x:Value)(y:Operand):Option ((Value->Prop)->Prop):=
 match P.underlying ty,y with
 |some (.pointer _),.const (.pointer none)=>match x with
  |.pointer p=>some λK=>K (.bool (cond neg (!p.isNone) p.isNone))
  |_=>none
 |some (.slice _),.const (.slice none _ _)=>match x with
  |.slice a _ _=>some λK=>K (.bool (cond neg (!a.isNone) a.isNone))
  |_=>none
 |some (.interface _),.const .nilIface=>some λK=>Ti x λb=>K (.bool (cond neg (!b) b))
 |some (.func _ _ _),.const .nilFunc=>some λK=>Th x λb=>K (.bool (cond neg (!b) b))
 |_,_=>none
def SO:TypeDesc->Bool
 |.struct _=>true
 |.array _ _=>true
 |_=>false
def Gi(P:Program)(e:TypeId)(cs:Array Value)(off:Nat):Option Value:=
 match P.underlying e,CJ P e with
 |some d,some a=>cond (SO d) (some (.agg (cs.extract off (off+a)))) cs[off]?
 |_,_=>none
def Lp:List (Option Bool)->Option Bool
 |[]=>some true
 |none::_=>none
 |some b::l=>match Lp l with
  |none=>none
  |some r=>some (b&&r)
def V2(P:Program):Nat->TypeId->Value->Value->Option Bool
 |0,_,_,_=>none
 |d+1,t,x,y=>
  match P.underlying t with
  |some .bool=>match x,y with
   |.bool a,.bool b=>some (a==b)
   |_,_=>none
  |some (.int _)=>match x,y with
   |.int k a,.int c b=>cond (U3 k c) (some (a==b)) none
   |_,_=>none
  |some .string=>match x,y with
   |.string a,.string b=>some (a==b)
   |_,_=>none
  |some (.struct h)=>match x,y with
   |.agg c,.agg g=>cond (P.stoodInHeld t||h.toList.any λf=>f.name== "_") none
     (Lp (h.toList.map λf=>match Gi P f.type c f.offset,Gi P f.type g f.offset with
      |some a,some b=>V2 P d f.type a b
      |_,_=>none))
   |_,_=>none
  |some (.array n e)=>match x,y with
   |.agg c,.agg g=>match CJ P e with
    |none=>none
    |some f=>Lp ((List.range n).map λi=>match Gi P e c (i*f),Gi P e g (i*f) with
      |some a,some b=>V2 P d e a b
      |_,_=>none)
   |_,_=>none
  |_=>none
def Vf(P:Program)(ty:TypeId)(neg:Bool)(x y:Value):Option ((Value->Prop)->Prop):=
 match x,y with
 |.agg a,.agg c=>cond (P.eqGuardType P.depth ty) none (match V2 P 12 ty (.agg a) (.agg c) with
  |some b=>some λK=>K (.bool (cond neg (!b) b))
  |none=>none)
 |_,_=>none
def arK(op:BinOp)(x y:Value):Option ((Value->Prop)->Prop):=
 match op,x,y with
 |.quo,.int k a,.int c b=>cond (U3 k c) (some λK=>b≠0/\K (.int k (k.wrap (a.tdiv b)))) none
 |.rem,.int k a,.int c b=>cond (U3 k c) (some λK=>b≠0/\K (.int k (a.tmod b))) none
 |.shl,.int k a,.int _ b=>some λK=>0<=b/\K (.int k (k.wrap (a*2 ^ (min b.toNat k.bits))))
 |.shr,.int k a,.int _ b=>some λK=>0<=b/\K (.int k (a.fdiv (2 ^ (min b.toNat k.bits))))
 |.add,.string a,.string b=>some λK=>((a.size+b.size:Nat):Int)<=IntKind.i64.max/\K (.string (a++b))
 |_,_,_=>none
def orE{b:Type}(x y:Option b):Option b:=
 match x with
 |some a=>some a
 |none=>y
def Xz(P:Program)(o:Oper)(t:Tm):Option ((Value->Prop)->Prop):=
 match o.op with
 |.move x|.assign x=>some λK=>K (ev t x)
 |.pick c a b=>match ev t c with
  |.bool x=>some λK=>cond x (K (ev t a)) (K (ev t b))
  |_=>none
 |.convert src dst x=>match P.underlying src,P.underlying dst,ev t x with
  |some _,some (.int k),.int _ n=>some λK=>K (.int k (k.wrap n))
  |_,_,_=>none
 |.nilCheck x=>match ev t x with
  |.pointer p=>some λK=>fN p λa=>K (.pointer (some a))
  |_=>none
 |.slice d x lo e mx=>some (slK P d (ev t x) (lo.map (ev t)) (e.map (ev t)) (mx.map (ev t)))
 |.index d x i=>some (ixK P d (ev t x) (ev t i))
 |.indexAddr d x i=>some (Zj P d (ev t x) (ev t i))
 |.binOp op d x y _=>match op with
  |.eql=>orE (PS P d false (ev t x) y) (orE (PS P d false (ev t y) x) (Vf P d false (ev t x) (ev t y)))
  |.neq=>orE (PS P d true (ev t x) y) (orE (PS P d true (ev t y) x) (Vf P d true (ev t x) (ev t y)))
  |op=>arK op (ev t x) (ev t y)
 |_=>none
def GW{P:Program}{x:Option Value}{d top:Nat}{F:Nat->Prop}(h:A8 x d top F):
  ∃n,F n/\∀(code:BoundsCode) (w:World),(match x with|some v=>(Instr.sliceBound v top code).run P w|none=>.ok d w)=.ok n w:=by
 unfold A8 at h
 split at h
 .exact⟨d,h,λ_ _=>rfl⟩
 .rename_i k i;obtain⟨a,b,c⟩:=h;exact⟨i.toNat,c,λ_ _=>by simp[Instr.sliceBound,asIntOf,a,b]⟩
 exact h.elim
def cW{P:Program}{t:TypeId}{d:TypeDesc}(h:P.underlying t=some d)(w:World):(underlying t).run P w=.ok d w:=by
 simp[underlying,h]
def xM{P:Program}{t:TypeId}{n:Nat}(h:CJ P t=some n)(w:World):(sizeOf t).run P w=.ok n w:=by
 unfold CJ at h
 cases hi:P.info? t with
 |none=>simp[hi] at h
 |some i=>simp[hi] at h;simp[sizeOf,typeInfo,hi,h]
def Dz{P:Program}{b:Bool}{len cap:Nat}{lo hi mx:Option Value}{F:Nat->Nat->Nat->Prop}(j:mx=none\/hi≠none)(h:A8 mx cap cap λm=>A8 hi len m λh=>A8 lo 0 h λl=>F l h m):
  ∃l h m,F l h m/\∀w,(Instr.sliceBounds b len cap lo hi mx).run P w=.ok (l,h,m) w:=by
 obtain⟨m,g1,e⟩:=GW (P:=P) h;obtain⟨i,g2,a⟩:=GW (P:=P) g1;obtain⟨l,f,d⟩:=GW (P:=P) g2;refine⟨l,i,m,f,λw=>?_⟩;have g:=λc=>e c w;have k:=λc=>a c w;have n:=λc=>d c w;clear h g1 g2 f e a d
 cases mx with
 |none=>
  have:=g .index;simp only[Result.ok.injEq,and_true] at this;subst this
  cases hi<;>cases lo<;>simp_all[Instr.sliceBounds]
 |some p=>
  cases hi with
  |none=>simp at j
  |some o=>cases lo<;>simp_all[Instr.sliceBounds]
def Xu{P:Program}{ty:TypeId}{x:Value}{lo hi mx:Option Value}{K:Value->Prop}(h:slK P ty x lo hi mx K):
  ∃v,(∀w,(Instr.sliceAt ty x lo hi mx).run P w=.ok v w)/\K v:=by
 unfold slK at h
 split at h
 .rename_i i
  split at h
  .rename_i s;obtain⟨l,c,m,d,f⟩:=Dz (P:=P) (b:=false) (len:=s.size) (cap:=s.size) (lo:=lo) (hi:=hi) (mx:=none) (F:=λl c _=>K (.string (s.extract l c))) (.inl rfl) h;exact⟨_,λw=>by simp[Instr.sliceAt,Instr.slice,cW i,f],d⟩
  exact h.elim
 .rename_i e i
  split at h
  .rename_i a len cap;have k:mx=none\/hi≠none:=by
    cases mx with
    |none=>exact .inl rfl
    |some _=>cases hi with
     |none=>exact h.elim
     |some _=>exact .inr (by simp)
   have h:fN (CJ P e) λj=>A8 mx cap cap λm=>A8 hi len m λh=>A8 lo 0 h λl=>
     K (.slice (if m=l then a else a.map (·.add (l*j))) (h-l) (m-l)):=by
    grind
   obtain⟨j,g,h⟩:=nU h;obtain⟨l,c,m,d,f⟩:=Dz (P:=P) (b:=true) k h;exact⟨_,λw=>by simp[Instr.sliceAt,Instr.slice,cW i,f,xM g],d⟩
  exact h.elim
 exact h.elim
def Na{P:Program}{t:TypeId}{b:List SK}(h:AV P t=.agg b)(w:World):(isAgg t).run P w=.ok true w:=by
 unfold AV at h
 split at h
 .rename_i a;simp[isAgg,cW a]
 .rename_i a;simp[isAgg,cW a]
 cases h
def Ge{P:Program}{t:TypeId}{k:SK}(h:AV P t=.s k)(hi:(P.underlying t).isSome=true)(w:World):(isAgg t).run P w=.ok false w:=by
 unfold AV at h
 split at h
 .cases h
 .cases h
 rename_i a b
 cases hu:P.underlying t with
 |none=>simp[hu] at hi
 |some d=>
  cases d<;>first|exact absurd hu (a _)|exact absurd hu (b _ _)|simp[isAgg,cW hu]
def Wm{P:Program}{ty:TypeId}{x i:Value}{K:Value->Prop}(h:ixK P ty x i K):
  ∃v,(∀w,(Instr.index ty x i).run P w=.ok v w)/\K v:=by
 unfold ixK at h
 split at h
 .rename_i k n d
  split at h
  .rename_i s;obtain⟨c,h⟩:=h;obtain⟨b,e,a⟩:=nU h;exact⟨_,λw=>by simp[Instr.index,asIntOf,cW d,c,e],a⟩
  exact h.elim
 .rename_i n e k i d
  split at h
  .rename_i cs;obtain⟨c,f,h⟩:=h;obtain⟨m,b,h⟩:=nU h
   split at h
   .rename_i k a;obtain⟨j,h⟩:=tX h;obtain⟨v,l,g⟩:=Hr h;exact⟨v,λw=>by simp[Instr.index,asIntOf,cW d,c,f,part,Ge a j,xM b,l],g⟩
   rename_i g a;exact⟨_,λw=>by simp[Instr.index,asIntOf,cW d,c,f,part,Na a,xM b],h⟩
  exact h.elim
 exact h.elim
def SR{P:Program}{ty:TypeId}{x i:Value}{K:Value->Prop}(h:Zj P ty x i K):
  ∃v,(∀w,(Instr.indexAt ty x i).run P w=.ok v w)/\K v:=by
 unfold Zj at h
 split at h
 .rename_i e k i d
  split at h
  .obtain⟨ad,rfl,b,c,h⟩:=nU h;obtain⟨f,a,h⟩:=nU h;exact⟨_,λw=>by simp[Instr.indexAt,asIntOf,cW d,b,c,xM a],h⟩
  exact h.elim
 .rename_i n e k i d
  split at h
  .obtain⟨ad,rfl,b,c,h⟩:=nU h;obtain⟨f,a,h⟩:=nU h;exact⟨_,λw=>by simp[Instr.indexAt,Instr.sureAddr,asIntOf,cW d,b,c,xM a],h⟩
  exact h.elim
 exact h.elim
def qX{P:Program}{ty:TypeId}{x y:Value}{b:Bool}{w:World}(h:∀d,(Op.equalIn (d+1) ty x y).run P w=.ok b w):(Op.equal ty x y).run P w=.ok b w:=h 9999
def pM{P:Program}{ty:TypeId}{x y:Value}{b neg:Bool}{w:World}(h:(Op.equal ty x y).run P w=.ok b w)(a:(binOp (cond neg .neq .eql) ty x y)=(do let r <-Op.equal ty x y;pure (.bool (cond neg (!r) r)))):(binOp (cond neg .neq .eql) ty x y).run P w=.ok (.bool (cond neg (!b) b)) w:=by
 rw[a];simp[h]
def CZ{P:Program}{ty:TypeId}{neg:Bool}{t:Tm}{x y:Operand}{F:(Value->Prop)->Prop}(j:PS P ty neg (ev t x) y=some F){K:Value->Prop}(h:F K):
  ∃v,(∀w,(do eqGuard (cond neg .neq .eql) ty x y (ev t x) (ev t y);binOp (cond neg .neq .eql) ty (ev t x) (ev t y):Sem Value).run P w=.ok v w/\(do eqGuard (cond neg .neq .eql) ty y x (ev t y) (ev t x);binOp (cond neg .neq .eql) ty (ev t y) (ev t x):Sem Value).run P w=.ok v w)/\K v:=by
 unfold PS at j
 split at j
 .rename_i e f
  split at j
  .rename_i p q
   cases j
   refine⟨_,λw=>?_,h⟩;have g:(Op.equal ty (.pointer p) (.pointer none)).run P w=.ok p.isNone w:=qX λd=>by cases p<;>simp[Op.equalIn,cW f]
   have k:(Op.equal ty (.pointer none) (.pointer p)).run P w=.ok p.isNone w:=qX λd=>by cases p<;>simp[Op.equalIn,cW f]
   have i:=pM (neg:=neg) g (by cases neg<;>rfl);have m:=pM (neg:=neg) k (by cases neg<;>rfl);have g1:∀a b:Operand,(eqGuard (cond neg .neq .eql) ty a b (.pointer p) (.pointer none)).run P w=.ok () w:=λa b=>by cases neg<;>simp[eqGuard]
   have g2:∀a b:Operand,(eqGuard (cond neg .neq .eql) ty a b (.pointer none) (.pointer p)).run P w=.ok () w:=λa b=>by cases neg<;>simp[eqGuard]
   rw[q];simp only[ev,Sem.run_bind,g1,g2,Result.andThen_ok,i,m,nO]
  cases j
 .rename_i e l c f
  split at j
  .rename_i p o n q
   cases j
   refine⟨_,λw=>?_,h⟩;have g:(Op.equal ty (.slice p o n) (.slice none l c)).run P w=.ok p.isNone w:=qX λd=>by cases p<;>simp[Op.equalIn,cW f]
   have k:(Op.equal ty (.slice none l c) (.slice p o n)).run P w=.ok p.isNone w:=qX λd=>by cases p<;>simp[Op.equalIn,cW f]
   have i:=pM (neg:=neg) g (by cases neg<;>rfl);have m:=pM (neg:=neg) k (by cases neg<;>rfl);have g1:∀a b:Operand,(eqGuard (cond neg .neq .eql) ty a b (.slice p o n) (.slice none l c)).run P w=.ok () w:=λa b=>by cases neg<;>simp[eqGuard]
   have g2:∀a b:Operand,(eqGuard (cond neg .neq .eql) ty a b (.slice none l c) (.slice p o n)).run P w=.ok () w:=λa b=>by cases neg<;>simp[eqGuard]
   rw[q];simp only[ev,Sem.run_bind,g1,g2,Result.andThen_ok,i,m,nO]
  cases j
 .rename_i ms f
  cases j
  revert h;generalize ev t x=v;intro h
  cases v<;>simp only[Ti] at h
  .rename_i a b;refine⟨_,λw=>?_,h⟩;have g:(Op.equal ty (.iface a b) .nilIface).run P w=.ok false w:=qX λd=>by simp[Op.equalIn,cW f]
   have k:(Op.equal ty .nilIface (.iface a b)).run P w=.ok false w:=qX λd=>by simp[Op.equalIn,cW f]
   have i:=pM (neg:=neg) g (by cases neg<;>rfl);have m:=pM (neg:=neg) k (by cases neg<;>rfl);have g1:(eqGuard (cond neg .neq .eql) ty x (.const .nilIface) (.iface a b) .nilIface).run P w=.ok () w:=by cases neg<;>simp[eqGuard]
   have g2:(eqGuard (cond neg .neq .eql) ty (.const .nilIface) x .nilIface (.iface a b)).run P w=.ok () w:=by cases neg<;>simp[eqGuard]
   simp only[ev,Sem.run_bind,g1,g2,Result.andThen_ok,i,m,nO]
  refine⟨_,λw=>?_,h⟩;have g:(Op.equal ty .nilIface .nilIface).run P w=.ok true w:=qX λd=>by simp[Op.equalIn,cW f]
  have i:=pM (neg:=neg) g (by cases neg<;>rfl);have g1:(eqGuard (cond neg .neq .eql) ty x (.const .nilIface) .nilIface .nilIface).run P w=.ok () w:=by cases neg<;>simp[eqGuard]
  have g2:(eqGuard (cond neg .neq .eql) ty (.const .nilIface) x .nilIface .nilIface).run P w=.ok () w:=by cases neg<;>simp[eqGuard]
  simp only[ev,Sem.run_bind,g1,g2,Result.andThen_ok,i,nO]
 .rename_i e n o f
  cases j
  revert h;generalize ev t x=v;intro h
  cases v<;>simp only[Th] at h
  .rename_i a b c;refine⟨_,λw=>?_,h⟩;have g:(Op.equal ty (.func a b c) .nilFunc).run P w=.ok false w:=qX λd=>by simp[Op.equalIn,cW f]
   have k:(Op.equal ty .nilFunc (.func a b c)).run P w=.ok false w:=qX λd=>by simp[Op.equalIn,cW f]
   have i:=pM (neg:=neg) g (by cases neg<;>rfl);have m:=pM (neg:=neg) k (by cases neg<;>rfl);have g1:(eqGuard (cond neg .neq .eql) ty x (.const .nilFunc) (.func a b c) .nilFunc).run P w=.ok () w:=by cases neg<;>simp[eqGuard]
   have g2:(eqGuard (cond neg .neq .eql) ty (.const .nilFunc) x .nilFunc (.func a b c)).run P w=.ok () w:=by cases neg<;>simp[eqGuard]
   simp only[ev,Sem.run_bind,g1,g2,Result.andThen_ok,i,m,nO]
  refine⟨_,λw=>?_,h⟩;have g:(Op.equal ty .nilFunc .nilFunc).run P w=.ok true w:=qX λd=>by simp[Op.equalIn,cW f]
  have i:=pM (neg:=neg) g (by cases neg<;>rfl);have g1:(eqGuard (cond neg .neq .eql) ty x (.const .nilFunc) .nilFunc .nilFunc).run P w=.ok () w:=by cases neg<;>simp[eqGuard]
  have g2:(eqGuard (cond neg .neq .eql) ty (.const .nilFunc) x .nilFunc .nilFunc).run P w=.ok () w:=by cases neg<;>simp[eqGuard]
  simp only[ev,Sem.run_bind,g1,g2,Result.andThen_ok,i,nO]
 cases j
def Ay{P:Program}{e:TypeId}{cs:Array Value}{off:Nat}{v:Value}(h:Gi P e cs off=some v)(w:World):(part e cs off).run P w=.ok v w:=by
 unfold Gi at h
 split at h
 .rename_i d f b c
  cases hd:SO d with
  |true=>
   rw[hd] at h
   cases h
   have a:(isAgg e).run P w=.ok true w:=by cases d<;>first|(cases hd;done)|simp[isAgg,cW b]
   simp[part,a,xM c]
  |false=>
   rw[hd] at h;have a:(isAgg e).run P w=.ok false w:=by cases d<;>first|(cases hd;done)|simp[isAgg,cW b]
   have h:cs[off]?=some v:=h;simp[part,a,h]
 cases h
abbrev Cl:=Option Bool×Unit
theorem Bm{g:Type}{P:Program}{w:World}(body:g->Cl->Sem (ForInStep Cl)):∀(l:List g) (os:List (Option Bool)) (b:Bool),Lp os=some b->os.length=l.length->(∀(i:Nat) (a:g) (c:Bool) (r:Cl),l[i]?=some a->os[i]?=some (some c)->(body a r).run P w=.ok (cond c (.yield (none,())) (.done (some false,()))) w)->(forIn l ((none,()):Cl) body).run P w=.ok (cond b (none,()) (some false,())) w
 |[],[],b,e,_,_=>by
  simp[Lp] at e;subst e
  simp
 |[],_::_,_,_,f,_=>by simp at f
 |_::_,[],_,_,f,_=>by simp at f
 |a::l,o::os,b,e,f,d=>by
  cases o with
  |none=>simp[Lp] at e
  |some c=>
   simp only[Lp] at e
   split at e
   .cases e
   rename_i r m
   cases e
   have j:=d 0 a c (none,()) rfl rfl;have k:=Bm body l os r m (by grind) (λi a c n h p=>d (i+1) a c n (by grind) (by grind));rw[lZ,Sem.run_bind,j]
   cases c with
   |true=>simpa[Result.andThen] using k
   |false=>simp[Result.andThen]
theorem DL{P:Program}{w:World}:∀(d:Nat) (t:TypeId) (x y:Value) (b:Bool) (l:Nat),V2 P d t x y=some b->d<=l->(Op.equalIn l t x y).run P w=.ok b w
 |0,_,_,_,_,_,h,_=>by cases h
 |d+1,t,x,y,b,0,_,hd=>by omega
 |d+1,t,x,y,b,l+1,h,hd=>by
  unfold V2 at h
  split at h
  .rename_i m
   split at h
   .cases h;simp[Op.equalIn,cW m]
   cases h
  .rename_i k m
   split at h
   .rename_i e a f c
    cases he:U3 e f with
    |false=>simp[he] at h
    |true=>
     have:=wR he;subst this;rw[he] at h
     cases h
     simp[Op.equalIn,cW m]
   cases h
  .rename_i m
   split at h
   .cases h;simp[Op.equalIn,cW m]
   cases h
  .rename_i n m
   split at h
   .rename_i q s
    cases hs:(P.stoodInHeld t||n.toList.any λf=>f.name== "_") with
    |true=>rw[hs] at h;cases h
    |false=>
     rw[hs] at h;simp only[cI] at hs;have h:=h;unfold Op.equalIn;simp only[Sem.run_bind,cW m,Result.andThen_ok];have E:(Sem.run P program w)=.ok P w:=rfl;rw[E,Result.andThen_ok,af (by grind),Sem.run_bind,<-Array.forIn_toList];have A:=Bm (P:=P) (w:=w) (λf (o:Cl)=>
        if f.name≠ "_" then do
         let a <-part f.type q f.offset;let g <-part f.type s f.offset;let a <-Op.equalIn l f.type a g
         if (!a)=true then pure (ForInStep.done (some false,()))
          else pure (ForInStep.yield (none,()))
        else pure (ForInStep.yield (none,()))) n.toList _ b h (by simp) (λi f c r u k=>?_)
     .rw[A]
      cases b<;>rfl
     have B:=ak u;have j:f.name≠ "_":=λe=>by
      grind
     rw[aL,u] at k;simp only[cU,mZ] at k;rw[ag j]
     split at k
     .rename_i C D v z;have p:=DL (w:=w) d f.type C D c l k (by omega);simp only[Sem.run_bind,Ay v,Ay z,p,Result.andThen_ok]
      cases c<;>rfl
     cases k
   cases h
  .rename_i n e m
   split at h
   .rename_i q s
    split at h
    .cases h
    rename_i f B;unfold Op.equalIn;simp only[Sem.run_bind,cW m,xM B,Result.andThen_ok];have A:=Bm (P:=P) (w:=w) (λ(i:Nat) (o:Cl)=>do
     let a <-part e q (i*f);let g <-part e s (i*f);let a <-Op.equalIn l e a g
     if (!a)=true then pure (ForInStep.done (some false,())) else pure (ForInStep.yield (none,()))) (List.range n) _ b h (by simp) (λi j c r u k=>?_)
    .have p:(forIn [:n] ((none,()):Cl) (λ(i:Nat) (o:Cl)=>(do
       let a <-part e q (i*f);let g <-part e s (i*f);let a <-Op.equalIn l e a g
       if (!a)=true then pure (ForInStep.done (some false,())) else pure (ForInStep.yield (none,())):Sem (ForInStep Cl))))=forIn (List.range n) ((none,()):Cl) (λ(i:Nat) (o:Cl)=>(do
       let a <-part e q (i*f);let g <-part e s (i*f);let a <-Op.equalIn l e a g
       if (!a)=true then pure (ForInStep.done (some false,())) else pure (ForInStep.yield (none,())):Sem (ForInStep Cl))):=by
      rw[fe,List.range_eq_range'];simp[Std.Legacy.Range.size]
     rw[p,A]
     cases b<;>rfl
    rw[aL,u] at k;simp only[cU,mZ] at k
    split at k
    .rename_i C D v z;have p:=DL (w:=w) d e C D c l k (by omega);simp only[Sem.run_bind,Ay v,Ay z,p,Result.andThen_ok]
     cases c<;>rfl
    cases k
   cases h
  cases h
def Dq{P:Program}{ty:TypeId}{neg:Bool}{x y:Operand}{a b:Value}{F:(Value->Prop)->Prop}(c:Vf P ty neg a b=some F){K:Value->Prop}(h:F K):
  ∃v,(∀w,(do eqGuard (cond neg .neq .eql) ty x y a b;binOp (cond neg .neq .eql) ty a b:Sem Value).run P w=.ok v w)/\K v:=by
 unfold Vf at c
 split at c
 .rename_i d e
  cases hg:P.eqGuardType P.depth ty with
  |true=>rw[hg] at c;cases c
  |false=>
   rw[hg] at c;simp only[cond_false] at c
   split at c
   .rename_i b i
    cases c
    refine⟨_,λw=>?_,h⟩;have f:(Op.equal ty (.agg d) (.agg e)).run P w=.ok b w:=DL 12 ty _ _ b Op.maxDepth i (by decide);have g:=pM (neg:=neg) f (by cases neg<;>rfl);have g1:(eqGuard (cond neg .neq .eql) ty x y (.agg d) (.agg e)).run P w=.ok () w:=by
     have j:(Sem.run P program w)=.ok P w:=rfl
     cases neg<;>simp[eqGuard,j,hg]
    simp only[Sem.run_bind,g1,Result.andThen_ok,g]
   cases c
 cases c
def Au{c:Type}{x y:Option c}{a:c}(h:orE x y=some a):x=some a\/y=some a:=by
 cases x with
 |none=>exact .inr h
 |some b=>exact .inl h
def YB{P:Program}{op:BinOp}{ty:TypeId}{x y:Operand}{a b:Value}{F:(Value->Prop)->Prop}(c:arK op a b=some F){K:Value->Prop}(h:F K):
  ∃v,(∀w,(do eqGuard op ty x y a b;binOp op ty a b:Sem Value).run P w=.ok v w)/\K v:=by
 unfold arK at c
 split at c
 .rename_i k a d b
  cases he:U3 k d with
  |false=>simp[he] at c
  |true=>
   have:=wR he;subst this;rw[he] at c
   cases c
   exact⟨_,λw=>by simp[eqGuard,binOp,Op.intDiv,h.1],h.2⟩
 .rename_i k a d b
  cases he:U3 k d with
  |false=>simp[he] at c
  |true=>
   have:=wR he;subst this;rw[he] at c
   cases c
   exact⟨_,λw=>by simp[eqGuard,binOp,Op.intDiv,h.1],h.2⟩
 .cases c
  exact⟨_,λw=>by simp[eqGuard,binOp,Op.shift,Int.not_lt.2 h.1],h.2⟩
 .cases c
  exact⟨_,λw=>by simp[eqGuard,binOp,Op.shift,Int.not_lt.2 h.1],h.2⟩
 .rename_i a b
  cases c
  refine⟨_,λw=>?_,h.2⟩;have d:=h.1;have e:IntKind.i64.max=9223372036854775807:=rfl;rw[e] at d;simp only[eqGuard,binOp,Op.stringOp]
  simp
  omega
 cases c
def K0{P:Program}{o:Oper}{t:Tm}{F:(Value->Prop)->Prop}(e:Xz P o t=some F){K:Value->Prop}(h:F K):
  ∃v,(∀w,(execOp (ev t) o).run P w=.ok (.value v) w)/\K v:=by
 unfold Xz at e
 split at e
 .rename_i x f;cases e;exact⟨_,λw=>by simp[execOp,f],h⟩
 .rename_i x f;cases e;exact⟨_,λw=>by simp[execOp,f],h⟩
 .rename_i c a b f
  split at e
  .rename_i x d
   cases e
   cases x with
   |true=>exact⟨_,λw=>by simp[execOp,f,d,asBool],h⟩
   |false=>exact⟨_,λw=>by simp[execOp,f,d,asBool],h⟩
  cases e
 .rename_i src dst x f
  split at e
  .rename_i d k i n c g b
   cases e
   refine⟨_,λw=>?_,h⟩;simp[execOp,f,b,convert,cW g,cW c,Conv.intToInt]
  cases e
 .rename_i x f
  split at e
  .rename_i p b
   cases e
   obtain⟨a,rfl,h⟩:=nU h;exact⟨_,λw=>by simp[execOp,f,b],h⟩
  cases e
 .rename_i ty x lo c mx f
  cases e
  obtain⟨v,a,b⟩:=Xu h;exact⟨v,λw=>by simp[execOp,f,a],b⟩
 .rename_i ty x i f
  cases e
  obtain⟨v,a,b⟩:=Wm h;exact⟨v,λw=>by simp[execOp,f,a],b⟩
 .rename_i ty x i f
  cases e
  obtain⟨v,a,b⟩:=SR h;exact⟨v,λw=>by simp[execOp,f,a],b⟩
 .rename_i op ty x y c f;have key:∀v w,(do eqGuard op ty x y (ev t x) (ev t y);binOp op ty (ev t x) (ev t y):Sem Value).run P w=.ok v w->(execOp (ev t) o).run P w=.ok (.value v) w:=λv w a=>by
   simp only[execOp,f,Sem.run_bind] at a⊢;rw[a];rfl
  split at e
  .rcases Au e with e|e
   .obtain⟨v,a,b⟩:=CZ e h;exact⟨v,λw=>key v w (a w).1,b⟩
   rcases Au e with e|e
   .obtain⟨v,a,b⟩:=CZ e h;exact⟨v,λw=>key v w (a w).2,b⟩
   obtain⟨v,a,b⟩:=Dq e h;exact⟨v,λw=>key v w (a w),b⟩
  .rcases Au e with e|e
   .obtain⟨v,a,b⟩:=CZ e h;exact⟨v,λw=>key v w (a w).1,b⟩
   rcases Au e with e|e
   .obtain⟨v,a,b⟩:=CZ e h;exact⟨v,λw=>key v w (a w).2,b⟩
   obtain⟨v,a,b⟩:=Dq e h;exact⟨v,λw=>key v w (a w),b⟩
  obtain⟨v,a,b⟩:=YB (P:=P) (ty:=ty) (x:=x) (y:=y) e h;exact⟨v,λw=>key v w (a w),b⟩
 cases e
end Go.Vc
namespace Go.Vc
def aU(w:World)(a:Addr):Nat->List Value->Prop
 |_,[]=>True
 |i,v::b=>w.cell? (a.add i)=some v/\aU w a (i+1) b
def ldK(P:Program)(ty:TypeId)(x:Value)(w:World)(K:Value->List (World->Prop)->Prop):Prop:=
 match x with
 |.pointer p=>fN p λa=>match AV P ty with
  |.s k=>cond (P.underlying ty).isSome (X1 k λv=>w.cell? a=some v/\K v [λc=>c.cell? a=some v]) False
  |.agg d=>cond (match CJ P ty with|some n=>Nat.beq n (L0 d)|none=>false)
    (Y3 d λb=>aU w a 0 b/\K (.agg b.toArray) [λc=>aU c a 0 b]) False
 |_=>False
theorem FP{P:Program}{w:World}{a:Addr}:∀(c:List Value) (i:Nat) (b:Array Value),aU w a i c ->
  (loadCellsFrom a i c.length b).run P w=.ok (b++c.toArray) w
 |[],i,b,_=>by simp[loadCellsFrom]
 |v::c,i,b,h=>by
  obtain⟨d,e⟩:=h;have:=FP (P:=P) c (i+1) (b.push v) e;simp only[bN,loadCellsFrom,Sem.run_bind,run_load,d,Result.andThen_ok,this]
  simp
def HD{P:Program}{ty:TypeId}{x:Value}{w:World}{K:Value->List (World->Prop)->Prop}(h:ldK P ty x w K):
  ∃v T,holds T w/\(∀b,holds T b->(Instr.loadAt ty x).run P b = .ok v b)/\K v T:=by
 unfold ldK at h
 split at h
 .obtain⟨a,rfl,h⟩:=nU h
  split at h
  .rename_i k j;obtain⟨l,h⟩:=tX h;obtain⟨v,e,g⟩:=Hr h;refine⟨v,_,?_,?_,g⟩
   .intro f d;simp at d;subst d;exact e
   intro b c;have i:=c (λb=>b.cell? a=some v) (dw ..);simp[Instr.loadAt,Instr.sureAddr,loadVar,Ge j l,i]
  rename_i o j;obtain⟨k,h⟩:=tX h;obtain⟨l,m,e,g⟩:=Hq h;refine⟨_,_,?_,?_,g⟩
  .intro f d;simp at d;subst d;exact e
  intro b c;have i:=c (λb=>aU b a 0 l) (dw ..);have d:CJ P ty=some l.length:=by
   cases hz:CJ P ty with
   |none=>simp[hz] at k
   |some n=>simp only[hz] at k;rw[gy k,m]
  simp only[Instr.loadAt,Instr.sureAddr,loadVar,Sem.run_bind,Sem.run_pure,Result.andThen_ok,Na j,kD,xM d,loadCells,FP l 0 _ i]
  simp
 exact h.elim
def kg(P:Program){c:Type}(s:Sem c)(w:World)(K:c->World->Prop):Prop:=∃a b,s.run P w=.ok a b/\K a b
def o4(P:Program)(a:FuncId):Bool:=match P.funcs[a]? with
 |none=>false
 |some fn=>match fn.body with
  |none=>false
  |some _=>!(fn.name== "runtime.NumGoroutine")
def zf{P:Program}{a:FuncId}(h:o4 P a=true)(args:Array Value)(w:World):(callFunc a args).run P w=.ok (.enter a args) w:=by
 unfold o4 at h
 cases hf:P.funcs[a]? with
 |none=>rw[hf] at h;cases h
 |some fn=>
  rw[hf] at h
  cases hb:fn.body with
  |none=>simp[hb] at h
  |some c=>
   simp only[hb] at h;exact Go.Proofs.enters_of hf (by grind) hb args w
def rZ(P:Program)(v:Value)(args:Array Value)(w:World)(R:Ending->World->Prop):Prop:=
 match v with
 |.func (.yield l) x y=>cond (x.isEmpty&&y.isEmpty) (vu P l args w λb a=>R (.returned (.bool b)) a) False
 |.func (.func g) x y=>cond (o4 P g) (Calls P g (x++args++y) w R) False
 |_=>False
def lkK(P:Program)(ty:TypeId)(b:Bool)(F:Value->Prop):Prop:=match P.underlying ty with
 |some (.map _ e)=>X2 (AV P e) λu=>cond b (∃x:Bool,F (.tuple #[u,.bool x])) (F u)
 |_=>False
def Zo{P:Program}{ty:TypeId}{b:Bool}{F:Value->Prop}(h:lkK P ty b F):∃v,F v:=by
 unfold lkK at h
 split at h
 .obtain⟨u,h⟩:=zh h
  cases b with
  |true=>obtain⟨x,h⟩:=h;exact⟨_,h⟩
  |false=>exact⟨_,h⟩
 exact h.elim
def nxK(s:Bool)(v:Value)(F:Value->Prop):Prop:=
 (v=.tuple #[.bool false]/\F (.tuple #[.bool false])) \/
  cond s (∃(n:Int) (c:Int),v=.tuple #[.bool true,.int .i64 n,.int .i32 c]/\F (.tuple #[.bool true,.int .i64 n,.int .i32 c])) (∃k x:Value,v=.tuple #[.bool true,k,x]/\F (.tuple #[.bool true,k,x]))
def Tn{s:Bool}{v:Value}{F:Value->Prop}(h:nxK s v F):F v:=by
 rcases h with⟨rfl,h⟩|h
 .exact h
 grind
def X4(P:Program)(o:Oper):Bool:=match o.op with
 |.call {callee:=.value (.func g),..}=>match P.funcs[g]? with
  |some f=>f.body.isNone&&f.name== "internal/bytealg.IndexString"
  |none=>false
 |_=>false
def abO(P:Program)(a:Array TypeId):Bool:=match (a[0]?).bind P.underlying with
 |some (.map _ _)=>true
 |_=>false
def QT(P:Program)(o:Oper)(t:Tm)(w:World)(K:KP):Prop:=
 match Xz P o t with
 |some F=>F λv=>K v w
 |none=>
  match o.op with
  |.load g x=>ldK P g (ev t x) w λv _=>K v w
  |.convert src dst x=>kg P (convert src dst (ev t x)) w λv a=>X2 (AV P o.type) λu=>v=u/\K u a
  |.makeSlice g l c=>kg P (Instr.makeSlice g (ev t l) (ev t c)) w λv a=>X2 (AV P o.type) λu=>v=u/\K u a
  |.call {callee:=.builtin .append,args:=args,argTypes:=d}=>kg P (Builtin.append_ d o.type (args.map (ev t))) w λv a=>X2 (AV P o.type) λu=>v=u/\K u a
  |.call {callee:=.builtin .copy,args:=args,argTypes:=d}=>kg P (Builtin.copy_ d o.type (args.map (ev t))) w K
  |.call {callee:=.builtin .clear,args:=args,argTypes:=d}=>kg P (Builtin.clear_ d o.type (args.map (ev t))) w K
  |.call {callee:=.builtin .len,args:=args,argTypes:=d}=>cond (abO P d) (kg P (Builtin.len_ d o.type (args.map (ev t))) w λv a=>X2 (AV P o.type) λu=>v=u/\K u a) (Lg P (execOp (ev t) o) w (Gc P o.type K))
  |.lookup g x i b=>kg P (Instr.lookup g (ev t x) (ev t i) b) w λv a=>lkK P g b λu=>v=u/\K u a
  |.mapUpdate g m k x=>kg P (Instr.mapUpdate g (ev t m) (ev t k) (ev t x)) w λ_ a=>K undef a
  |.insert g m k x=>kg P (Instr.mapUpdate g (ev t m) (ev t k) (ev t x)) w λ_ a=>K undef a
  |.makeMap g r=>kg P (Instr.makeMap g (r.map (ev t))) w λv a=>∃m:Option Nat,v=.map m/\K (.map m) a
  |.range g x=>kg P (Instr.range g (ev t x)) w λv a=>∃r:Nat,v=.pointer (some ⟨r,0,none⟩)/\K (.pointer (some ⟨r,0,none⟩)) a
  |.next it s=>kg P (Instr.next (ev t it) s o.type) w λv a=>nxK s v λu=>K u a
  |.call {callee:=.value (.tmp f),args:=args,argTypes:=_}=>rZ P (gt t f) (args.map (ev t)) w λe a=>exK (abJ P o.type) λv=>e=.returned v/\K v a
  |_=>cond (X4 P o) False (Lg P (execOp (ev t) o) w (Gc P o.type K))
def K8{P:Program}{o:Oper}{t:Tm}{w:World}{K:KP}(h:QT P o t w K):∃n j,(execOp (ev t) o).run P w=.ok n j/\Gc P o.type K n j:=by
 unfold QT at h
 split at h
 .rename_i F a;obtain⟨v,d,g⟩:=K0 a h;exact⟨_,w,d w,g⟩
 split at h
 .rename_i e x a;obtain⟨v,T,b,c,f⟩:=HD h;exact⟨.value v,w,by simp[execOp,a,c w b],f⟩
 .rename_i src dst x a;obtain⟨v,j,d,h⟩:=h;obtain⟨u,rfl,g⟩:=zh h;exact⟨.value v,j,by simp[execOp,a,d],g⟩
 .rename_i e l c a;obtain⟨v,j,d,h⟩:=h;obtain⟨u,rfl,g⟩:=zh h;exact⟨.value v,j,by simp[execOp,a,d],g⟩
 .rename_i args c a;obtain⟨v,j,d,h⟩:=h;obtain⟨u,rfl,g⟩:=zh h;exact⟨.value v,j,by simp[execOp,a,resolve,invoke,builtin,d],g⟩
 .rename_i args c a;obtain⟨v,j,d,h⟩:=h;exact⟨.value v,j,by simp[execOp,a,resolve,invoke,builtin,d],h⟩
 .rename_i args c a;obtain⟨v,j,d,h⟩:=h;exact⟨.value v,j,by simp[execOp,a,resolve,invoke,builtin,d],h⟩
 .rename_i args c a
  cases hb:abO P c with
  |true=>
   rw[hb] at h;obtain⟨v,j,d,h⟩:=h;obtain⟨u,rfl,g⟩:=zh h;exact⟨.value v,j,by simp[execOp,a,resolve,invoke,builtin,d],g⟩
  |false=>rw[hb] at h;exact N5 _ _ _ h
 .rename_i e x i b a;obtain⟨v,j,d,h⟩:=h;obtain⟨u,rfl,g⟩:=Zo h;exact⟨.value v,j,by simp[execOp,a,d],g⟩
 .rename_i e m k x a;obtain⟨v,j,d,h⟩:=h;exact⟨.skip,j,by simp[execOp,a,d],h⟩
 .rename_i e m k x a;obtain⟨v,j,d,h⟩:=h;exact⟨.skip,j,by simp[execOp,a,d],h⟩
 .rename_i e r a;obtain⟨v,j,d,m,rfl,h⟩:=h;exact⟨.value _,j,by simp[execOp,a,d],h⟩
 .rename_i e x a;obtain⟨v,j,d,m,rfl,h⟩:=h;exact⟨.value _,j,by simp[execOp,a,d],h⟩
 .rename_i it s a;obtain⟨v,j,d,h⟩:=h;exact⟨.value v,j,by simp[execOp,a,d],Tn h⟩
 .rename_i f args c a;have m:ev t (.tmp f)=gt t f:=rfl;unfold rZ at h
  split at h
  .rename_i l x y u;obtain⟨k,h⟩:=tX h;obtain⟨s,z⟩:x = #[]/\y = #[]:=by simpa[oF] using k
   subst s z;obtain⟨fn,q,r,i,p,A⟩:=h;refine⟨.round l fn q r i,w,?_,RoundIn.mono A λe j k=>?_⟩
   .simp[execOp,a,resolve,m,u,invoke,callFunc];simp[Deferred.ofValue,p]
   obtain⟨b,rfl,g⟩:=k;obtain⟨v,B,g⟩:=Sm g;exact⟨v,B,g⟩
  .rename_i g x y u;obtain⟨k,h⟩:=tX h;refine⟨.enter g (x++args.map (ev t)++y),w,?_,h⟩;have d:=zf k (x++args.map (ev t)++y) w;simp[execOp,a,resolve,m,u,invoke];simp[Deferred.ofValue];simpa using d
  exact h.elim
 cases hb:X4 P o with
 |true=>rw[hb] at h;exact h.elim
 |false=>rw[hb] at h;exact N5 _ _ _ h
def V5(P:Program)(d:Option Nat)(i:Nat):List Oper->TK
 |[]=>.s .raw
 |o::l=>match o.op,d with
  |.extract (.tmp x) j,some y=>cond (Nat.beq x y&&Nat.beq i j) (AV P o.type) (V5 P d i l)
  |_,_=>V5 P d i l
def K5(P:Program)(a:List Oper)(o:Oper)(t:Tm)(w:World)(K:KP):Prop:=match o.op with
 |.entry it=>kg P (Instr.entry (ev t it)) w λv c=>V7 [V5 P o.dst 0 a,V5 P o.dst 1 a] λb=>v=.tuple b.toArray/\K (.tuple b.toArray) c
 |_=>QT P o t w K
def QU{P:Program}{a:List Oper}{o:Oper}{t:Tm}{w:World}{K:KP}(h:K5 P a o t w K):∃n b,(execOp (ev t) o).run P w=.ok n b/\Gc P o.type K n b:=by
 unfold K5 at h
 split at h
 .rename_i it e;obtain⟨v,b,d,h⟩:=h;obtain⟨f,rfl,c⟩:=Hs h;exact⟨.value _,b,by simp[execOp,e,d],c⟩
 exact K8 h
def K6{P:Program}{a:List Oper}{ro:Option Nat}{o:Oper}{t:Tm}{d:List Deferred}{w:World}{K:KP}{N:Act->World->Prop}{Q:Exit->Act->World->Prop}(hd:ri o.op=true)(c:∀v b,K v b->N (vp (pt t o.dst v) d) b)(h:K5 P a o t w K):o.wpIn (FW ro) 0 P (vp t d) w N Q:=by
 obtain⟨n,b,f,e⟩:=QU h;refine⟨λ_ _=>trivial,?_⟩;rw[Oper.semAt_eq _ _ _ (tn hd),uX,f];exact xR (λv b g=>by rw[ud];exact c _ _ g) e
def XO{P:Program}{ro:Option Nat}{o:Oper}{t:Tm}{d:List Deferred}{w:World}{K:KP}{N:Act->World->Prop}{Q:Exit->Act->World->Prop}(hd:ri o.op=true)(b:∀v a,K v a->N (vp (pt t o.dst v) d) a)(h:QT P o t w K):o.wpIn (FW ro) 0 P (vp t d) w N Q:=by
 obtain⟨n,a,e,c⟩:=K8 h;refine⟨λ_ _=>trivial,?_⟩;rw[Oper.semAt_eq _ _ _ (tn hd),uX,e];exact xR (λv a f=>by rw[ud];exact b _ _ f) c
def Z2(P:Program)(o:Oper)(t:Tm)(w:World)(K:Value->List (World->Prop)->Prop):Prop:=
 match Xz P o t with
 |some F=>F λv=>K v []
 |none=>
  match o.op with
  |.load a x=>ldK P a (ev t x) w K
  |_=>W8 P (execOp (ev t) o) w [] λn T=>match n with
   |.value v=>K v T
   |_=>False
def T7{P:Program}{o:Oper}{t:Tm}{w:World}{K:Value->List (World->Prop)->Prop}(h:Z2 P o t w K):
  ∃v T,K v T/\holds T w/\∀a,holds T a->(execOp (ev t) o).run P a = .ok (.value v) a:=by
 unfold Z2 at h
 split at h
 .rename_i F b;obtain⟨v,e,c⟩:=K0 b h;exact⟨v,[],c,λf d=>(by cases d),λa _=>e a⟩
 split at h
 .rename_i l x k;obtain⟨v,T,g,i,j⟩:=HD h;exact⟨v,T,j,g,λa b=>by simp[execOp,k,i a b]⟩
 obtain⟨n,T,c,g,e⟩:=W9 _ _ _ _ h
 cases n<;>simp only at c
 exact⟨_,T,c,g (λf d=>by cases d),λa b=>(e a b).2⟩
def gd(a:Array Oper)(t:Tm)(o:Oper)(A B:Tm->Prop):Prop:=
 match o.guard with
 |none=>A t
 |some (j,c)=>match (a[j]?).bind (·.dst) with
  |none=>B t
  |some d=>match gt t d with
   |.bool b=>cond c (cond b (A (st t d (.bool true))) (B (st t d (.bool false)))) (cond b (B (st t d (.bool true))) (A (st t d (.bool false))))
   |_=>B t
def acm(t:Tm):∀d v,gt t d=v->v≠undef->st t d v=t:=by
 induction t with
 |nil=>intro d v _ _;rfl
 |cons x t b=>
  intro d v h a
  cases d with
  |zero=>simp only[gt] at h;subst h;rfl
  |succ d=>simp only[gt] at h;simp only[st,b d v h a]
def Ld(a:Array Oper)(t:Tm)(dd:List Deferred)(j:Nat):yielded a (vp t dd).tmps j =
  match (a[j]?).bind (·.dst) with
  |none=>none
  |some d=>match gt t d with
   |.bool b=>some b
   |_=>none:=by
 unfold yielded
 cases (a[j]?).bind (·.dst) with
 |none=>rfl
 |some d=>
  have b:(vp t dd).tmps[d]?=t[d]?:=by simp[vp]
  have c:gt t d=(t[d]?).getD undef:=by rw[NG];simp[Array.getD];split<;>simp_all
  simp only[Option.bind_some,b,c]
  cases t[d]? with
  |none=>rfl
  |some v=>cases v<;>rfl
def CU{dd:List Deferred}{a:Array Oper}{t:Tm}{o:Oper}{A B:Tm->Prop}(h:gd a t o A B):(Region.wanted o (yielded a (vp t dd).tmps)=true/\A t)\/(Region.wanted o (yielded a (vp t dd).tmps)=false/\B t):=by
 unfold gd at h
 cases hg:o.guard with
 |none=>grind[Region.wanted]
 |some e=>
  obtain⟨j,c⟩:=e;simp only[hg] at h;have i:=Ld a t dd j;have g:Region.wanted o (yielded a (vp t dd).tmps)=(yielded a (vp t dd).tmps j==some c):=by simp[Region.wanted,hg]
  rw[g,i]
  cases hd:(a[j]?).bind (·.dst) with
  |none=>rw[hd] at h;exact .inr ⟨rfl,h⟩
  |some d=>
   simp only[hd] at h⊢
   cases hx:gt t d with
   |bool b=>
    have f:=acm t d (.bool b) hx (by simp[undef]);rw[hx] at h
    cases c<;>cases b<;>simp only[cond,f] at h
    .exact .inl ⟨rfl,h⟩
    .exact .inr ⟨rfl,h⟩
    .exact .inr ⟨rfl,h⟩
    exact .inl ⟨rfl,h⟩
   |_=>rw[hx] at h;exact .inr ⟨rfl,h⟩
def OQ(P:Program)(b:Array Oper):List Oper->Tm->World->(Tm->World->Prop)->Prop
 |[],t,w,K=>K t w
 |o::a,t,w,K=>gd b t o (λt=>K5 P a o t w λv c=>OQ P b a (pt t o.dst v) c K) (λt=>OQ P b a (pt t o.dst undef) w K)
def GN(ds:List Nat)(t a:Tm):Prop:=a.length=t.length/\∀i,i∉ds->gt a i=gt t i
def mI(ds:List Nat)(t:Tm):GN ds t t:=⟨rfl,λ_ _=>rfl⟩
def xV{ds b:List Nat}{t e a:Tm}(h:GN ds t e)(c:GN b e a):GN (ds++b) t a:=
 ⟨c.1.trans h.1,λi d=>(c.2 i λh=>d (cC _ h)).trans (h.2 i λh=>d (cr _ h))⟩
def sZ{ds a:List Nat}{t b:Tm}(e:∀d∈ds,d∈a)(h:GN ds t b):GN a t b:=⟨h.1,λi c=>h.2 i λh=>c (e i h)⟩
def vv{ds:List Nat}{t0 t:Tm}{dst:Option Nat}{v:Value}(h:GN ds t0 t)(hd:∀d,dst=some d->d∈ds):GN ds t0 (pt t dst v):=by
 cases dst with
 |none=>exact h
 |some d=>exact⟨(PA t d v).trans h.1,λi a=>(SH t d i v λe=>(by grind)).trans (h.2 i a)⟩
def xh(a:List Oper):Bool:=a.all λo=>ri o.op
theorem E5{P:Program}{ro:Option Nat}{e:Array Oper}{d:List Deferred}{Q:Exit->Act->World->Prop}{ds:List Nat}{t0:Tm}:∀(l:List Oper) (t:Tm) (w:World) (K:Tm->World->Prop),xh l=true->(∀t w,GN ds t0 t->K t w->Q .normal (vp t d) w)->(∀o∈l,∀d,o.dst=some d->d∈ds)->GN ds t0 t->OQ P e l t w K->wpListIn (FW ro) 0 P e Q l (vp t d) w
 |[],t,w,K,_,f,_,g,h=>f _ _ g h
 |o::a,t,w,K,i,f,hd,g,h=>by
  have b:=hd o (dw ..);have c:=λn j=>hd n (cR _ j);simp only[xh,fz,aF] at i;unfold wpListIn;rcases CU h with⟨k,h⟩|⟨k,h⟩
  .rw[ag k];exact K6 i.1 (λv p m=>E5 a _ _ K i.2 f c (vv g b) m) h
  rw[af (by grind),ud];exact⟨λ_ _=>trivial,E5 a _ _ K i.2 f c (vv g b) h⟩
def E4(P:Program)(b:Array Oper):List Oper->Tm->List Deferred->World->(Tm->List Deferred->World->Prop)->Prop
 |[],t,d,w,K=>K t d w
 |o::a,t,d,w,K=>gd b t o (λt=>match o.op with
  |.defer {callee:=.value (.tmp f),args:=args,argTypes:=_}=>match gt t f with
   |.func (.func g) x y=>E4 P b a (pt t o.dst undef) ({target:=.fn (.func g) y,args:=x++args.map (ev t)}::d) w K
   |_=>False
  |.defer _=>False
  |_=>K5 P a o t w λv c=>E4 P b a (pt t o.dst v) d c K) (λt=>E4 P b a (pt t o.dst undef) d w K)
theorem yy{P:Program}{j:Array Oper}{Q:Exit->Act->World->Prop}{ds:List Nat}{t0:Tm}:∀(l:List Oper) (t:Tm) (d:List Deferred) (w:World) (K:Tm->List Deferred->World->Prop),(∀t d w,GN ds t0 t->K t d w->Q .normal (vp t d) w)->(∀o∈l,∀d,o.dst=some d->d∈ds)->GN ds t0 t->E4 P j l t d w K->wpListIn (FW none) 0 P j Q l (vp t d) w
 |[],t,d,w,K,e,_,i,h=>e _ _ _ i h
 |o::a,t,d,w,K,e,hd,i,h=>by
  have b:=hd o (dw ..);have c:=λs m=>hd s (cR _ m);unfold wpListIn;rcases CU (dd:=d) h with⟨n,h⟩|⟨n,h⟩
  .rw[ag n]
   split at h
   .rename_i f args u q
    split at h
    .rename_i g x y r;refine⟨λ_ _=>trivial,?_⟩;have p:(execOp (ev t) o).run P w=.ok (.defer {target:=.fn (.func g) y,args:=x++args.map (ev t)}) w:=by
      have k:ev t (.tmp f)=gt t f:=rfl;simp[execOp,q,resolve,k,r,Deferred.ofValue]
     show o.uponIn (FW none) 0 P _ _ _ ((execOp _ o).run P w);rw[uX,p];simp only[Oper.uponIn];have:({(vp t d) with defers:={target:=.fn (.func g) y,args:=x++args.map (ev t)}::(vp t d).defers}:Act)=vp t ({target:=.fn (.func g) y,args:=x++args.map (ev t)}::d):=rfl;rw[this,ud];exact yy a _ _ _ K e c (vv i b) h
    exact h.elim
   .exact h.elim
   rename_i k p;have f:ri o.op=true:=by
    cases ho:o.op<;>first|rfl|grind
   exact K6 f (λv q g=>yy a _ _ _ K e c (vv i b) g) h
  rw[af (by grind),ud];exact⟨λ_ _=>trivial,yy a _ _ _ K e c (vv i b) h⟩
end Go.Vc
namespace Go.Vc
abbrev Dk:=List (Nat×List (World->Prop))
def dep(a:Array Oper):Nat->Nat->Nat->Bool
 |0,_,_=>false
 |n+1,j,i=>match a[j]? with
  |none=>false
  |some o=>o.after.toList.any λe=>Region.binds .any e&&(Nat.beq e.on i||dep a n e.on i)
def closed(a:Array Oper)(listed:Array Bool):Prop:=
 ∀j o,a[j]?=some o->listed.getD j false=true->∀e∈o.after,Region.binds .any e=true->listed.getD e.on false=true
theorem DG{a:Array Oper}{listed:Array Bool}(hc:closed a listed){i:Nat}(hi:listed.getD i false=false):
  ∀n j o,a[j]?=some o->(∀e∈o.after,Region.binds .any e=true->listed.getD e.on false=true)->dep a n j i=false
 |0,_,_,_,_=>rfl
 |n+1,j,o,g,f=>by
  simp only[dep,g,eG];intro e d;simp only[aF,not_and,Bool.or_eq_true,not_or];intro c;have b:=f e (by simpa using d) c;refine⟨λh=>?_,?_⟩
  .grind[Nat.eq_of_beq_eq_true]
  cases ho':a[e.on]? with
  |none=>cases n<;>simp[dep,ho']
  |some k=>rw[DG hc hi n e.on k ho' (hc _ _ ho' b)];simp
def drop(a:Array Oper)(j:Nat)(b:Dk):Dk:=b.filter λp=>!dep a a.size j p.1
def vW(ro:Option Nat)(P:Program)(b:Array Oper)(Q:Exit->Act->World->Prop):Nat->Array Bool->Dk->Act->World->Prop
 |0,listed,_,a,w=>Region.ready .any b listed=[]/\Q .normal a w
 |n+1,listed,c,a,w=>(Region.ready .any b listed=[]->Q .normal a w) /\
  ∀i∈Region.ready .any b listed,wpOpIn (FW ro) 0 P b Q i (λe d=>(∀p∈drop b i c,holds p.2 d)/\vW ro P b Q n (listed.setIfInBounds i true) (drop b i c) e d) a w
theorem E7{ro:Option Nat}{P:Program}{b:Array Oper}{Q:Exit->Act->World->Prop}:∀(n:Nat) (listed:Array Bool) (c:Dk) (a:Act) (w:World),vW ro P b Q n listed c a w->wpAnyIn (FW ro) 0 P .any b Q n listed a w
 |0,_,_,_,_,h=>h
 |n+1,_,_,_,_,h=>⟨h.1,λi d=>wpOpIn_mono (λ_ _ h=>E7 n _ _ _ _ h.2) (h.2 i d)⟩
theorem zI{ro:Option Nat}{P:Program}{d:Array Oper}{Q:Exit->Act->World->Prop}:∀(n:Nat) (listed:Array Bool) (c b:Dk) (a:Act) (w:World),(∀p∈b,p∈c\/p.2=[])->vW ro P d Q n listed c a w->vW ro P d Q n listed b a w
 |0,_,_,_,_,_,_,h=>h
 |n+1,_,c,b,_,_,m,h=>by
  refine⟨h.1,λi l=>wpOpIn_mono (λ_ _ h=>?_) (h.2 i l)⟩;have g:∀p∈drop d i b,p∈drop d i c\/p.2=[]:=λp e=>by
   simp only[drop,cS] at e⊢;exact(m p e.1).imp (λh=>⟨h,e.2⟩) id
  refine⟨λp e=>?_,zI n _ _ _ _ _ g h.2⟩;rcases g p e with j|j
  .exact h.1 p j
  rw[j];exact λf k=>by cases k
def E6{ro:Option Nat}{P:Program}{d:Array Oper}{Q:Exit->Act->World->Prop}(n:Nat)(listed:Array Bool)(c b:Dk)(a:Act)(w:World)(f:∀p∈b,p∈c)(h:vW ro P d Q n listed c a w):vW ro P d Q n listed b a w:=
 zI n listed c b a w (λp e=>.inl (f p e)) h
def Ci{ro:Option Nat}{P:Program}{b:Array Oper}{Q:Exit->Act->World->Prop}{S:World->Prop}{i:Nat}{o:Oper}{v:Value}{a:Act}(c:ri o.op=true)(hi:b[i]?=some o)(g:YieldsIf P b S o v a){K:Act->World->Prop}{w:World}(e:S w)(h:K (a.put o.dst v) w):wpOpIn (FW ro) 0 P b Q i K a w:=by
 unfold wpOpIn;simp only[hi];rcases g with⟨d,f⟩|⟨d,rfl⟩
 .rw[ag d];refine⟨λ_ _=>trivial,?_⟩;rw[Oper.semAt_eq _ _ _ (tn c),f w e];exact h
 rw[af (by grind)];exact⟨λ_ _=>trivial,h⟩
def IJ{ro:Option Nat}{P:Program}{i:Array Oper}{Q:Exit->Act->World->Prop}{S:World->Prop}{j:Nat}{k m:Oper}{v:Value}(q:ri m.op=true)(F:i[j]?=some m)(t:k.apart i m=true)(y:∀cs b,k.op≠.select cs b)(z:∀cs b,m.op≠.select cs b)(hQ:∀c a w,Q (.panic c) (a.put k.dst v) w->Q (.panic c) a w){K:Act->World->Prop}{a:Act}{w:World}(o:YieldsIf P i S k v a)(h:wpOpIn (FW ro) 0 P i Q j K (a.put k.dst v) w):
  wpOpIn (FW ro) 0 P i Q j (λd C=>YieldsIf P i S k v d/\K (d.put k.dst v) C) a w:=by
 obtain⟨D,p,E⟩:=Oper.apart_spec t;have g:∀(a:Act),YieldsIf P i S k v a->∀u,YieldsIf P i S k v (a.put m.dst u):=λa o u=>
  o.of_same (execOp_put k y a m.dst u E) (wanted_put k a m.dst u E)
 have B:∀d,YieldsIf P i S k v {a with defers:=d::a.defers}:=λd=>o.of_same rfl rfl;unfold wpOpIn at *;simp only[F] at *;rw[wanted_put m a k.dst v D] at h
 split
 .rename_i A;simp only[A,kD] at h;unfold Oper.wpIn at *;refine⟨λ_ _=>trivial,?_⟩;have h:=h.2;rw[Oper.semAt_eq _ _ _ (tn q),execOp_put m z a k.dst v D] at h;rw[Oper.semAt_eq _ _ _ (tn q)];generalize(execOp a.eval m).run P w=r at *
  cases r with
  |ok x C=>
   cases x<;>simp only[Oper.uponIn] at h⊢
   case value u=>exact⟨g a o u,by rw[<-Act.put_comm a v u p];exact h⟩
   case skip=>exact⟨g a o _,by rw[<-Act.put_comm a v undef p];exact h⟩
   case defer d=>
    refine⟨(by grind),?_⟩;rw[<-Act.put_comm _ v undef p,<-Act.put_defers];exact h
   case enter f args=>
    refine⟨h.1,CallsIn.mono h.2 λe s n=>?_⟩
    cases e with
    |returned u=>exact⟨g a o u,by rw[<-Act.put_comm a v u p];exact n⟩
    |panicked c=>exact hQ _ _ _ n
    |outgrown=>exact n
   case row row args=>exact⟨h.1,RowsIn.mono h.2 λu s n=>⟨g a o u,by rw[<-Act.put_comm a v u p];exact n⟩⟩
   case round l f tmps assign body=>
    refine⟨h.1,RoundIn.mono h.2 λe s n=>?_⟩
    cases e with
    |returned u=>exact⟨g a o u,by rw[<-Act.put_comm a v u p];exact n⟩
    |panicked c=>exact hQ _ _ _ n
    |outgrown=>exact n
  |halt x C=>
   cases x<;>simp only[Oper.uponIn] at h⊢
   case panic u=>exact hQ _ _ _ h
 rename_i A;simp only[A] at h;exact⟨λ_ _=>trivial,g a o _,by rw[<-Act.put_comm a v undef p];exact h.2⟩
def A2{ro:Option Nat}{P:Program}{d:Array Oper}{Q:Exit->Act->World->Prop}{i:Nat}{z:Oper}{v:Value}{T:List (World->Prop)}(x:∀(j:Nat) (o:Oper),d[j]?=some o->ri o.op=true)(hi:d[i]?=some z)(t:∀(j:Nat) (o:Oper) cs b,d[j]?=some o->o.op≠.select cs b)(hQ:∀c a w,¬ Q (.panic c) a w):
  ∀(l:Nat) (listed:Array Bool) (f:Dk) (a:Act) (w:World),closed d listed ->
   (∀j A,d[j]?=some A->j≠i->listed.getD j true=false->(∀e∈A.after,Region.binds .any e=true->e.on≠i)->z.apart d A=true) ->
   i∈Region.ready .any d listed->YieldsIf P d (holds T) z v a->holds T w->(∀p∈f,holds p.2 w) ->
   vW ro P d Q l (listed.setIfInBounds i true) ((i,T)::f) (a.put z.dst v) w->vW ro P d Q (l+1) listed f a w:=by
 intro l
 induction l with
 |zero=>
  intro listed f a w _ _ y G I n H;refine⟨λh=>(by rw[h] at y;cases y),λj F=>?_⟩
  by_cases m:j=i
  .subst m;exact Ci (x _ _ hi) hi G I ⟨λp g=>n p ((cS.1 g).1),E6 0 _ _ _ _ _ (λp n=>cR _ ((cS.1 n).1)) H⟩
  have:=ready_mono F m;rw[H.1] at this
  cases this
 |succ l ih=>
  intro listed f a w R u y G I n H;refine⟨λh=>(by rw[h] at y;cases y),λj F=>?_⟩
  by_cases m:j=i
  .subst m;exact Ci (x _ _ hi) hi G I ⟨λp g=>n p ((cS.1 g).1),E6 _ _ _ _ _ _ (λp n=>cR _ ((cS.1 n).1)) H⟩
  have Y:=H.2 j (ready_mono F m);obtain⟨U,A,s,B⟩:=mem_ready.1 F;have D:listed.getD i false=false:=by
   grind[mem_ready]
  have W:∀e∈A.after,Region.binds .any e=true->e.on≠i:=λe S O heq=>by
   grind
  have C:dep d d.size j i=false:=DG R D _ _ _ s B;have Z:=IJ (x _ _ s) s (by grind) (λcs b=>t i z cs b hi) (λcs b=>t j A cs b s) (λc a w h=>(hQ _ _ _ h).elim) G Y;have hd:drop d j ((i,T)::f)=(i,T)::drop d j f:=by simp[drop,C]
  refine wpOpIn_mono (λX w' h3=>?_) Z;obtain⟨N,g,q⟩:=h3;rw[hd] at g q;refine⟨λp n=>g p (cR _ n),?_⟩;have r:∀k ok,d[k]?=some ok->k≠i->(listed.setIfInBounds j true).getD k true=false->(∀e∈ok.after,Region.binds .any e=true->e.on≠i)->z.apart d ok=true:=λk ok K L hun M=>by
   refine u k ok K L ?_ M
   by_cases E:j=k
   .grind
   simp_all
  have J:closed d (listed.setIfInBounds j true):=λk ok K V e S O=>by
   by_cases E:j=k
   .grind[getD_set_true]
   rw[getD_set_ne false E] at V;exact getD_set_true (R k ok K V e S O)
  refine ih (listed.setIfInBounds j true) (drop d j f) X w' J r (ready_mono y (Ne.symm m)) N (g (i,T) (dw ..)) (λp n=>g p (cR _ n)) ?_;rw[Array.setIfInBounds_comm _ _ m];exact q
def abI:Op->Bool
 |.move _|.assign _|.pick _ _ _|.load _ _|.nilCheck _|.binOp _ _ _ _ _|.unOp _ _ _|.makeInterface _ _|.makeFunc _ _ _
 |.slice _ _ _ _ _|.fieldAddr _ _ _|.field _ _ _|.indexAddr _ _ _|.index _ _ _|.extract _ _|.typeAssert _ _ _ _|.build _ _=>true
 |.call {callee:=.builtin .len,..}|.call {callee:=.builtin .min,..}|.call {callee:=.builtin .max,..}|.call {callee:=.builtin .cap,..}=>true
 |_=>false
def pick(a:Array Oper):List Nat->Option Nat
 |[]=>none
 |i::is=>match a[i]? with
  |some o=>cond (abI o.op) (some i) (pick a is)
  |none=>pick a is
theorem Eh{a:Array Oper}{i:Nat}:∀{l:List Nat},pick a l=some i->i∈l
 |[],h=>by cases h
 |j::is,h=>by
  unfold pick at h
  split at h
  .rename_i o b
   cases hr:abI o.op with
   |true=>rw[hr] at h;cases h;exact dw ..
   |false=>rw[hr] at h;exact cR _ (Eh h)
  exact cR _ (Eh h)
def YA:List (World->Prop)->World->Prop->Prop
 |[],_,R=>R
 |f::a,w,R=>f w/\YA a w R
theorem FJ:∀{T:List (World->Prop)} {w:World} {R:Prop},YA T w R->holds T w/\R
 |[],_,_,h=>⟨λ_ d=>(by cases d),h⟩
 |_::_,_,_,h=>by
  obtain⟨b,c⟩:=FJ h.2;refine⟨λg a=>?_,c⟩;rcases aP.1 a with rfl|a
  .exact h.1
  exact b g a
def Vi:Dk->World->Prop->Prop
 |[],_,R=>R
 |p::a,w,R=>YA p.2 w (Vi a w R)
theorem FI:∀{b:Dk} {w:World} {R:Prop},Vi b w R->(∀p∈b,holds p.2 w)/\R
 |[],_,_,h=>⟨λ_ i=>(by cases i),h⟩
 |_::_,_,_,h=>by
  obtain⟨c,d⟩:=FJ h;obtain⟨e,f⟩:=FI d;refine⟨λg a=>?_,f⟩;rcases aP.1 a with rfl|a
  .exact c
  exact e g a
def Yz:List Prop->Prop
 |[]=>True
 |[p]=>p
 |p::q::a=>p/\Yz (q::a)
theorem FH:∀{l:List Prop},Yz l->∀p∈l,p
 |[],_,_,h=>by cases h
 |[p],h,q,b=>by
  have:q=p:=by grind
  rw[this];exact h
 |p::q::c,h,r,a=>by
  rcases aP.1 a with rfl|a
  .exact h.1
  exact FH h.2 r a
def vU(P:Program)(a:Array Oper):Nat->Array Bool->Dk->Tm->World->(Tm->World->Prop)->Prop
 |0,listed,_,t,w,K=>cond (Region.ready .any a listed).isEmpty (K t w) False
 |n+1,listed,b,t,w,K=>
  match pick a (Region.ready .any a listed) with
  |some i=>match a[i]? with
   |none=>False
   |some o=>cond (Region.free .any a listed i) (gd a t o (λt=>Z2 P o t w λv T=>vU P a n (listed.setIfInBounds i true) ((i,T)::b) (pt t o.dst v) w K)
     (λt=>vU P a n (listed.setIfInBounds i true) b (pt t o.dst undef) w K)) False
  |none=>match Region.ready .any a listed with
   |[]=>K t w
   |i::is=>Yz ((i::is).map λi=>match a[i]? with
    |none=>False
    |some o=>gd a t o
     (λt=>QT P o t w λv c=>Vi (drop a i b) c (vU P a n (listed.setIfInBounds i true) (drop a i b) (pt t o.dst v) c K))
     (λt=>vU P a n (listed.setIfInBounds i true) (drop a i b) (pt t o.dst undef) w K))
def ze{a:Array Oper}{listed:Array Bool}{i:Nat}(hc:closed a listed)(hi:i∈Region.ready .any a listed):closed a (listed.setIfInBounds i true):=by
 obtain⟨_,l,j,c⟩:=mem_ready.1 hi;intro k ok h d e g f
 by_cases b:i=k
 .grind[getD_set_true]
 rw[getD_set_ne false b] at d;exact getD_set_true (hc k ok h d e g f)
theorem xS{ro:Option Nat}{P:Program}{e:Array Oper}{dd:List Deferred}{Q:Exit->Act->World->Prop}(k:∀(j:Nat) (o:Oper),e[j]?=some o->ri o.op=true)(y:Region.noSelect e=true)(hQ:∀c a w,¬ Q (.panic c) a w){K:Tm->World->Prop}{ds:List Nat}{t0:Tm}(s:∀t w,GN ds t0 t->K t w->Q .normal (vp t dd) w)(hd:∀(i:Nat) (o:Oper),e[i]?=some o->∀d,o.dst=some d->d∈ds):
  ∀(n:Nat) (listed:Array Bool) (b:Dk) (t:Tm) (w:World),GN ds t0 t->closed e listed->(∀p∈b,holds p.2 w) ->
  vU P e n listed b t w K->vW ro P e Q n listed b (vp t dd) w
 |0,listed,b,t,w,r,_,_,h=>by
  obtain⟨q,E⟩:=tX h;exact⟨List.isEmpty_iff.1 q,s _ _ r E⟩
 |n+1,listed,b,t,w,r,A,B,h=>by
  unfold vU at h
  split at h
  .rename_i i u;have m:=Eh u
   split at h
   .exact h.elim
   rename_i o l;obtain⟨D,h⟩:=tX h;rcases CU h with⟨z,h⟩|⟨z,h⟩
   .obtain⟨v,T,G,F,x⟩:=T7 h;refine A2 k l (Region.noSelect_spec y) hQ n listed b (vp t dd) w A (Region.free_spec l D) m (.inl ⟨z,λC f=>by rw[uX];exact x C f⟩) F B ?_;rw[ud];refine xS k y hQ s hd n _ _ _ _ (vv r (hd _ _ l)) (ze A m) ?_ G;intro p g;rcases aP.1 g with rfl|g
    .exact F
    exact B p g
   refine A2 (T:=[]) k l (Region.noSelect_spec y) hQ n listed b (vp t dd) w A (Region.free_spec l D) m (.inr ⟨z,rfl⟩) (λf D=>by cases D) B ?_;rw[ud];refine zI n _ b _ _ _ (λp g=>?_) (xS k y hQ s hd n _ _ _ _ (vv r (hd _ _ l)) (ze A m) B h);rcases aP.1 g with rfl|g
   .exact .inr rfl
   exact .inl g
  split at h
  .rename_i x;exact⟨λ_=>s _ _ r h,λi u=>by rw[x] at u;cases u⟩
  rename_i G is x;refine⟨λD=>(by rw[D] at x;cases x),λi u=>?_⟩;have f:(match e[i]? with
   |none=>False
   |some o=>gd e t o
    (λt=>QT P o t w λv C=>Vi (drop e i b) C (vU P e n (listed.setIfInBounds i true) (drop e i b) (pt t o.dst v) C K)) (λt=>vU P e n (listed.setIfInBounds i true) (drop e i b) (pt t o.dst undef) w K)):=by
   refine FH h _ (aN.2 ⟨i,by grind,rfl⟩)
  have m:=ze A u;unfold wpOpIn
  cases l:e[i]? with
  |none=>rw[l] at f;exact f.elim
  |some o=>
   simp only[l] at f⊢;rcases CU f with⟨z,f⟩|⟨z,f⟩
   .rw[ag z];refine(XO (k _ _ l) (λv C F=>?_) f);obtain⟨q,E⟩:=FI F;exact⟨q,xS k y hQ s hd n _ _ _ _ (vv r (hd _ _ l)) m q E⟩
   rw[af (by grind),ud];have q:∀p∈drop e i b,holds p.2 w:=λp g=>B p ((cS.1 g).1);exact⟨λ_ _=>trivial,q,xS k y hQ s hd n _ _ _ _ (vv r (hd _ _ l)) m q f⟩
