import Derived.Test.YtemiicbbbojdiaaGreatDoorProg
import Derived.KernelRfl
import Derived.Test.YtemiicbbbojdiaaGreatDoorT06
set_option linter.unusedVariables false
set_option maxRecDepth 100000
noncomputable section
namespace Go.Gx
open Go Go.Vc
inductive SR where
  | no
  | val (a:AV)
  | eff (a:AV) (d:List AD) (h:AH) (n:Nat)
def SR.go(h:AH)(n:Nat):SR->GO
  | .no=>none
  | .val a=>some (a,[],h,n)
  | .eff a d h n=>some (a,d,h,n)
def xY:GO->SR
  | none=>.no
  | some (a,d,h,n)=>.eff a d h n
theorem uy(g:GO)(h:AH)(n:Nat):(xY g).go h n=g:=by
  cases g with
  | none=>rfl
  | some r=>obtain⟨a,d,h',n'⟩:=r; rfl
abbrev fU:=Program->aB->aB->Oper->Tr AV->AH->Nat->SR
def aW:fU:=λ P call ext o e h n=>xY (nh P call ext o e h n)
def fv(x:Option AV):SR:=Option.rec (motive:=λ _=>SR) .no .val x
def zE(i:Nat)(e:Tr AV):Option AV:=e.get i
def zB(v:Value)(_:Tr AV):Option AV:=yb v
def zD(_:Nat)(_:Tr AV):Option AV:=none
def zC(f:FuncId)(_:Tr AV):Option AV:=some (.fn f [] [])
def u9(x:Operand):Tr AV->Option AV:=Operand.rec (motive:=λ _=>Tr AV->Option AV) zE zB zD zC x
theorem iA(x:Operand)(e:Tr AV):u9 x e=bJ e x:=by cases x<;>rfl
def aJ(x:Operand)(e:Tr AV)(k:AV->SR):SR:=Option.rec (motive:=λ _=>SR) .no k (u9 x e)
def u7(x:Operand):fU:=λ _ _ _ _ e _ _=>fv (u9 x e)
def vw(a b:Operand)(e:Tr AV):AV->SR
  | .bool t=>fv (u9 (cond t a b) e)
  | _=>.no
def xK(c a b:Operand):fU:=λ _ _ _ _ e _ _=>aJ c e (vw a b e)
def xX:AV->SR
  | .ptr i j=>.val (.ptr i j)
  | _=>.no
def y6(x:Operand):fU:=λ _ _ _ _ e _ _=>aJ x e xX
def xM(x:Option (AV×List nk)):SR:=Option.rec (motive:=λ _=>SR) .no (λ r=>.val r.1) x
def xJ(ty:TypeId)(x:Operand):fU:=λ P _ _ _ e h _=>aJ x e λ a=>xM (wg P ty a h)
def wM(off:Nat):AV->SR
  | .ptr i j=>.val (.ptr i (Nat.add j off))
  | _=>.no
def xH(ty:TypeId)(x:Operand)(f:Nat):fU:=λ P _ _ _ e _ _=>Option.rec (motive:=λ _=>SR) .no (λ off=>aJ x e (wM off)) (pM P ty f)
def yY(ty:TypeId)(x:Operand)(f:Nat):fU:=λ P _ _ _ e _ _=>aJ x e λ a=>fv (qF P ty a f)
def yq(i:Nat):AV->SR
  | .tup vs=>fv (gK vs i)
  | _=>.no
def yX(x:Operand)(i:Nat):fU:=λ _ _ _ _ e _ _=>aJ x e (yq i)
def lV(k k' : IntKind)(r:Option AV):SR:=Bool.rec (motive:=λ _=>SR) .no (fv r) (lK k k')
def zb(k k' : IntKind)(a b:Int):SR:=lV k k' (some (j9 k (cE k (Int.add a b))))
def zu(k k' : IntKind)(a b:Int):SR:=lV k k' (some (j9 k (cE k (Int.sub a b))))
def zk(k k' : IntKind)(a b:Int):SR:=lV k k' (some (j9 k (cE k (Int.mul a b))))
def zm(k k' : IntKind)(a b:Int):SR:=lV k k' (kf .quo k a b)
def zn(k k' : IntKind)(a b:Int):SR:=lV k k' (kf .rem k a b)
def ze(k k' : IntKind)(a b:Int):SR:=lV k k' (kf .and k a b)
def zT(k k' : IntKind)(a b:Int):SR:=lV k k' (kf .or k a b)
def zv(k k' : IntKind)(a b:Int):SR:=lV k k' (kf .xor k a b)
def zo(k _k' : IntKind)(a b:Int):SR:=fv (pN .shl k a b)
def zq(k _k' : IntKind)(a b:Int):SR:=fv (pN .shr k a b)
def uh(k k' : IntKind)(a b:Int):SR:=lV k k' (kf .andNot k a b)
def zf(k k' : IntKind)(a b:Int):SR:=lV k k' (some (.bool (qk a b)))
def zl(k k' : IntKind)(a b:Int):SR:=lV k k' (some (.bool (not (qk a b))))
def zj(k k' : IntKind)(a b:Int):SR:=lV k k' (some (.bool (not (lW b a))))
def zi(k k' : IntKind)(a b:Int):SR:=lV k k' (some (.bool (lW a b)))
def zh(k k' : IntKind)(a b:Int):SR:=lV k k' (some (.bool (not (lW a b))))
def zg(k k' : IntKind)(a b:Int):SR:=lV k k' (some (.bool (lW b a)))
def xO(op:BinOp):IntKind->IntKind->Int->Int->SR :=
  BinOp.rec (motive:=λ _=>IntKind->IntKind->Int->Int->SR) zb zu zk zm zn ze zT zv zo zq uh zf zl zj zi zh zg op
def uW(P:Program)(op:BinOp)(ty:TypeId)(x y:Operand)(a:AV):AV->SR
  | .int k' m=>match a with
    | .int k n=>xO op k k' n m
    | _=>fv (pK P op ty x y a (.int k' m))
  | b=>fv (pK P op ty x y a b)
def yQ(op:BinOp)(ty:TypeId)(x y:Operand)(_:TypeId):fU:=λ P _ _ _ e _ _=>aJ x e λ a=>aJ y e (uW P op ty x y a)
def xI(ty:TypeId)(x i:Operand):fU:=λ P _ _ _ e _ _=>aJ x e λ a=>aJ i e λ b=>fv (qI P ty a b)
def y4(ty:TypeId)(x i:Operand):fU:=λ P _ _ _ e _ _=>aJ x e λ a=>aJ i e λ b=>fv (qG P ty a b)
def xE(n:Nat)(x:Option AH):SR:=Option.rec (motive:=λ _=>SR) .no (λ h=>.eff (.tup []) [] h n) x
def y8(ty:TypeId)(x v:Operand):fU:=λ P _ _ _ e h n=>aJ x e λ p=>aJ v e λ a=>xE n (pO P ty p a h)
def tV(n:Nat)(x:Option (AV×AH)):SR:=Option.rec (motive:=λ _=>SR) .no (λ r=>.eff r.1 [] r.2 n) x
def yO(T:TypeId):fU:=λ P _ _ _ _ h n=>Option.rec (motive:=λ _=>SR) .no (λ z=>tV (Nat.succ n) (lQ T z h n)) (gG P T)
def yS(T:TypeId)(x:Operand):fU:=λ _ _ _ _ e h n=>aJ x e λ a=>tV (Nat.succ n) (lQ T a h n)
def yU(ty:TypeId)(ps:Array (Nat×Operand)):fU:=λ P _ _ _ e _ _=>Option.rec (motive:=λ _=>SR) .no (λ l=>fv (qC P ty l)) (gI e ps.toList)
def yT(ty:TypeId)(len:Nat)(ps:Array (Nat×Operand)):fU:=λ P _ _ _ e h n=>Option.rec (motive:=λ _=>SR) .no (λ l=>tV (Nat.succ n) (qD P ty len l h n)) (gI e ps.toList)
def xD(x:Option (AV×AH×Nat)):SR:=Option.rec (motive:=λ _=>SR) .no (λ r=>.eff r.1 [] r.2.1 r.2.2) x
def xC(P:Program)(call ext:aB)(az:List AV)(h:AH)(n:Nat):AV->SR
  | .fn g xs ys=>xD (cond (bx P g) (call g (xs++az++ys) h n) (ext g (xs++az++ys) h n))
  | _=>.no
def xG(f:Operand)(args:Array Operand)(_:Array TypeId):fU:=λ P call ext _ e h n =>
  aJ f e λ a=>Option.rec (motive:=λ _=>SR) .no (λ az=>xC P call ext az h n a) (dB e args.toList)
def xS(P:Program)(e:Tr AV)(tys:Array TypeId):List Operand->SR
  | [x]=>Option.rec (motive:=λ _=>SR) .no (λ ty=>aJ x e λ a=>fv (pL P ty a)) tys[0]?
  | _=>.no
def y5(args:Array Operand)(tys:Array TypeId):fU:=λ P _ _ _ e _ _=>xS P e tys args.toList
def xz(P:Program)(tys:Array TypeId)(h:AH)(n:Nat):List AV->SR
  | [s,x]=>match x with
    | .str l=>tV (Nat.succ n) (tE P tys.toList s l h n)
    | x=>tV (Nat.succ n) (tC P tys.toList s x h n)
  | _=>.no
def yP(args:Array Operand)(tys:Array TypeId):fU:=λ P _ _ _ e h n=>Option.rec (motive:=λ _=>SR) .no (xz P tys h n) (dB e args.toList)
def bA(_:Array Operand)(_:Array TypeId):fU:=aW
def yR(b:Builtin):Array Operand->Array TypeId->fU :=
  Builtin.rec (motive:=λ _=>Array Operand->Array TypeId->fU) yP bA bA bA bA bA bA bA y5 bA bA bA bA bA bA bA bA bA bA bA bA bA bA bA bA bA b
def yo(_:Operand)(_:String)(_:Array Operand)(_:Array TypeId):fU:=aW
def yW(c:Callee):Array Operand->Array TypeId->fU:=Callee.rec (motive:=λ _=>Array Operand->Array TypeId->fU) xG yo yR c
def yV(c:Call):fU:=yW c.callee c.args c.argTypes
def y7(o:Op):fU :=
  Op.rec (motive:=λ _=>fU)
    u7 u7 xK yO yS yU yT (λ _ _ _ _=>aW) xJ y8 (λ _=>aW) (λ _=>aW) y6 yQ (λ _ _ _=>aW) (λ _ _ _=>aW) (λ _ _=>aW) (λ _ _=>aW)
    (λ _ _ _=>aW) (λ _ _=>aW) (λ _ _=>aW) (λ _ _ _=>aW) (λ _ _ _ _ _=>aW) xH yY xI y4 (λ _ _ _ _=>aW) (λ _ _ _ _=>aW) (λ _ _ _=>aW)
    (λ _ _ _ _=>aW) (λ _ _=>aW) (λ _ _=>aW) (λ _=>aW) (λ _ _ _ _=>aW) yX yV (λ _=>aW) (λ _=>aW) (λ _=>aW) (λ _ _=>aW) (λ _ _ _=>aW) (λ _ _=>aW) o
theorem aN(x:Operand)(e:Tr AV)(k:AV->SR):aJ x e k=match bJ e x with
    | some a=>k a
    | none=>.no:=by
  unfold aJ;rw[iA]
  cases bJ e x<;>rfl
theorem cB{P:Program}{call ext:aB}{o:Oper}{e:Tr AV}{h:AH}{n:Nat}{x:Option AV}(hx:ni P o e=x) (hg:nh P call ext o e h n=match tX P o e h with
      | some (a,_)=>some (a,[],h,n)
      | none=>none) (hr:tX P o e h=match ni P o e with
      | some a=>some (a,[])
      | none=>none):nh P call ext o e h n=(fv x).go h n:=by
  rw[hg,hr,hx]
  cases x<;>rfl
theorem uj(P:Program)(op:BinOp)(ty:TypeId)(x y:Operand)(k k' : IntKind)(n m:Int):xO op k k' n m=fv (pK P op ty x y (.int k n) (.int k' m)):=by
  have h1:∀ r:Option AV,lV k k' r=fv (cond (lK k k') r none):=λ r=>by unfold lV; cases lK k k' <;> rfl
  cases op<;>first | rfl | exact h1 _
theorem vW(P:Program)(call ext:aB)(o:Oper)(e:Tr AV)(h:AH)(n:Nat):(y7 o.op P call ext o e h n).go h n=nh P call ext o e h n:=by
  have slow:(aW P call ext o e h n).go h n=nh P call ext o e h n:=uy _ _ _;obtain⟨dst,op,ty,pos,after,guard⟩:=o;have goS_go:∀ (x:Option (AV×AH)) (m:Nat),(tV m x).go h n=qj m x:=λ x m=>by
    cases x with
    | none=>rfl
    | some r=>obtain⟨a,h'⟩:=r; rfl
  cases op with
  | move x =>
    refine Eq.trans ?_ (cB (x:=bJ e x) rfl rfl rfl).symm;show(fv (u9 x e)).go h n=_;rw[iA]
  | assign x =>
    refine Eq.trans ?_ (cB (x:=bJ e x) rfl rfl rfl).symm;show(fv (u9 x e)).go h n=_;rw[iA]
  | pick c a b =>
    refine Eq.trans ?_ (cB (x:=_) rfl rfl rfl).symm;show(aJ c e (vw a b e)).go h n=_;rw[aN];simp only[ni]
    cases hc:bJ e c with
    | none=>rfl
    | some v=>cases v<;>first | rfl | (show(fv (u9 _ e)).go h n=_; rw[iA])
  | nilCheck x =>
    refine Eq.trans ?_ (cB (x:=_) rfl rfl rfl).symm;show(aJ x e xX).go h n=_;rw[aN];simp only[ni]
    cases hc:bJ e x with
    | none=>rfl
    | some v=>cases v<;>rfl
  | load t x =>
    show(aJ x e λ a=>xM (wg P t a h)).go h n=_;rw[aN];show _=match tX P ⟨dst,.load t x,ty,pos,after,guard⟩ e h with
      | some (a,_)=>some (a,[],h,n)
      | none=>none
    simp only[tX]
    cases hc:bJ e x with
    | none=>rfl
    | some v =>
      simp only
      cases hl:wg P t v h with
      | none=>rfl
      | some r=>obtain⟨a,ds⟩:=r; rfl
  | fieldAddr t x f =>
    refine Eq.trans ?_ (cB (x:=_) rfl rfl rfl).symm;show(Option.rec (motive:=λ _=>SR) .no (λ off=>aJ x e (wM off)) (pM P t f):SR).go h n=_;simp only[ni]
    cases ho:pM P t f with
    | none=>rfl
    | some off =>
      show(aJ x e (wM off)).go h n=_;rw[aN]
      cases hc:bJ e x with
      | none=>rfl
      | some v=>cases v<;>rfl
  | field t x f =>
    refine Eq.trans ?_ (cB (x:=_) rfl rfl rfl).symm;show(aJ x e λ a=>fv (qF P t a f)).go h n=_;rw[aN];simp only[ni]
    cases hc:bJ e x<;>rfl
  | extract x i =>
    refine Eq.trans ?_ (cB (x:=_) rfl rfl rfl).symm;show(aJ x e (yq i)).go h n=_;rw[aN];simp only[ni]
    cases hc:bJ e x with
    | none=>rfl
    | some v=>cases v<;>rfl
  | binOp op t x y yt =>
    refine Eq.trans ?_ (cB (x:=_) rfl rfl rfl).symm;show(aJ x e λ a=>aJ y e (uW P op t x y a)).go h n=_;rw[aN];simp only[ni]
    cases hc:bJ e x with
    | none=>rfl
    | some a =>
      simp only;rw[aN]
      cases hd:bJ e y with
      | none=>rfl
      | some b =>
        simp only
        congr 1
        cases b<;>first | rfl | skip
        rename_i k' m
        cases a<;>first | rfl | exact uj P op t x y _ _ _ _
  | index t x i =>
    refine Eq.trans ?_ (cB (x:=_) rfl rfl rfl).symm;show(aJ x e λ a=>aJ i e λ b=>fv (qG P t a b)).go h n=_;rw[aN];simp only[ni]
    cases hc:bJ e x with
    | none=>rfl
    | some a =>
      simp only;rw[aN]
      cases hd:bJ e i<;>rfl
  | indexAddr t x i =>
    refine Eq.trans ?_ (cB (x:=_) rfl rfl rfl).symm;show(aJ x e λ a=>aJ i e λ b=>fv (qI P t a b)).go h n=_;rw[aN];simp only[ni]
    cases hc:bJ e x with
    | none=>rfl
    | some a =>
      simp only;rw[aN]
      cases hd:bJ e i<;>rfl
  | store t x v =>
    show(aJ x e λ p=>aJ v e λ a=>xE n (pO P t p a h)).go h n=_;rw[aN];simp only[nh]
    cases hc:bJ e x with
    | none=>rfl
    | some a =>
      simp only;rw[aN]
      cases hd:bJ e v with
      | none=>rfl
      | some b =>
        simp only
        cases pO P t a b h<;>rfl
  | alloc T =>
    show(Option.rec (motive:=λ _=>SR) .no (λ z=>tV (Nat.succ n) (lQ T z h n)) (gG P T):SR).go h n=_;simp only[nh]
    cases hz:gG P T with
    | none=>rfl
    | some z=>exact goS_go _ _
  | box T x =>
    show(aJ x e λ a=>tV (Nat.succ n) (lQ T a h n)).go h n=_;rw[aN];simp only[nh]
    cases hc:bJ e x with
    | none=>rfl
    | some a=>exact goS_go _ _
  | build t ps =>
    refine Eq.trans ?_ (cB (x:=_) rfl rfl rfl).symm;show(Option.rec (motive:=λ _=>SR) .no (λ l=>fv (qC P t l)) (gI e ps.toList):SR).go h n=_;simp only[ni]
    cases hc:gI e ps.toList<;>rfl
  | buildSlice t len ps =>
    show(Option.rec (motive:=λ _=>SR) .no (λ l=>tV (Nat.succ n) (qD P t len l h n)) (gI e ps.toList):SR).go h n=_;simp only[nh]
    cases hc:gI e ps.toList with
    | none=>rfl
    | some l=>exact goS_go _ _
  | call c =>
    obtain⟨callee,args,tys⟩:=c
    cases callee with
    | value f =>
      show(aJ f e λ a=>Option.rec (motive:=λ _=>SR) .no (λ az=>xC P call ext az h n a) (dB e args.toList)).go h n=_;rw[aN];simp only[nh]
      cases hc:bJ e f with
      | none=>rfl
      | some a =>
        cases hl:dB e args.toList with
        | none=>cases a<;>rfl
        | some az =>
          cases a<;>first | rfl | skip
          rename_i g xs ys;show(xD (cond (bx P g) (call g (xs++az++ys) h n) (ext g (xs++az++ys) h n))).go h n=_;simp only
          cases (cond (bx P g) (call g (xs++az++ys) h n) (ext g (xs++az++ys) h n)) with
          | none=>rfl
          | some r=>obtain⟨r1,r2,r3⟩:=r; rfl
    | invoke r m=>exact slow
    | builtin b =>
      cases b<;>first | exact slow | skip
      · show(Option.rec (motive:=λ _=>SR) .no (xz P tys h n) (dB e args.toList):SR).go h n=_;simp only[nh]
        cases hl:dB e args.toList with
        | none=>rfl
        | some l =>
          match l with
          | []=>rfl
          | [_]=>rfl
          | [s,x]=>cases x<;>exact goS_go _ _
          | _ :: _ :: _ :: _=>rfl
      · refine Eq.trans ?_ (cB (x:=_) rfl rfl rfl).symm;show(xS P e tys args.toList).go h n=_;simp only[ni];generalize args.toList=l
        match l with
        | []=>rfl
        | _ :: _ :: _=>rfl
        | [x] =>
          show(Option.rec (motive:=λ _=>SR) .no (λ ty=>aJ x e λ a=>fv (pL P ty a)) tys[0]? : SR).go h n=_
          cases ht:tys[0]? with
          | none=>rfl
          | some t =>
            show(aJ x e λ a=>fv (pL P t a)).go h n=_;rw[aN];simp only
            cases hc:bJ e x<;>rfl
  | _=>exact slow
abbrev Sq:=Tr AV->List AD->AH->Nat->GS
def nR(N:Nat)(e:Tr AV)(d:Option Nat)(v:AV)(k:Tr AV->GS):GS :=
  Option.rec (motive:=λ _=>GS) (k e) (λ i=>Bool.rec (motive:=λ _=>GS) .no (k (e.put i v)) (Nat.ble (Nat.succ i) N)) d
theorem kG(N:Nat)(e:Tr AV)(d:Option Nat)(v:AV)(k:Tr AV->GS):nR N e d v k=match gJ N e d v with
    | some e=>k e
    | none=>.no:=by
  cases d with
  | none=>rfl
  | some i =>
    have h1:gJ N e (some i) v=cond (Nat.ble (Nat.succ i) N) (some (e.put i v)) none:=rfl;rw[h1];show Bool.rec (motive:=λ _=>GS) .no (k (e.put i v)) (Nat.ble (Nat.succ i) N)=_
    cases Nat.ble (Nat.succ i) N<;>rfl
def yx(P:Program)(call ext:aB)(N:Nat)(o:Oper)(ih:Sq)(e:Tr AV)(d:List AD)(h:AH)(n:Nat):GS :=
  SR.rec (motive:=λ _=>GS) .no (λ a=>nR N e o.dst a λ e=>ih e d h n) (λ a ds h n=>nR N e o.dst a λ e=>ih e (ds++d) h n) (y7 o.op P call ext o e h n)
def yZ(P:Program)(call ext:aB)(N:Nat)(ops:Array Oper)(o:Oper)(ih:Sq)(e:Tr AV)(d:List AD)(h:AH)(n:Nat):GS:=match dU ops e o with
  | some true=>yx P call ext N o ih e d h n
  | some false=>nR N e o.dst (.tup []) λ e=>ih e d h n
  | none=>.no
def vU(P:Program)(call ext:aB)(N:Nat)(ops:Array Oper)(o:Oper)(ih:Sq)(e:Tr AV)(d:List AD)(h:AH)(n:Nat):GS :=
  Option.rec (motive:=λ _=>GS) (yx P call ext N o ih e d h n) (λ _=>yZ P call ext N ops o ih e d h n) o.guard
def j8(P:Program)(call ext:aB)(N:Nat)(ops:Array Oper)(l:List Oper):Sq :=
  List.rec (motive:=λ _=>Sq) GS.ok (λ o _ ih=>vU P call ext N ops o ih) l
theorem oy(P:Program)(call ext:aB)(N:Nat)(ops:Array Oper):∀ (l:List Oper) (e:Tr AV) (d:List AD) (h:AH) (n:Nat),j8 P call ext N ops l e d h n=fh P call ext N ops l e d h n
  | [],e,d,h,n=>rfl
  | o :: l,e,d,h,n=>by
    have ih:=oy P call ext N ops l;have hdo:∀ e d h n,yx P call ext N o (j8 P call ext N ops l) e d h n=match nh P call ext o e h n with
        | some (a,ds,h',n')=>match gJ N e o.dst a with
          | some e'=>fh P call ext N ops l e' (ds++d) h' n'
          | none=>.no
        | none=>.no:=λ e d h n=>by
      rw[<- vW];unfold yx
      cases y7 o.op P call ext o e h n with
      | no=>rfl
      | val a =>
        show nR N e o.dst a (λ e=>j8 P call ext N ops l e d h n)=_;rw[kG];simp only[SR.go,List.nil_append,ih]
      | eff a ds h' n' =>
        show nR N e o.dst a (λ e=>j8 P call ext N ops l e (ds++d) h' n')=_;rw[kG];simp only[SR.go,ih]
    show vU P call ext N ops o (j8 P call ext N ops l) e d h n=_;unfold vU fh
    cases hg:o.guard with
    | none =>
      have:dU ops e o=some true:=by unfold dU; rw[hg]
      rw[this];exact hdo e d h n
    | some g =>
      show yZ P call ext N ops o (j8 P call ext N ops l) e d h n=_;unfold yZ
      cases hq:dU ops e o with
      | none=>rfl
      | some b =>
        cases b with
        | true=>exact hdo e d h n
        | false =>
          show nR N e o.dst (.tup []) (λ e=>j8 P call ext N ops l e d h n)=_;rw[kG];simp only[ih]
          cases gJ N e o.dst (.tup [])<;>rfl
abbrev Cd:=Tr AV->List AD->AH->Nat->GR
def xm(e:Tr AV)(d:List AD)(h:AH)(n:Nat):GR:=.ok .normal e d h n
def wF(e:Tr AV)(d:List AD)(h:AH)(n:Nat):GR:=.ok .ret e d h n
def yC(i:Nat)(e:Tr AV)(d:List AD)(h:AH)(n:Nat):GR:=.ok (.exit i) e d h n
def zA(l:Nat)(e:Tr AV)(d:List AD)(h:AH)(n:Nat):GR:=.ok (.goto l) e d h n
def xW(_:Tr AV)(_:List AD)(_:AH)(_:Nat):GR:=.no
def yK(kb:Cd)(x:GE):Cd:=GE.rec (motive:=λ _=>Cd) kb yC wF zA x
def lD(fa fb:Cd)(e:Tr AV)(d:List AD)(h:AH)(n:Nat):GR:=GR.rec (motive:=λ _=>GR) .no (yK fb) (fa e d h n)
def yM(fa fb:Cd)(e:Tr AV)(d:List AD)(h:AH)(n:Nat):AV->GR
  | .bool x=>Bool.rec (motive:=λ _=>GR) (fb e d h n) (fa e d h n) x
  | _=>.no
def vQ(c:Operand)(fa fb:Cd)(e:Tr AV)(d:List AD)(h:AH)(n:Nat):GR:=Option.rec (motive:=λ _=>GR) .no (yM fa fb e d h n) (u9 c e)
def yJ(id i:Nat)(e:Tr AV)(d:List AD)(h:AH)(n:Nat):GR:=Bool.rec (motive:=λ _=>GR) (yC i e d h n) (xm e d h n) (Nat.beq i id)
def vP(id:Nat)(fa:Cd)(e:Tr AV)(d:List AD)(h:AH)(n:Nat):GR:=GR.rec (motive:=λ _=>GR) .no (GE.rec (motive:=λ _=>Cd) xm (yJ id) wF zA) (fa e d h n)
def qt(fa:Cd)(F:Nat):Cd:=Nat.rec (motive:=λ _=>Cd) xW (λ _ ih=>lD fa ih) F
def yL(P:Program)(call ext:aB)(N:Nat)(ops:Array Oper)(draw:Bool):Cd :=
  Bool.rec (motive:=λ _=>Cd) (λ e d h n=>(j8 P call ext N ops ops.toList e d h n).uR)
    (λ e d h n=>cond (and (P.follows .mixedOrders) (and (Region.noSelect ops) (bh ops.toList)))
        ((bH P call ext N ops (fy ops) n ops.size (Array.replicate ops.size false) [] e h n).zI d (fy ops)) .no) draw
def bg(P:Program)(call ext:aB)(N F:Nat)(sc:Code->Cd)(c:Code):Cd :=
  Code.rec (motive:=λ _=>Cd) xm (λ _ ops draw=>yL P call ext N ops draw) (λ _ _ ia ib=>lD ia ib) (λ c _ _ ia ib=>vQ c ia ib) (λ id _ ia=>vP id ia) (λ _ ia=>qt ia F)
    (λ _ _ _ _ _ _=>xW) yC (λ c _=>sc c) (λ _=>xm) zA wF (λ _=>xW) c
def ou(P:Program)(call ext:aB)(F:Nat):eo:=λ N c=>bg P call ext N F (λ c=>gh (bg P call ext N F (λ _=>xW)) c F c) c
theorem wE(P:Program)(w0:World)(N:Nat)(c:Code):cm P w0 N xW c:=by intro e e' d d' h h' n n' x hg; cases hg
theorem jY(fa fb:Cd)(e:Tr AV)(d:List AD)(h:AH)(n:Nat):lD fa fb e d h n=match fa e d h n with
      | .ok .normal e d h n=>fb e d h n
      | r=>r:=by
  unfold lD
  cases fa e d h n with
  | no=>rfl
  | ok x e d h n=>cases x<;>rfl
theorem lC(fa:Cd):∀ (F:Nat),qt fa F=gy fa F
  | 0=>by funext e d h n; rfl
  | F+1=>by
    funext e d h n
    show lD fa (qt fa F) e d h n=_;rw[jY,lC fa F];simp only[gy]
    cases fa e d h n with
    | no=>rfl
    | ok x e d h n=>cases x<;>rfl
theorem jz{P:Program}{w0:World}{call ext:aB}(hcall:cA P w0 call)(hext:hU P w0 ext){N F:Nat}{sc:Code->Cd}(hsc:∀ c,cm P w0 N (sc c) (.scope c))(c:Code):cm P w0 N (bg P call ext N F sc c) c:=by
  induction c with
  | skip=>intro e e' d d' h h' n n' x hg ρ t dd w hs; cases hg; exact wpIn_skip (Out.mk hs)
  | label l=>intro e e' d d' h h' n n' x hg ρ t dd w hs; cases hg; exact wpIn_label (Out.mk hs)
  | exit i=>intro e e' d d' h h' n n' x hg ρ t dd w hs; cases hg; exact wpIn_exit (Out.mk hs)
  | goto l=>intro e e' d d' h h' n n' x hg ρ t dd w hs; cases hg; exact wpIn_goto (Out.mk hs)
  | ret=>intro e e' d d' h h' n n' x hg ρ t dd w hs; cases hg; exact wpIn_ret (Out.mk hs)
  | region id ops draw =>
    cases draw with
    | false =>
      intro e e' d d' h h' n n' x hg ρ t dd w hs;have hg:(j8 P call ext N ops ops.toList e d h n).uR=.ok x e' d' h' n':=hg;rw[oy] at hg;exact qb (id:=id) hcall hext (N:=N) (ops:=ops) hg hs
    | true=>exact tv (id:=id) hcall hext (N:=N) (ops:=ops)
  | seq a b iha ihb =>
    intro e e' d d' h h' n n' x hg ρ t dd w hs;have hg:lD (bg P call ext N F sc a) (bg P call ext N F sc b) e d h n=.ok x e' d' h' n':=hg;rw[jY] at hg;exact wQ (n:=n) (fa:=bg P call ext N F sc a) (fb:=bg P call ext N F sc b) iha ihb hg hs
  | cond c a b iha ihb =>
    intro e e' d d' h h' n n' x hg ρ t dd w hs;have hg:vQ c (bg P call ext N F sc a) (bg P call ext N F sc b) e d h n=.ok x e' d' h' n':=hg;refine tn (n:=n) (n':=n') (fa:=bg P call ext N F sc a) (fb:=bg P call ext N F sc b) iha ihb ?_ hs;rw[<- hg];unfold vQ;rw[iA];show(match bJ e c with
      | some (.bool x)=>cond x (bg P call ext N F sc a e d h n) (bg P call ext N F sc b e d h n)
      | _=>GR.no)=_
    cases bJ e c with
    | none=>rfl
    | some v=>cases v<;>first | rfl | (rename_i t; cases t<;>rfl)
  | block id c ih =>
    intro e e' d d' h h' n n' x hg ρ t dd w hs;have hg:vP id (bg P call ext N F sc c) e d h n=.ok x e' d' h' n':=hg;refine qo (n:=n) (n':=n') (fc:=bg P call ext N F sc c) ih ?_ hs;rw[<- hg];unfold vP;show(match bg P call ext N F sc c e d h n with
      | GR.ok (GE.exit i) e d h n=>cond (Nat.beq i id) (GR.ok GE.normal e d h n) (GR.ok (GE.exit i) e d h n)
      | r=>r)=_
    cases bg P call ext N F sc c e d h n with
    | no=>rfl
    | ok x e d h n =>
      cases x with
      | exit i =>
        show cond (Nat.beq i id) _ _=Bool.rec (motive:=λ _=>GR) (yC i e d h n) (xm e d h n) (Nat.beq i id)
        cases Nat.beq i id<;>rfl
      | _=>rfl
  | loop c ih =>
    have:bg P call ext N F sc (.loop c)=gy (bg P call ext N F sc c) F:=lC _ _;rw[this];exact @uv P w0 N F (bg P call ext N F sc c) c ih
  | rangeFunc f ps a b _ _=>intro e e' d d' h h' n n' x hg; cases hg
  | scope c _=>exact hsc c
  | refuse s=>intro e e' d d' h h' n n' x hg; cases hg
theorem iz{P:Program}{w0:World}{call ext:aB}(hcall:cA P w0 call)(hext:hU P w0 ext){F:Nat}(N:Nat)(c:Code):cm P w0 N (ou P call ext F N c) c :=
  jz hcall hext (λ c=>rW (λ c=>jz hcall hext (λ c=>@wE P w0 N (.scope c)) c) c) c
def qA(P:Program)(ext:aB)(F:Nat)(k:Nat):aB:=qE P (λ call=>ou P call ext F) k
theorem iy{P:Program}{w0:World}{ext:aB}(hext:hU P w0 ext){F:Nat}(k:Nat):cA P w0 (qA P ext F k) :=
  lP (λ _ hcall=>iz hcall hext) k
mutual
def q7(D:Nat->Bool):AV->Bool
  | .int _ _=>true
  | .bool _=>true
  | .str _=>true
  | .nilp=>true
  | .ptr i _=>D i
  | .nils=>true
  | .sli i _ _ _=>D i
  | .nili=>true
  | .iface _ v=>q7 D v
  | .nilf=>true
  | .fn _ x y=>and (vr D x) (vr D y)
  | .yld i=>D i
  | .agg cs=>vr D cs
  | .tup vs=>vr D vs
def vr(D:Nat->Bool):List AV->Bool
  | []=>true
  | a :: l=>and (q7 D a) (vr D l)
end
def res(D:Nat->Bool)(ρ:Names):Names:=λ i=>if D i=true then ρ i else none
mutual
theorem n6{D:Nat->Bool}{ρ:Names}:∀ {a:AV} {v:Value},q7 D a=true->rv ρ a=some v->rv (res D ρ) a=some v
  | .int _ _,_,_,h=>h
  | .bool _,_,_,h=>h
  | .str _,_,_,h=>h
  | .nilp,_,_,h=>h
  | .nils,_,_,h=>h
  | .nili,_,_,h=>h
  | .nilf,_,_,h=>h
  | .ptr i o,v,hn,h=>by
    simp only[q7] at hn;simp only[rv,res,hn,if_true] at h ⊢;exact h
  | .yld i,v,hn,h=>by
    simp only[q7] at hn;simp only[rv,res,hn,if_true] at h ⊢;exact h
  | .sli i o l z,v,hn,h=>by
    simp only[q7] at hn;simp only[rv,res,hn,if_true] at h ⊢;exact h
  | .iface T a,v,hn,h=>by
    simp only[q7] at hn;simp only[rv,Option.map_eq_some_iff] at h ⊢;obtain⟨u,hu,rfl⟩:=h;exact⟨u,n6 hn hu,rfl⟩
  | .fn f x y,v,hn,h=>by
    simp only[q7,Bool.and_eq_true] at hn;simp only[rv] at h ⊢
    split at h
    · rename_i xs ys h1 h2;rw[eY hn.1 h1,eY hn.2 h2]; exact h
    · cases h
  | .agg cs,v,hn,h=>by
    simp only[q7] at hn;simp only[rv,Option.map_eq_some_iff] at h ⊢;obtain⟨u,hu,rfl⟩:=h;exact⟨u,eY hn hu,rfl⟩
  | .tup vs,v,hn,h=>by
    simp only[q7] at hn;simp only[rv,Option.map_eq_some_iff] at h ⊢;obtain⟨u,hu,rfl⟩:=h;exact⟨u,eY hn hu,rfl⟩
theorem eY{D:Nat->Bool}{ρ:Names}:∀ {l:List AV} {vs:List Value},vr D l=true->bz ρ l=some vs->bz (res D ρ) l=some vs
  | [],_,_,h=>h
  | a :: l,vs,hn,h=>by
    simp only[vr,Bool.and_eq_true] at hn;simp only[bz] at h ⊢
    split at h
    · rename_i x xs h1 h2;rw[n6 hn.1 h1,eY hn.2 h2]; exact h
    · cases h
end
def sA{α:Type}(D:Nat):List (Nat×α)->Tr α
  | []=>Tr.full D
  | p :: l=>(sA D l).put p.1 p.2
theorem ku{α:Type}{D:Nat}:∀ {l:List (Nat×α)} {i:Nat} {x:α},(sA D l).get i=some x->(i,x)∈l
  | [],i,x,h=>by rw[show sA D ([]:List (Nat×α))=Tr.full D from rfl,ey] at h; cases h
  | p :: l,i,x,h=>by
    rw[show sA D (p :: l)=(sA D l).put p.1 p.2 from rfl,aL] at h
    split at h
    · rename_i e
      cases h
      rw[e]; exact List.mem_cons_self
    · exact List.mem_cons_of_mem _ (ku h)
theorem oN{α:Type}{D:Nat}:∀ {l:List (Nat×α)} {i:Nat},(l.any λ p=>Nat.beq p.1 i)=true->∃ x,(sA D l).get i=some x
  | [],i,h=>by cases h
  | p :: l,i,h=>by
    rw[show sA D (p :: l)=(sA D l).put p.1 p.2 from rfl,aL]
    by_cases e:i=p.1
    · exact⟨_,if_pos e⟩
    · rw[if_neg e];simp only[List.any_cons,Bool.or_eq_true] at h;rcases h with h | h
      · exact absurd (beq_iff.1 h).symm e
      · exact oN h
structure Pt where
  le:List (Nat×AV)
  lh:List (Nat×AO)
  n:Nat
def Pt.D(p:Pt):Nat->Bool:=λ i=>p.lh.any λ q=>Nat.beq q.1 i
def Pt.e(p:Pt)(N:Nat):Tr AV:=sA (xF N) p.le
def Pt.h(p:Pt):AH:=sA 9 (p.lh.map λ q=>(q.1,some q.2))
def Pt.ok(p:Pt):Bool:=and (p.le.all λ q=>q7 p.D q.2) (p.lh.all λ q=>vr p.D q.2.cells)
def Pt.gu(p:Pt):GR->Option (List (Option AV)×List (Option (Option AO))×Nat)
  | .ok .normal e [] h n=>some (p.le.map λ q=>e.get q.1,p.lh.map λ q=>h.get q.1,n)
  | _=>none
def Pt.want(p:Pt):Option (List (Option AV)×List (Option (Option AO))×Nat):=some (p.le.map λ q=>some q.2,p.lh.map λ q=>some (some q.2),p.n)
def Good(w0:World)(N:Nat)(p:Pt)(a:Act)(w:World):Prop:=∃ ρ t,a=bO t []/\fV w0 N ρ (p.e N) [] p.h t [] w
theorem Pt.has{p:Pt}{i:Nat}(h:p.D i=true):∃ x,p.h.get i=some x:=by
  refine oN ?_;obtain⟨q,hq,e⟩:=List.any_eq_true.1 h;exact List.any_eq_true.2 ⟨(q.1,some q.2),List.mem_map.2 ⟨q,hq,rfl⟩,e⟩
theorem Pt.weak{p:Pt}{w0 w:World}{N:Nat}{ρ:Names}{e:Tr AV}{h:AH}{t:Tm}(s:fV w0 N ρ e [] h t [] w)(hk:p.ok=true)(he:∀ q∈p.le,e.get q.1=some q.2)(hh:∀ q∈p.lh,h.get q.1=some (some q.2)):∃ ρ',fV w0 N ρ' (p.e N) [] p.h t [] w:=by
  unfold Pt.ok at hk;obtain⟨k1,k2⟩:=sF hk;have hget:∀ {i:Nat} {ao:AO},p.h.get i=some (some ao)->(i,ao)∈p.lh:=λ {i ao} hi=>by
    obtain⟨q,hq,e⟩:=List.mem_map.1 (ku hi)
    cases e; exact hq
  have hD:∀ {i:Nat} {ao:AO},(i,ao)∈p.lh->p.D i=true:=λ {i ao} hm=>List.any_eq_true.2 ⟨_,hm,beq_iff.2 rfl⟩;refine⟨res p.D ρ,⟨s.rep.au,λ i L hi=>?_,λ i ao hi=>?_,λ i j ao ao' L L' hij hi hj h1 h2=>?_⟩,λ i a hi=>?_,s.len,rfl⟩
  · unfold res at hi
    split at hi
    · rename_i g; exact Pt.has g
    · cases hi
  · have hm:=hget hi;obtain⟨L,cur,vs,lv⟩:=s.rep.live i ao (hh _ hm);refine⟨L,cur,vs,?_,lv.new,lv.blk,eY (List.all_eq_true.1 k2 _ hm) lv.val,lv.here,lv.room,lv.most⟩;unfold res;rw[if_pos (hD hm)]; exact lv.at_
  · have g1:=hget hi; have g2:=hget hj;unfold res at h1 h2;rw[if_pos (hD g1)] at h1;rw[if_pos (hD g2)] at h2;exact s.rep.inj i j ao ao' L L' hij (hh _ g1) (hh _ g2) h1 h2
  · have hm:=ku hi;exact n6 (List.all_eq_true.1 k1 _ hm) (s.env i a (he _ hm))
theorem cO{α β:Type}{f g:α->β}:∀ {l:List α},l.map f=l.map g->∀ q∈l,f q=g q
  | [],_,q,hq=>by cases hq
  | a :: l,h,q,hq=>by
    obtain⟨h1,h2⟩:=List.cons.inj h;rcases List.mem_cons.1 hq with rfl | hq
    · exact h1
    · exact cO h2 q hq
def qU(P:Program)(fn:Func):GR->Bool
  | .ok x e [] h _=>and (jA x) (match jj P e h fn.results.toList with
    | some [.bool b]=>b
    | _=>false)
  | _=>false
def Fin(P:Program)(fn:Func)(w0:World)(ex:Exit)(a:Act)(w:World):Prop:=∃ (x:GE) (ρ:Names) (t:Tm) (e:Tr AV) (h:AH),x.ex=ex/\jA x=true/\a=bO t []/\fV w0 fn.ntmps ρ e [] h t [] w/\jj P e h fn.results.toList=some [.bool true]
theorem uu{P:Program}{w0 w:World}{fn:Func}{cd:Tr AV->List AD->AH->Nat->GR}{c:Code}(hcd:cm P w0 fn.ntmps cd c){p:Pt}{a:Act}(hg:qU P fn (cd (p.e fn.ntmps) [] p.h p.n)=true)(hs:Good w0 fn.ntmps p a w) :
    c.wpIn (FW none) 0 P (Fin P fn w0) a w:=by
  obtain⟨ρ,t,rfl,s⟩:=hs;generalize hr:cd (p.e fn.ntmps) [] p.h p.n=r at hg;unfold qU at hg
  split at hg
  · rename_i x e1 h1 n1;obtain⟨g1,g2⟩:=sF hg
    split at g2
    · rename_i b hb;subst g2;refine wpIn_mono (hcd hr s) λ ex a' w' ⟨k1,t',dd',k2,ρ',k3,k4⟩=>?_;subst k2;obtain rfl:dd' = []:=by have:=k4.dfs; simp[kX] at this; exact this
      exact⟨x,ρ',t',e1,h1,k1,g1,rfl,k4,hb⟩
    · cases g2
  · cases hg
def yD:List Code->Code->Code
  | [],C=>C
  | c :: l,C=>.seq c (yD l C)
def rR(run:Code->Cd):List Code->Cd
  | []=>xm
  | c :: l=>lD (run c) (rR run l)
theorem rY{P:Program}{w0:World}{N:Nat}{run:Code->Cd}(hcd:∀ c,cm P w0 N (run c) c){q:Pt}(hk:q.ok=true){C:Code}{Q:Exit->Act->World->Prop}
    (k:∀ a' w',Good w0 N q a' w'->C.wpIn (FW none) 0 P Q a' w'):∀ (l:List Code) {ρ:Names} {e:Tr AV} {d:List AD} {h:AH} {n:Nat} {t:Tm} {dd:List Deferred} {w:World},
    q.gu (rR run l e d h n)=q.want->fV w0 N ρ e d h t dd w->(yD l C).wpIn (FW none) 0 P Q (bO t dd) w
  | [],ρ,e,d,h,n,t,dd,w,hg,s=>by
    have hg:q.gu (.ok .normal e d h n)=q.want:=hg;unfold Pt.gu Pt.want at hg
    split at hg
    · rename_i e1 h1 n1 heq
      cases heq
      simp only[Option.some.injEq,Prod.mk.injEq] at hg;obtain rfl:dd=[]:=by have:=s.dfs; simp[kX] at this; exact this
      obtain⟨ρ2,k5⟩:=Pt.weak s hk (cO hg.1) (cO hg.2.1);exact k _ _ ⟨ρ2,t,rfl,k5⟩
    · cases hg
  | c :: l,ρ,e,d,h,n,t,dd,w,hg,s=>by
    have hg:q.gu (lD (run c) (rR run l) e d h n)=q.want:=hg;rw[jY] at hg
    split at hg
    · rename_i e1 d1 h1 n1 hr;refine wpIn_seq (wpIn_mono (hcd c hr s) λ ex a' w' ⟨k1,t',dd',k2,ρ',k3,k4⟩=>?_);subst k1 k2;exact rY hcd hk k l hg k4
    · rename_i hne;generalize run c e d h n=r at hg hne;unfold Pt.gu Pt.want at hg
      split at hg
      · exact absurd rfl (hne _ _ _ _)
      · cases hg
theorem rX{P:Program}{w0 w:World}{N:Nat}{run:Code->Cd}(hcd:∀ c,cm P w0 N (run c) c){p q:Pt}(l:List Code)(hk:q.ok=true){C:Code}{Q:Exit->Act->World->Prop}{a:Act}(hg:q.gu (rR run l (p.e N) [] p.h p.n)=q.want)(hs:Good w0 N p a w)(k:∀ a' w',Good w0 N q a' w'->C.wpIn (FW none) 0 P Q a' w'):(yD l C).wpIn (FW none) 0 P Q a w:=by
  obtain⟨ρ,t,rfl,s⟩:=hs;exact rY hcd hk k l hg s
theorem j3{P:Program}{call ext:aB}{w:World}{F:Nat}{f:FuncId}{fn:Func}{c:Code}(hcall:cA P w call)(hext:hU P w ext)(hf:P.funcs[f]? = some fn)(hc:fn.body=some c)(h:∀ a,Good w fn.ntmps ⟨[],[],1⟩ a w->c.wpIn (FW none) 0 P (Fin P fn w) a w):Calls P f #[] w λ e w'=>e=.returned (.bool true)/\an w w' []:=by
  refine(callsIn_wide (n:=0)).1 (callsIn_of_wp_marks hf hc trivial ?_ rfl);have e1:({ tmps:=#[]++Array.replicate (fn.ntmps-(#[]:Array Value).size) undef,defers:=[] }:Act)=bO (List.replicate fn.ntmps undef) []:=by simp[bO]
  rw[e1];refine wpIn_mono (h _ ⟨λ _=>none,_,rfl,rP w 9,lJ _ _ _,by simp,rfl⟩) λ ex a w' ⟨x,ρ,t,e,h1,k1,k2,k3,k4,k5⟩=>?_;subst k1 k3;obtain⟨v,g1,g2⟩:=di (fn:=fn) k4.rep k4.env k5;have hb:v=.bool true:=by
    have:rv ρ (ud [.bool true])=some v:=g1;exact bL this
  subst hb;have hlv:LeavesInM (FW none) 0 P fn t.toArray (λ e w'=>e=.returned (.bool true)/\an w w' []) [] .returning w' :=
    iC (cd:=ou P call ext F) (λ N c=>iz hcall hext N c) (ds:=[]) (h:=h1) (n:=0) rfl k4.rep rfl λ ρ2 w2 x2 r2=>?_
  · cases x with
    | normal=>exact hlv
    | ret=>exact hlv
    | exit i=>cases k2
    | goto l=>cases k2
  · obtain⟨v2,g3,g4⟩:=di (fn:=fn) r2 (k4.env.mono x2) k5;have:v2=.bool true:=bL (ρ:=ρ2) g3;subst this;exact⟨_,g4,rfl,r2.au⟩
end Go.Gx
namespace Go.Proofs.YtemiicbbbojdiaaGreatDoor
open Go Go.Vc Go.Gx _root_.Go.Proofs.Tryz
def xt:XT:=⟨176,294,252,177,#[3],148,5⟩
def qz:aB:=λ f args h n=>we xt args h n f
theorem yA{f:FuncId}{e:Array Value->Sem Value} (h:∃ fn,prog.funcs[f]? = some fn/\(fn.name== "runtime.NumGoroutine")=false/\fn.body.isNone=true/\(Extern.findNext fn).isNone=true/\Extern.find fn=some e):Gx.vH prog f e:=by
  obtain⟨fn,h1,h2,h3,h4,h5⟩:=h;exact⟨fn,h1,h2,h3,by simpa using h4,h5⟩
theorem zZ:xt.OK prog where
  noEsc:=yA ⟨_,func176,by kernel_rfl,by kernel_rfl,by kernel_rfl,by kernel_rfl⟩
  idx:=yA ⟨_,func294,by kernel_rfl,by kernel_rfl,by kernel_rfl,by kernel_rfl⟩
  cnt:=yA ⟨_,func252,by kernel_rfl,by kernel_rfl,by kernel_rfl,by kernel_rfl⟩
  mnz:=yA ⟨_,func177,by kernel_rfl,by kernel_rfl,by kernel_rfl,by kernel_rfl⟩
  me:=underlying148
theorem jN(w0:World):hU prog w0 qz:=λ _ _ _ _ _ _ _ hg _ _ _ hr hv=>Gx.tN zZ hg hr hv
def sL:Code->Code
  | .seq a _=>a
  | c=>c
def sR:Code->Code
  | .seq _ b=>b
  | c=>c
def jX(f:Func):Code:=match f.body with
  | some c=>c
  | none=>.skip
def rS(N:Nat):Code->Cd:=ou prog (qA prog qz 100000 100) qz 100000 N
theorem o7(w:World)(N:Nat)(c:Code):cm prog w N (rS N c) c:=iz (iy (jN w) 100) (jN w) N c
end Go.Proofs.YtemiicbbbojdiaaGreatDoor
namespace Go.Gx
open Go Go.Vc
theorem oA{ops:Array Oper}{t:Tm}{o:Oper}{F F' G G' : Tm->Prop}(hF:∀ t,F t->F' t)(hG:∀ t,G t->G' t)(h:gd ops t o F G):gd ops t o F' G':=by
  unfold gd at h ⊢
  split
  · rename_i hq; simp only[hq] at h; exact hF _ h
  · rename_i j pol hq;simp only[hq] at h
    split
    · rename_i hq2; simp only[hq2] at h; exact hG _ h
    · rename_i d hq2;simp only[hq2] at h
      split
      · rename_i b hq3;simp only[hq3] at h
        cases pol<;>cases b<;>simp only[cond] at h ⊢ <;> first | exact hF _ h | exact hG _ h
      · rename_i hq3
        split at h
        · rename_i b hq4; exact absurd hq4 (hq3 b)
        · exact hG _ h
theorem k8{P:Program}{o:Oper}{t:Tm}{w:World}{F F' : Value->List Deferred->World->Prop}(hF:∀ v nd w',F v nd w'->F' v nd w')(h:qh P o t w F):qh P o t w F':=by
  obtain⟨n,w',hr,hn⟩:=h;refine⟨n,w',hr,?_⟩
  cases n<;>simp only[mg] at hn ⊢
  · exact hF _ _ _ hn
  · exact hF _ _ _ hn
  · exact Calls.mono hn λ e w'' ⟨v,h1,h2⟩=>⟨v,h1,hF _ _ _ h2⟩
  · exact RoundIn.mono hn λ e w'' ⟨v,h1,h2⟩=>⟨v,h1,hF _ _ _ h2⟩
  · exact hF _ _ _ hn
theorem eW{P:Program}{ops:Array Oper}:∀ {l:List Oper} {t:Tm} {dd:List Deferred} {w:World} {K K' : Tm->List Deferred->World->Prop},(∀ t dd w,K t dd w->K' t dd w)->fN P ops l t dd w K->fN P ops l t dd w K'
  | [],_,_,_,_,_,hk,h=>hk _ _ _ h
  | _ :: _,_,_,_,_,_,hk,h=>oA (λ _ h=>k8 (λ _ _ _ h=>eW hk h) h) (λ _ h=>eW hk h) h
theorem iL{P:Program}{ops:Array Oper}{m:List Oper}:∀ {l:List Oper} {t:Tm} {dd:List Deferred} {w:World} {K:Tm->List Deferred->World->Prop},fN P ops l t dd w (λ t dd w=>fN P ops m t dd w K)->fN P ops (l++m) t dd w K
  | [],_,_,_,_,h=>h
  | _ :: _,_,_,_,_,h=>oA (λ _ h=>k8 (λ _ _ _ h=>iL h) h) (λ _ h=>iL h) h
theorem jM{w0 w:World}{N:Nat}{q:Pt}{r:GS}{ρ:Names}{t:Tm}{dd:List Deferred}(hk:q.ok=true)(hg:q.gu r.uR=q.want)(k:∀ e d h n,r=.ok e d h n->jq w0 N ρ e d h t dd w):dd=[]/\∃ ρ',fV w0 N ρ' (q.e N) [] q.h t [] w:=by
  cases r with
  | no=>cases hg
  | ok e d h n =>
    unfold GS.uR Pt.gu Pt.want at hg
    split at hg
    · rename_i e1 h1 n1 heq
      cases heq
      simp only[Option.some.injEq,Prod.mk.injEq] at hg;obtain⟨ρ',_,s⟩:=k _ _ _ _ rfl;obtain rfl:dd=[]:=by have:=s.dfs; simp[kX] at this; exact this
      exact⟨rfl,Pt.weak s hk (cO hg.1) (cO hg.2.1)⟩
    · cases hg
theorem nZ{P:Program}{w0 w:World}{call ext:aB}(hcall:cA P w0 call)(hext:hU P w0 ext){N id:Nat}{ops:Array Oper}(l m:List Oper)(hl:ops.toList=l++m){p q r:Pt}(hq:q.ok=true)(hr:r.ok=true)(h1:q.gu (fh P call ext N ops l (p.e N) [] p.h p.n).uR=q.want)(h2:r.gu (fh P call ext N ops m (q.e N) [] q.h q.n).uR=r.want){C:Code}{Q:Exit->Act->World->Prop}{a:Act}(hs:Good w0 N p a w)(k:∀ a' w',Good w0 N r a' w'->C.wpIn (FW none) 0 P Q a' w'):(Code.seq (.region id ops false) C).wpIn (FW none) 0 P Q a w:=by
  obtain⟨ρ,t,rfl,s⟩:=hs;generalize hr1:fh P call ext N ops l (p.e N) [] p.h p.n=r1 at h1;generalize hr2:fh P call ext N ops m (q.e N) [] q.h q.n=r2 at h2;refine wpIn_seq (wpIn_region_list (gV (ro:=none) ops.toList t [] w (λ t dd w=>dd=[]/\∃ ρ',fV w0 N ρ' (r.e N) [] r.h t [] w) (.inl rfl) (λ t d w ⟨hd,hg⟩=>?_) ?_))
  · subst hd;obtain⟨ρ',s'⟩:=hg;exact k _ _ ⟨ρ',t,rfl,s'⟩
  · rw[hl]
    cases r1 with
    | no=>cases h1
    | ok e1 d1 g1 n1 =>
      refine iL (eW (λ t' dd' w' hA=>?_) (fL hcall hext hr1 s));obtain⟨rfl,ρ2,s2⟩:=jM hq h1 (ρ:=ρ) (t:=t') (dd:=dd') (w:=w') (w0:=w0) (N:=N) λ e d h n he=>by cases he; exact hA
      cases r2 with
      | no=>cases h2
      | ok e2 d2 g2 n2 =>
        exact eW (λ t'' dd'' w'' hB=>jM hr h2 (ρ:=ρ2) (t:=t'') (dd:=dd'') (w:=w'') (w0:=w0) (N:=N) λ e d h n he=>by cases he; exact hB) (fL hcall hext hr2 s2)
end Go.Gx
namespace Go.Proofs.YtemiicbbbojdiaaGreatDoor.W45
open Go Go.Vc Go.Gx _root_.Go.Proofs.Tryz
def c0:Code:=jX Tryz.f9
def zY:Code->Array Oper
  | .region _ ops _=>ops
  | _=>#[]
def o1:Array Oper:=zY (sL (sR (c0)))
def la:List Oper:=o1.toList.take 4
def lb:List Oper:=o1.toList.drop 4
def yf(l:List Oper)(e:Tr AV)(h:AH)(n:Nat):GR:=(fh prog (qA prog qz 100000 100) qz 139 o1 l e [] h n).uR
def q0:Pt:=⟨[],[],1⟩
def q1:Pt:=⟨[(0,.bool false)],[],1⟩
def q2:Pt:=⟨[(0,.bool false),(23,.ptr 5 0)],[(5,⟨86,[.int .i64 1,.int .i64 0,.int .i64 1,.int .i64 2,.int .i64 1,.sli 41 0 1 5,.sli 67 0 2 4,.nils,.nils,.ptr 412518187040 0,.int .i64 0,.int .i64 0,.int .i64 0,.int .i64 0,.int .i64 0,.int .i64 0,.int .i64 0,.int .i64 0,.nils,.bool false,.bool false,.int .i64 0,.int .i64 0,.int .i64 0,.int .i64 0,.int .i64 0,.int .i64 0,.int .i64 0,.int .i64 0,.nils,.bool false,.bool false,.int .i64 0,.int .i64 0,.int .i64 0,.int .i64 0,.int .i64 0,.int .i64 0,.int .i64 0,.int .i64 0,.nils,.bool false,.bool false,.int .i64 0,.int .i64 0,.int .i64 0,.int .i64 0,.int .i64 0,.int .i64 0,.int .i64 0,.int .i64 0,.nils,.bool false,.bool false,.int .i64 0,.int .i64 0,.int .i64 0,.int .i64 0,.int .i64 0,.int .i64 0,.int .i64 0,.int .i64 0,.nils,.bool false,.bool false,.int .i64 0,.int .i64 0,.int .i64 0,.int .i64 0,.int .i64 0,.int .i64 0,.int .i64 0,.int .i64 0,.nils,.bool false,.bool false,.int .i64 0,.int .i64 0,.int .i64 0,.int .i64 0,.int .i64 0,.int .i64 0,.int .i64 0,.int .i64 0,.nils,.bool false,.bool false,.int .i64 0,.int .i64 0,.int .i64 0,.int .i64 0,.int .i64 0,.int .i64 0,.int .i64 0,.int .i64 0,.nils,.bool false,.bool false,.int .u64 0,.int .i64 1,.int .u64 13986956932708005756],false⟩),(41,⟨89,[.str [97],.int .i64 1,.int .i64 3,.int .i64 1,.int .i64 0],false⟩),(67,⟨92,[.str [120],.int .i64 0,.int .i64 0,.int .i64 5,.str [121],.int .i64 0,.int .i64 0,.int .i64 5],false⟩),(412350414883,⟨89,[.str [97],.int .i64 1,.int .i64 3,.int .i64 1,.int .i64 0],false⟩),(412350414885,⟨92,[.str [120],.int .i64 0,.int .i64 0,.int .i64 5,.str [121],.int .i64 0,.int .i64 0,.int .i64 5],false⟩),(412484632608,⟨4,[.bool false,.bool false],false⟩),(412518187040,⟨115,[.sli 412350414883 0 1 5,.sli 412350414885 0 2 4,.nils,.nils,.int .i64 1,.int .i64 0,.int .i64 1,.int .i64 2,.nils,.int .i64 3,.int .i64 0,.int .i64 0,.int .i64 0,.int .i64 0,.int .i64 0,.sli 416746045473 0 2 6,.sli 416846708769 0 2 1,.sli 412484632608 0 2 1,.bool false],false⟩),(416746045473,⟨39,[.int .i64 0,.int .i64 0,.int .i64 0,.int .i64 0,.int .i64 0,.int .i64 0,.int .i64 0,.int .i64 0,.int .i64 0,.int .i64 0,.int .i64 0,.int .i64 0],false⟩),(416846708769,⟨4,[.bool false,.bool false],false⟩)],117⟩
def q3:Pt:=⟨[(0,.bool false),(1,.ptr 5 0),(2,.ptr 121 0)],[(5,⟨86,[.int .i64 1,.int .i64 0,.int .i64 1,.int .i64 2,.int .i64 1,.sli 41 0 1 5,.sli 67 0 2 4,.nils,.nils,.ptr 412518187040 0,.int .i64 0,.int .i64 0,.int .i64 0,.int .i64 0,.int .i64 0,.int .i64 0,.int .i64 0,.int .i64 0,.nils,.bool false,.bool false,.int .i64 0,.int .i64 0,.int .i64 0,.int .i64 0,.int .i64 0,.int .i64 0,.int .i64 0,.int .i64 0,.nils,.bool false,.bool false,.int .i64 0,.int .i64 0,.int .i64 0,.int .i64 0,.int .i64 0,.int .i64 0,.int .i64 0,.int .i64 0,.nils,.bool false,.bool false,.int .i64 0,.int .i64 0,.int .i64 0,.int .i64 0,.int .i64 0,.int .i64 0,.int .i64 0,.int .i64 0,.nils,.bool false,.bool false,.int .i64 0,.int .i64 0,.int .i64 0,.int .i64 0,.int .i64 0,.int .i64 0,.int .i64 0,.int .i64 0,.nils,.bool false,.bool false,.int .i64 0,.int .i64 0,.int .i64 0,.int .i64 0,.int .i64 0,.int .i64 0,.int .i64 0,.int .i64 0,.nils,.bool false,.bool false,.int .i64 0,.int .i64 0,.int .i64 0,.int .i64 0,.int .i64 0,.int .i64 0,.int .i64 0,.int .i64 0,.nils,.bool false,.bool false,.int .i64 0,.int .i64 0,.int .i64 0,.int .i64 0,.int .i64 0,.int .i64 0,.int .i64 0,.int .i64 0,.nils,.bool false,.bool false,.int .u64 0,.int .i64 1,.int .u64 13986956932708005756],false⟩),(41,⟨89,[.str [97],.int .i64 1,.int .i64 3,.int .i64 1,.int .i64 0],false⟩),(67,⟨92,[.str [120],.int .i64 0,.int .i64 0,.int .i64 5,.str [121],.int .i64 0,.int .i64 0,.int .i64 5],false⟩),(121,⟨86,[.int .i64 1,.int .i64 0,.int .i64 1,.int .i64 2,.int .i64 1,.sli 157 0 1 5,.sli 183 0 2 4,.nils,.nils,.ptr 518 0,.int .i64 0,.int .i64 0,.int .i64 0,.int .i64 0,.int .i64 0,.int .i64 0,.int .i64 0,.int .i64 0,.nils,.bool false,.bool false,.int .i64 0,.int .i64 0,.int .i64 0,.int .i64 0,.int .i64 0,.int .i64 0,.int .i64 0,.int .i64 0,.nils,.bool false,.bool false,.int .i64 0,.int .i64 0,.int .i64 0,.int .i64 0,.int .i64 0,.int .i64 0,.int .i64 0,.int .i64 0,.nils,.bool false,.bool false,.int .i64 0,.int .i64 0,.int .i64 0,.int .i64 0,.int .i64 0,.int .i64 0,.int .i64 0,.int .i64 0,.nils,.bool false,.bool false,.int .i64 0,.int .i64 0,.int .i64 0,.int .i64 0,.int .i64 0,.int .i64 0,.int .i64 0,.int .i64 0,.nils,.bool false,.bool false,.int .i64 0,.int .i64 0,.int .i64 0,.int .i64 0,.int .i64 0,.int .i64 0,.int .i64 0,.int .i64 0,.nils,.bool false,.bool false,.int .i64 0,.int .i64 0,.int .i64 0,.int .i64 0,.int .i64 0,.int .i64 0,.int .i64 0,.int .i64 0,.nils,.bool false,.bool false,.int .i64 0,.int .i64 0,.int .i64 0,.int .i64 0,.int .i64 0,.int .i64 0,.int .i64 0,.int .i64 0,.nils,.bool false,.bool false,.int .u64 0,.int .i64 4,.int .u64 16608509630998852375],false⟩),(157,⟨89,[.str [97],.int .i64 1,.int .i64 3,.int .i64 1,.int .i64 0],false⟩),(183,⟨92,[.str [120],.int .i64 0,.int .i64 0,.int .i64 5,.str [121],.int .i64 0,.int .i64 0,.int .i64 5],false⟩),(518,⟨115,[.sli 522 0 1 5,.sli 524 0 2 4,.nils,.nils,.int .i64 1,.int .i64 0,.int .i64 1,.int .i64 2,.sli 535 0 1 9,.int .i64 4,.int .i64 0,.int .i64 0,.int .i64 0,.int .i64 0,.int .i64 0,.sli 2302236688408 0 2 6,.sli 2302337351704 0 2 1,.sli 527 0 2 1,.bool false],false⟩),(522,⟨89,[.str [97],.int .i64 1,.int .i64 3,.int .i64 1,.int .i64 0],false⟩),(524,⟨92,[.str [120],.int .i64 0,.int .i64 0,.int .i64 5,.str [121],.int .i64 0,.int .i64 0,.int .i64 5],false⟩),(525,⟨39,[.int .i64 1,.int .i64 0,.int .i64 0,.int .i64 0,.int .i64 0,.int .i64 0,.int .i64 1,.int .i64 0,.int .i64 0,.int .i64 0,.int .i64 0,.int .i64 0],false⟩),(526,⟨4,[.bool true,.bool true],false⟩),(527,⟨4,[.bool false,.bool false],false⟩),(533,⟨39,[.int .i64 1,.int .i64 0,.int .i64 0,.int .i64 0,.int .i64 0,.int .i64 0,.int .i64 1,.int .i64 0,.int .i64 0,.int .i64 0,.int .i64 0,.int .i64 0],false⟩),(535,⟨118,[.int .i64 3,.int .i64 0,.int .i64 0,.int .i64 0,.int .i64 0,.int .i64 0,.sli 525 0 2 6,.sli 533 0 2 6,.sli 526 0 2 1],false⟩),(412350414883,⟨89,[.str [97],.int .i64 1,.int .i64 3,.int .i64 1,.int .i64 0],false⟩),(412350414885,⟨92,[.str [120],.int .i64 0,.int .i64 0,.int .i64 5,.str [121],.int .i64 0,.int .i64 0,.int .i64 5],false⟩),(412484632608,⟨4,[.bool false,.bool false],false⟩),(412518187040,⟨115,[.sli 412350414883 0 1 5,.sli 412350414885 0 2 4,.nils,.nils,.int .i64 1,.int .i64 0,.int .i64 1,.int .i64 2,.nils,.int .i64 3,.int .i64 0,.int .i64 0,.int .i64 0,.int .i64 0,.int .i64 0,.sli 416746045473 0 2 6,.sli 416846708769 0 2 1,.sli 412484632608 0 2 1,.bool false],false⟩),(416746045473,⟨39,[.int .i64 0,.int .i64 0,.int .i64 0,.int .i64 0,.int .i64 0,.int .i64 0,.int .i64 0,.int .i64 0,.int .i64 0,.int .i64 0,.int .i64 0,.int .i64 0],false⟩),(416846708769,⟨4,[.bool false,.bool false],false⟩),(2302236688408,⟨39,[.int .i64 0,.int .i64 0,.int .i64 0,.int .i64 0,.int .i64 0,.int .i64 0,.int .i64 0,.int .i64 0,.int .i64 0,.int .i64 0,.int .i64 0,.int .i64 0],false⟩),(2302337351704,⟨4,[.bool false,.bool false],false⟩)],564⟩
def l0:List Code:=[sL c0]
def cz:Code:=sR (sR c0)
end Go.Proofs.YtemiicbbbojdiaaGreatDoor.W45
