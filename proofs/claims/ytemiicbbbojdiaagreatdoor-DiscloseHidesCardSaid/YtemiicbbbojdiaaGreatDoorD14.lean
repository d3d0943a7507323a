import Derived.Test.YtemiicbbbojdiaaGreatDoorD13
set_option linter.unusedVariables false
set_option maxRecDepth 100000
noncomputable section
namespace Go.Gx
open Go Go.Vc
inductive SR where
 | no
 | val (a:AV)
 | eff (a:AV) (d:List AD) (h:AH) (n:Nat)
def SR.go(h:AH)(n:Nat):SR->GO
 | .no=>none
 | .val a=>some (a,[],h,n)
 | .eff a d h n=>some (a,d,h,n)
def Wk:GO->SR
 | none=>.no
 | some (a,d,h,n)=>.eff a d h n
theorem QY(g:GO)(h:AH)(n:Nat):(Wk g).go h n=g:=by
 cases g with
 | none=>rfl
 | some r=>obtain⟨a,d,h',n'⟩:=r; rfl
abbrev wv:=Program->aY->aY->Oper->Tr AV->AH->Nat->SR
def cC:wv:=λ P call ext o e h n=>Wk (Hg P call ext o e h n)
def fv(x:Option AV):SR:=Option.rec (motive:=λ _=>SR) .no .val x
def X3(i:Nat)(e:Tr AV):Option AV:=e.get i
def X0(v:Value)(_:Tr AV):Option AV:=Wm v
def X2(_:Nat)(_:Tr AV):Option AV:=none
def X1(f:FuncId)(_:Tr AV):Option AV:=some (.fn f [] [])
def Sp(x:Operand):Tr AV->Option AV:=Operand.rec (motive:=λ _=>Tr AV->Option AV) X3 X0 X2 X1 x
theorem AG(x:Operand)(e:Tr AV):Sp x e=fe e x:=by cases x<;>rfl
def bH(x:Operand)(e:Tr AV)(k:AV->SR):SR:=Option.rec (motive:=λ _=>SR) .no k (Sp x e)
def So(x:Operand):wv:=λ _ _ _ _ e _ _=>fv (Sp x e)
def SW(a b:Operand)(e:Tr AV):AV->SR
 | .bool t=>fv (Sp (cond t a b) e)
 | _=>.no
def VZ(c a b:Operand):wv:=λ _ _ _ _ e _ _=>bH c e (SW a b e)
def Wh:AV->SR
 | .ptr i j=>.val (.ptr i j)
 | _=>.no
def XC(x:Operand):wv:=λ _ _ _ _ e _ _=>bH x e Wh
def V1(x:Option (AV×List Hp)):SR:=Option.rec (motive:=λ _=>SR) .no (λ r=>.val r.1) x
def VY(ty:TypeId)(x:Operand):wv:=λ P _ _ _ e h _=>bH x e λ a=>V1 (Uh P ty a h)
def US(off:Nat):AV->SR
 | .ptr i j=>.val (.ptr i (Nat.add j off))
 | _=>.no
def VW(ty:TypeId)(x:Operand)(f:Nat):wv:=λ P _ _ _ e _ _=>Option.rec (motive:=λ _=>SR) .no (λ off=>bH x e (US off)) (KK P ty f)
def Xy(ty:TypeId)(x:Operand)(f:Nat):wv:=λ P _ _ _ e _ _=>bH x e λ a=>fv (MS P ty a f)
def WN(i:Nat):AV->SR
 | .tup vs=>fv (oY vs i)
 | _=>.no
def Xx(x:Operand)(i:Nat):wv:=λ _ _ _ _ e _ _=>bH x e (WN i)
def FY(k k' : IntKind)(r:Option AV):SR:=Bool.rec (motive:=λ _=>SR) .no (fv r) (FE k k')
def XG(k k' : IntKind)(a b:Int):SR:=FY k k' (some (D2 k (jn k (Int.add a b))))
def XU(k k' : IntKind)(a b:Int):SR:=FY k k' (some (D2 k (jn k (Int.sub a b))))
def XN(k k' : IntKind)(a b:Int):SR:=FY k k' (some (D2 k (jn k (Int.mul a b))))
def XP(k k' : IntKind)(a b:Int):SR:=FY k k' (D4 .quo k a b)
def XQ(k k' : IntKind)(a b:Int):SR:=FY k k' (D4 .rem k a b)
def XH(k k' : IntKind)(a b:Int):SR:=FY k k' (D4 .and k a b)
def Ym(k k' : IntKind)(a b:Int):SR:=FY k k' (D4 .or k a b)
def XV(k k' : IntKind)(a b:Int):SR:=FY k k' (D4 .xor k a b)
def XR(k _k' : IntKind)(a b:Int):SR:=fv (KM .shl k a b)
def XS(k _k' : IntKind)(a b:Int):SR:=fv (KM .shr k a b)
def Qv(k k' : IntKind)(a b:Int):SR:=FY k k' (D4 .andNot k a b)
def XI(k k' : IntKind)(a b:Int):SR:=FY k k' (some (.bool (LW a b)))
def XO(k k' : IntKind)(a b:Int):SR:=FY k k' (some (.bool (not (LW a b))))
def XM(k k' : IntKind)(a b:Int):SR:=FY k k' (some (.bool (not (FZ b a))))
def XL(k k' : IntKind)(a b:Int):SR:=FY k k' (some (.bool (FZ a b)))
def XK(k k' : IntKind)(a b:Int):SR:=FY k k' (some (.bool (not (FZ a b))))
def XJ(k k' : IntKind)(a b:Int):SR:=FY k k' (some (.bool (FZ b a)))
def V4(op:BinOp):IntKind->IntKind->Int->Int->SR :=
 BinOp.rec (motive:=λ _=>IntKind->IntKind->Int->Int->SR) XG XU XN XP XQ XH Ym XV XR XS Qv XI XO XM XL XK XJ op
def Sj(P:Program)(op:BinOp)(ty:TypeId)(x y:Operand)(a:AV):AV->SR
 | .int k' m=>match a with
  | .int k n=>V4 op k k' n m
  | _=>fv (KI P op ty x y a (.int k' m))
 | b=>fv (KI P op ty x y a b)
def Xo(op:BinOp)(ty:TypeId)(x y:Operand)(_:TypeId):wv:=λ P _ _ _ e _ _=>bH x e λ a=>bH y e (Sj P op ty x y a)
def VX(ty:TypeId)(x i:Operand):wv:=λ P _ _ _ e _ _=>bH x e λ a=>bH i e λ b=>fv (MV P ty a b)
def XA(ty:TypeId)(x i:Operand):wv:=λ P _ _ _ e _ _=>bH x e λ a=>bH i e λ b=>fv (MT P ty a b)
def VS(n:Nat)(x:Option AH):SR:=Option.rec (motive:=λ _=>SR) .no (λ h=>.eff (.tup []) [] h n) x
def XE(ty:TypeId)(x v:Operand):wv:=λ P _ _ _ e h n=>bH x e λ p=>bH v e λ a=>VS n (KN P ty p a h)
def Qk(n:Nat)(x:Option (AV×AH)):SR:=Option.rec (motive:=λ _=>SR) .no (λ r=>.eff r.1 [] r.2 n) x
def Xm(T:TypeId):wv:=λ P _ _ _ _ h n=>Option.rec (motive:=λ _=>SR) .no (λ z=>Qk (Nat.succ n) (FR T z h n)) (yI P T)
def Xq(T:TypeId)(x:Operand):wv:=λ _ _ _ _ e h n=>bH x e λ a=>Qk (Nat.succ n) (FR T a h n)
def Xt(ty:TypeId)(ps:Array (Nat×Operand)):wv:=λ P _ _ _ e _ _=>Option.rec (motive:=λ _=>SR) .no (λ l=>fv (MP P ty l)) (yM e ps.toList)
def Xr(ty:TypeId)(len:Nat)(ps:Array (Nat×Operand)):wv:=λ P _ _ _ e h n=>Option.rec (motive:=λ _=>SR) .no (λ l=>Qk (Nat.succ n) (MQ P ty len l h n)) (yM e ps.toList)
def VP(x:Option (AV×AH×Nat)):SR:=Option.rec (motive:=λ _=>SR) .no (λ r=>.eff r.1 [] r.2.1 r.2.2) x
def VO(P:Program)(call ext:aY)(az:List AV)(h:AH)(n:Nat):AV->SR
 | .fn g xs ys=>VP (cond (bR P g) (call g (xs++az++ys) h n) (ext g (xs++az++ys) h n))
 | _=>.no
def VU(f:Operand)(args:Array Operand)(_:Array TypeId):wv:=λ P call ext _ e h n =>
 bH f e λ a=>Option.rec (motive:=λ _=>SR) .no (λ az=>VO P call ext az h n a) (lY e args.toList)
def Wb(P:Program)(e:Tr AV)(tys:Array TypeId):List Operand->SR
 | [x]=>Option.rec (motive:=λ _=>SR) .no (λ ty=>bH x e λ a=>fv (KJ P ty a)) tys[0]?
 | _=>.no
def XB(args:Array Operand)(tys:Array TypeId):wv:=λ P _ _ _ e _ _=>Wb P e tys args.toList
def VI(P:Program)(tys:Array TypeId)(h:AH)(n:Nat):List AV->SR
 | [s,x]=>match x with
  | .str l=>Qk (Nat.succ n) (P4 P tys.toList s l h n)
  | x=>Qk (Nat.succ n) (P2 P tys.toList s x h n)
 | _=>.no
def Xn(args:Array Operand)(tys:Array TypeId):wv:=λ P _ _ _ e h n=>Option.rec (motive:=λ _=>SR) .no (VI P tys h n) (lY e args.toList)
def dJ(_:Array Operand)(_:Array TypeId):wv:=cC
def Xp(b:Builtin):Array Operand->Array TypeId->wv :=
 Builtin.rec (motive:=λ _=>Array Operand->Array TypeId->wv) Xn dJ dJ dJ dJ dJ dJ dJ XB dJ dJ dJ dJ dJ dJ dJ dJ dJ dJ dJ dJ dJ dJ dJ dJ dJ b
def WI(_:Operand)(_:String)(_:Array Operand)(_:Array TypeId):wv:=cC
def Xw(c:Callee):Array Operand->Array TypeId->wv:=Callee.rec (motive:=λ _=>Array Operand->Array TypeId->wv) VU WI Xp c
def Xu(c:Call):wv:=Xw c.callee c.args c.argTypes
def XD(o:Op):wv :=
 Op.rec (motive:=λ _=>wv)
  So So VZ Xm Xq Xt Xr (λ _ _ _ _=>cC) VY XE (λ _=>cC) (λ _=>cC) XC Xo (λ _ _ _=>cC) (λ _ _ _=>cC) (λ _ _=>cC) (λ _ _=>cC)
  (λ _ _ _=>cC) (λ _ _=>cC) (λ _ _=>cC) (λ _ _ _=>cC) (λ _ _ _ _ _=>cC) VW Xy VX XA (λ _ _ _ _=>cC) (λ _ _ _ _=>cC) (λ _ _ _=>cC)
  (λ _ _ _ _=>cC) (λ _ _=>cC) (λ _ _=>cC) (λ _=>cC) (λ _ _ _ _=>cC) Xx Xu (λ _=>cC) (λ _=>cC) (λ _=>cC) (λ _ _=>cC) (λ _ _ _=>cC) (λ _ _=>cC) o
theorem bO(x:Operand)(e:Tr AV)(k:AV->SR):bH x e k=match fe e x with
  | some a=>k a
  | none=>.no:=by
 unfold bH;rw[AG]
 cases fe e x<;>rfl
theorem jg{P:Program}{call ext:aY}{o:Oper}{e:Tr AV}{h:AH}{n:Nat}{x:Option AV}(hx:Hh P o e=x) (hg:Hg P call ext o e h n=match Qn P o e h with
   | some (a,_)=>some (a,[],h,n)
   | none=>none) (hr:Qn P o e h=match Hh P o e with
   | some a=>some (a,[])
   | none=>none):Hg P call ext o e h n=(fv x).go h n:=by
 rw[hg,hr,hx]
 cases x<;>rfl
theorem Qw(P:Program)(op:BinOp)(ty:TypeId)(x y:Operand)(k k' : IntKind)(n m:Int):V4 op k k' n m=fv (KI P op ty x y (.int k n) (.int k' m)):=by
 have h1:∀ r:Option AV,FY k k' r=fv (cond (FE k k') r none):=λ r=>by unfold FY; cases FE k k' <;> rfl
 cases op<;>first|rfl|exact h1 _
theorem T8(P:Program)(call ext:aY)(o:Oper)(e:Tr AV)(h:AH)(n:Nat):(XD o.op P call ext o e h n).go h n=Hg P call ext o e h n:=by
 have slow:(cC P call ext o e h n).go h n=Hg P call ext o e h n:=QY _ _ _;obtain⟨dst,op,ty,pos,after,guard⟩:=o;have goS_go:∀ (x:Option (AV×AH)) (m:Nat),(Qk m x).go h n=LU m x:=λ x m=>by
  cases x with
  | none=>rfl
  | some r=>obtain⟨a,h'⟩:=r; rfl
 cases op with
 | move x =>
  refine Eq.trans ?_ (jg (x:=fe e x) rfl rfl rfl).symm;show(fv (Sp x e)).go h n=_;rw[AG]
 | assign x =>
  refine Eq.trans ?_ (jg (x:=fe e x) rfl rfl rfl).symm;show(fv (Sp x e)).go h n=_;rw[AG]
 | pick c a b =>
  refine Eq.trans ?_ (jg (x:=_) rfl rfl rfl).symm;show(bH c e (SW a b e)).go h n=_;rw[bO];simp only[Hh]
  cases hc:fe e c with
  | none=>rfl
  | some v=>cases v<;>first|rfl|(show(fv (Sp _ e)).go h n=_; rw[AG])
 | nilCheck x =>
  refine Eq.trans ?_ (jg (x:=_) rfl rfl rfl).symm;show(bH x e Wh).go h n=_;rw[bO];simp only[Hh]
  cases hc:fe e x with
  | none=>rfl
  | some v=>cases v<;>rfl
 | load t x =>
  show(bH x e λ a=>V1 (Uh P t a h)).go h n=_;rw[bO];show _=match Qn P ⟨dst,.load t x,ty,pos,after,guard⟩ e h with
   | some (a,_)=>some (a,[],h,n)
   | none=>none
  simp only[Qn]
  cases hc:fe e x with
  | none=>rfl
  | some v =>
   simp only
   cases hl:Uh P t v h with
   | none=>rfl
   | some r=>obtain⟨a,ds⟩:=r; rfl
 | fieldAddr t x f =>
  refine Eq.trans ?_ (jg (x:=_) rfl rfl rfl).symm;show(Option.rec (motive:=λ _=>SR) .no (λ off=>bH x e (US off)) (KK P t f):SR).go h n=_;simp only[Hh]
  cases ho:KK P t f with
  | none=>rfl
  | some off =>
   show(bH x e (US off)).go h n=_;rw[bO]
   cases hc:fe e x with
   | none=>rfl
   | some v=>cases v<;>rfl
 | field t x f =>
  refine Eq.trans ?_ (jg (x:=_) rfl rfl rfl).symm;show(bH x e λ a=>fv (MS P t a f)).go h n=_;rw[bO];simp only[Hh]
  cases hc:fe e x<;>rfl
 | extract x i =>
  refine Eq.trans ?_ (jg (x:=_) rfl rfl rfl).symm;show(bH x e (WN i)).go h n=_;rw[bO];simp only[Hh]
  cases hc:fe e x with
  | none=>rfl
  | some v=>cases v<;>rfl
 | binOp op t x y yt =>
  refine Eq.trans ?_ (jg (x:=_) rfl rfl rfl).symm;show(bH x e λ a=>bH y e (Sj P op t x y a)).go h n=_;rw[bO];simp only[Hh]
  cases hc:fe e x with
  | none=>rfl
  | some a =>
   simp only;rw[bO]
   cases hd:fe e y with
   | none=>rfl
   | some b =>
    simp only
    congr 1
    cases b<;>first|rfl|skip
    rename_i k' m
    cases a<;>first|rfl|exact Qw P op t x y _ _ _ _
 | index t x i =>
  refine Eq.trans ?_ (jg (x:=_) rfl rfl rfl).symm;show(bH x e λ a=>bH i e λ b=>fv (MT P t a b)).go h n=_;rw[bO];simp only[Hh]
  cases hc:fe e x with
  | none=>rfl
  | some a =>
   simp only;rw[bO]
   cases hd:fe e i<;>rfl
 | indexAddr t x i =>
  refine Eq.trans ?_ (jg (x:=_) rfl rfl rfl).symm;show(bH x e λ a=>bH i e λ b=>fv (MV P t a b)).go h n=_;rw[bO];simp only[Hh]
  cases hc:fe e x with
  | none=>rfl
  | some a =>
   simp only;rw[bO]
   cases hd:fe e i<;>rfl
 | store t x v =>
  show(bH x e λ p=>bH v e λ a=>VS n (KN P t p a h)).go h n=_;rw[bO];simp only[Hg]
  cases hc:fe e x with
  | none=>rfl
  | some a =>
   simp only;rw[bO]
   cases hd:fe e v with
   | none=>rfl
   | some b =>
    simp only
    cases KN P t a b h<;>rfl
 | alloc T =>
  show(Option.rec (motive:=λ _=>SR) .no (λ z=>Qk (Nat.succ n) (FR T z h n)) (yI P T):SR).go h n=_;simp only[Hg]
  cases hz:yI P T with
  | none=>rfl
  | some z=>exact goS_go _ _
 | box T x =>
  show(bH x e λ a=>Qk (Nat.succ n) (FR T a h n)).go h n=_;rw[bO];simp only[Hg]
  cases hc:fe e x with
  | none=>rfl
  | some a=>exact goS_go _ _
 | build t ps =>
  refine Eq.trans ?_ (jg (x:=_) rfl rfl rfl).symm;show(Option.rec (motive:=λ _=>SR) .no (λ l=>fv (MP P t l)) (yM e ps.toList):SR).go h n=_;simp only[Hh]
  cases hc:yM e ps.toList<;>rfl
 | buildSlice t len ps =>
  show(Option.rec (motive:=λ _=>SR) .no (λ l=>Qk (Nat.succ n) (MQ P t len l h n)) (yM e ps.toList):SR).go h n=_;simp only[Hg]
  cases hc:yM e ps.toList with
  | none=>rfl
  | some l=>exact goS_go _ _
 | call c =>
  obtain⟨callee,args,tys⟩:=c
  cases callee with
  | value f =>
   show(bH f e λ a=>Option.rec (motive:=λ _=>SR) .no (λ az=>VO P call ext az h n a) (lY e args.toList)).go h n=_;rw[bO];simp only[Hg]
   cases hc:fe e f with
   | none=>rfl
   | some a =>
    cases hl:lY e args.toList with
    | none=>cases a<;>rfl
    | some az =>
     cases a<;>first|rfl|skip
     rename_i g xs ys;show(VP (cond (bR P g) (call g (xs++az++ys) h n) (ext g (xs++az++ys) h n))).go h n=_;simp only
     cases (cond (bR P g) (call g (xs++az++ys) h n) (ext g (xs++az++ys) h n)) with
     | none=>rfl
     | some r=>obtain⟨r1,r2,r3⟩:=r; rfl
  | invoke r m=>exact slow
  | builtin b =>
   cases b<;>first|exact slow|skip
   ·show(Option.rec (motive:=λ _=>SR) .no (VI P tys h n) (lY e args.toList):SR).go h n=_;simp only[Hg]
    cases hl:lY e args.toList with
    | none=>rfl
    | some l =>
     match l with
     | []=>rfl
     | [_]=>rfl
     | [s,x]=>cases x<;>exact goS_go _ _
     | _ :: _ :: _ :: _=>rfl
   ·refine Eq.trans ?_ (jg (x:=_) rfl rfl rfl).symm;show(Wb P e tys args.toList).go h n=_;simp only[Hh];generalize args.toList=l
    match l with
    | []=>rfl
    | _ :: _ :: _=>rfl
    | [x] =>
     show(Option.rec (motive:=λ _=>SR) .no (λ ty=>bH x e λ a=>fv (KJ P ty a)) tys[0]? : SR).go h n=_
     cases ht:tys[0]? with
     | none=>rfl
     | some t =>
      show(bH x e λ a=>fv (KJ P t a)).go h n=_;rw[bO];simp only
      cases hc:fe e x<;>rfl
 | _=>exact slow
abbrev Sq:=Tr AV->List AD->AH->Nat->GS
def Ik(N:Nat)(e:Tr AV)(d:Option Nat)(v:AV)(k:Tr AV->GS):GS :=
 Option.rec (motive:=λ _=>GS) (k e) (λ i=>Bool.rec (motive:=λ _=>GS) .no (k (e.put i v)) (Nat.ble (Nat.succ i) N)) d
theorem Ep(N:Nat)(e:Tr AV)(d:Option Nat)(v:AV)(k:Tr AV->GS):Ik N e d v k=match yO N e d v with
  | some e=>k e
  | none=>.no:=by
 cases d with
 | none=>rfl
 | some i =>
  have h1:yO N e (some i) v=cond (Nat.ble (Nat.succ i) N) (some (e.put i v)) none:=rfl;rw[h1];show Bool.rec (motive:=λ _=>GS) .no (k (e.put i v)) (Nat.ble (Nat.succ i) N)=_
  cases Nat.ble (Nat.succ i) N<;>rfl
def WW(P:Program)(call ext:aY)(N:Nat)(o:Oper)(ih:Sq)(e:Tr AV)(d:List AD)(h:AH)(n:Nat):GS :=
 SR.rec (motive:=λ _=>GS) .no (λ a=>Ik N e o.dst a λ e=>ih e d h n) (λ a ds h n=>Ik N e o.dst a λ e=>ih e (ds++d) h n) (XD o.op P call ext o e h n)
def Xz(P:Program)(call ext:aY)(N:Nat)(ops:Array Oper)(o:Oper)(ih:Sq)(e:Tr AV)(d:List AD)(h:AH)(n:Nat):GS:=match nG ops e o with
 | some true=>WW P call ext N o ih e d h n
 | some false=>Ik N e o.dst (.tup []) λ e=>ih e d h n
 | none=>.no
def T7(P:Program)(call ext:aY)(N:Nat)(ops:Array Oper)(o:Oper)(ih:Sq)(e:Tr AV)(d:List AD)(h:AH)(n:Nat):GS :=
 Option.rec (motive:=λ _=>GS) (WW P call ext N o ih e d h n) (λ _=>Xz P call ext N ops o ih e d h n) o.guard
def D1(P:Program)(call ext:aY)(N:Nat)(ops:Array Oper)(l:List Oper):Sq :=
 List.rec (motive:=λ _=>Sq) GS.ok (λ o _ ih=>T7 P call ext N ops o ih) l
theorem Jl(P:Program)(call ext:aY)(N:Nat)(ops:Array Oper):∀ (l:List Oper) (e:Tr AV) (d:List AD) (h:AH) (n:Nat),D1 P call ext N ops l e d h n=sC P call ext N ops l e d h n
 | [],e,d,h,n=>rfl
 | o :: l,e,d,h,n=>by
  have ih:=Jl P call ext N ops l;have hdo:∀ e d h n,WW P call ext N o (D1 P call ext N ops l) e d h n=match Hg P call ext o e h n with
    | some (a,ds,h',n')=>match yO N e o.dst a with
     | some e'=>sC P call ext N ops l e' (ds++d) h' n'
     | none=>.no
    | none=>.no:=λ e d h n=>by
   rw[<- T8];unfold WW
   cases XD o.op P call ext o e h n with
   | no=>rfl
   | val a =>
    show Ik N e o.dst a (λ e=>D1 P call ext N ops l e d h n)=_;rw[Ep];simp only[SR.go,List.nil_append,ih]
   | eff a ds h' n' =>
    show Ik N e o.dst a (λ e=>D1 P call ext N ops l e (ds++d) h' n')=_;rw[Ep];simp only[SR.go,ih]
  show T7 P call ext N ops o (D1 P call ext N ops l) e d h n=_;unfold T7 sC
  cases hg:o.guard with
  | none =>
   have:nG ops e o=some true:=by unfold nG; rw[hg]
   rw[this];exact hdo e d h n
  | some g =>
   show Xz P call ext N ops o (D1 P call ext N ops l) e d h n=_;unfold Xz
   cases hq:nG ops e o with
   | none=>rfl
   | some b =>
    cases b with
    | true=>exact hdo e d h n
    | false =>
     show Ik N e o.dst (.tup []) (λ e=>D1 P call ext N ops l e d h n)=_;rw[Ep];simp only[ih]
     cases yO N e o.dst (.tup [])<;>rfl
abbrev Cd:=Tr AV->List AD->AH->Nat->GR
def VB(e:Tr AV)(d:List AD)(h:AH)(n:Nat):GR:=.ok .normal e d h n
def UE(e:Tr AV)(d:List AD)(h:AH)(n:Nat):GR:=.ok .ret e d h n
def W1(i:Nat)(e:Tr AV)(d:List AD)(h:AH)(n:Nat):GR:=.ok (.exit i) e d h n
def XZ(l:Nat)(e:Tr AV)(d:List AD)(h:AH)(n:Nat):GR:=.ok (.goto l) e d h n
def Wd(_:Tr AV)(_:List AD)(_:AH)(_:Nat):GR:=.no
def Xh(kb:Cd)(x:GE):Cd:=GE.rec (motive:=λ _=>Cd) kb W1 UE XZ x
def Fo(fa fb:Cd)(e:Tr AV)(d:List AD)(h:AH)(n:Nat):GR:=GR.rec (motive:=λ _=>GR) .no (Xh fb) (fa e d h n)
def Xj(fa fb:Cd)(e:Tr AV)(d:List AD)(h:AH)(n:Nat):AV->GR
 | .bool x=>Bool.rec (motive:=λ _=>GR) (fb e d h n) (fa e d h n) x
 | _=>.no
def TF(c:Operand)(fa fb:Cd)(e:Tr AV)(d:List AD)(h:AH)(n:Nat):GR:=Option.rec (motive:=λ _=>GR) .no (Xj fa fb e d h n) (Sp c e)
def Xg(id i:Nat)(e:Tr AV)(d:List AD)(h:AH)(n:Nat):GR:=Bool.rec (motive:=λ _=>GR) (W1 i e d h n) (VB e d h n) (Nat.beq i id)
def TE(id:Nat)(fa:Cd)(e:Tr AV)(d:List AD)(h:AH)(n:Nat):GR:=GR.rec (motive:=λ _=>GR) .no (GE.rec (motive:=λ _=>Cd) VB (Xg id) UE XZ) (fa e d h n)
def Mo(fa:Cd)(F:Nat):Cd:=Nat.rec (motive:=λ _=>Cd) Wd (λ _ ih=>Fo fa ih) F
def Xi(P:Program)(call ext:aY)(N:Nat)(ops:Array Oper)(draw:Bool):Cd :=
 Bool.rec (motive:=λ _=>Cd) (λ e d h n=>(D1 P call ext N ops ops.toList e d h n).R2)
  (λ e d h n=>cond (and (P.follows .mixedOrders) (and (Region.noSelect ops) (cR ops.toList)))
    ((eW P call ext N ops (tX ops) n ops.size (Array.replicate ops.size false) [] e h n).Yb d (tX ops)) .no) draw
def cQ(P:Program)(call ext:aY)(N F:Nat)(sc:Code->Cd)(c:Code):Cd :=
 Code.rec (motive:=λ _=>Cd) VB (λ _ ops draw=>Xi P call ext N ops draw) (λ _ _ ia ib=>Fo ia ib) (λ c _ _ ia ib=>TF c ia ib) (λ id _ ia=>TE id ia) (λ _ ia=>Mo ia F)
  (λ _ _ _ _ _ _=>Wd) W1 (λ c _=>sc c) (λ _=>VB) XZ UE (λ _=>Wd) c
def Ji(P:Program)(call ext:aY)(F:Nat):pz:=λ N c=>cQ P call ext N F (λ c=>wW (cQ P call ext N F (λ _=>Wd)) c F c) c
theorem UD(P:Program)(w0:World)(N:Nat)(c:Code):iy P w0 N Wd c:=by intro e e' d d' h h' n n' x hg; cases hg
theorem DI(fa fb:Cd)(e:Tr AV)(d:List AD)(h:AH)(n:Nat):Fo fa fb e d h n=match fa e d h n with
   | .ok .normal e d h n=>fb e d h n
   | r=>r:=by
 unfold Fo
 cases fa e d h n with
 | no=>rfl
 | ok x e d h n=>cases x<;>rfl
theorem Fm(fa:Cd):∀ (F:Nat),Mo fa F=yb fa F
 | 0=>by funext e d h n; rfl
 | F+1=>by
  funext e d h n
  show Fo fa (Mo fa F) e d h n=_;rw[DI,Fm fa F];simp only[yb]
  cases fa e d h n with
  | no=>rfl
  | ok x e d h n=>cases x<;>rfl
theorem CB{P:Program}{w0:World}{call ext:aY}(hcall:jc P w0 call)(hext:zV P w0 ext){N F:Nat}{sc:Code->Cd}(hsc:∀ c,iy P w0 N (sc c) (.scope c))(c:Code):iy P w0 N (cQ P call ext N F sc c) c:=by
 induction c with
 | skip=>intro e e' d d' h h' n n' x hg ρ t dd w hs; cases hg; exact wpIn_skip (Out.mk hs)
 | label l=>intro e e' d d' h h' n n' x hg ρ t dd w hs; cases hg; exact wpIn_label (Out.mk hs)
 | exit i=>intro e e' d d' h h' n n' x hg ρ t dd w hs; cases hg; exact wpIn_exit (Out.mk hs)
 | goto l=>intro e e' d d' h h' n n' x hg ρ t dd w hs; cases hg; exact wpIn_goto (Out.mk hs)
 | ret=>intro e e' d d' h h' n n' x hg ρ t dd w hs; cases hg; exact wpIn_ret (Out.mk hs)
 | region id ops draw =>
  cases draw with
  | false =>
   intro e e' d d' h h' n n' x hg ρ t dd w hs;have hg:(D1 P call ext N ops ops.toList e d h n).R2=.ok x e' d' h' n':=hg;rw[Jl] at hg;exact Lt (id:=id) hcall hext (N:=N) (ops:=ops) hg hs
  | true=>exact PM (id:=id) hcall hext (N:=N) (ops:=ops)
 | seq a b iha ihb =>
  intro e e' d d' h h' n n' x hg ρ t dd w hs;have hg:Fo (cQ P call ext N F sc a) (cQ P call ext N F sc b) e d h n=.ok x e' d' h' n':=hg;rw[DI] at hg;exact U6 (n:=n) (fa:=cQ P call ext N F sc a) (fb:=cQ P call ext N F sc b) iha ihb hg hs
 | cond c a b iha ihb =>
  intro e e' d d' h h' n n' x hg ρ t dd w hs;have hg:TF c (cQ P call ext N F sc a) (cQ P call ext N F sc b) e d h n=.ok x e' d' h' n':=hg;refine PF (n:=n) (n':=n') (fa:=cQ P call ext N F sc a) (fb:=cQ P call ext N F sc b) iha ihb ?_ hs;rw[<- hg];unfold TF;rw[AG];show(match fe e c with
   | some (.bool x)=>cond x (cQ P call ext N F sc a e d h n) (cQ P call ext N F sc b e d h n)
   | _=>GR.no)=_
  cases fe e c with
  | none=>rfl
  | some v=>cases v<;>first|rfl|(rename_i t; cases t<;>rfl)
 | block id c ih =>
  intro e e' d d' h h' n n' x hg ρ t dd w hs;have hg:TE id (cQ P call ext N F sc c) e d h n=.ok x e' d' h' n':=hg;refine Mm (n:=n) (n':=n') (fc:=cQ P call ext N F sc c) ih ?_ hs;rw[<- hg];unfold TE;show(match cQ P call ext N F sc c e d h n with
   | GR.ok (GE.exit i) e d h n=>cond (Nat.beq i id) (GR.ok GE.normal e d h n) (GR.ok (GE.exit i) e d h n)
   | r=>r)=_
  cases cQ P call ext N F sc c e d h n with
  | no=>rfl
  | ok x e d h n =>
   cases x with
   | exit i =>
    show cond (Nat.beq i id) _ _=Bool.rec (motive:=λ _=>GR) (W1 i e d h n) (VB e d h n) (Nat.beq i id)
    cases Nat.beq i id<;>rfl
   | _=>rfl
 | loop c ih =>
  have:cQ P call ext N F sc (.loop c)=yb (cQ P call ext N F sc c) F:=Fm _ _;rw[this];exact @QL P w0 N F (cQ P call ext N F sc c) c ih
 | rangeFunc f ps a b _ _=>intro e e' d d' h h' n n' x hg; cases hg
 | scope c _=>exact hsc c
 | refuse s=>intro e e' d d' h h' n n' x hg; cases hg
theorem AF{P:Program}{w0:World}{call ext:aY}(hcall:jc P w0 call)(hext:zV P w0 ext){F:Nat}(N:Nat)(c:Code):iy P w0 N (Ji P call ext F N c) c :=
 CB hcall hext (λ c=>Og (λ c=>CB hcall hext (λ c=>@UD P w0 N (.scope c)) c) c) c
def ML(P:Program)(ext:aY)(F:Nat)(k:Nat):aY:=MR P (λ call=>Ji P call ext F) k
theorem AE{P:Program}{w0:World}{ext:aY}(hext:zV P w0 ext){F:Nat}(k:Nat):jc P w0 (ML P ext F k) :=
 FQ (λ _ hcall=>AF hcall hext) k
mutual
def NB(D:Nat->Bool):AV->Bool
 | .int _ _=>true
 | .bool _=>true
 | .str _=>true
 | .nilp=>true
 | .ptr i _=>D i
 | .nils=>true
 | .sli i _ _ _=>D i
 | .nili=>true
 | .iface _ v=>NB D v
 | .nilf=>true
 | .fn _ x y=>and (SS D x) (SS D y)
 | .yld i=>D i
 | .agg cs=>SS D cs
 | .tup vs=>SS D vs
def SS(D:Nat->Bool):List AV->Bool
 | []=>true
 | a :: l=>and (NB D a) (SS D l)
end
def res(D:Nat->Bool)(ρ:Names):Names:=λ i=>if D i=true then ρ i else none
mutual
theorem Iv{D:Nat->Bool}{ρ:Names}:∀ {a:AV} {v:Value},NB D a=true->rv ρ a=some v->rv (res D ρ) a=some v
 | .int _ _,_,_,h=>h
 | .bool _,_,_,h=>h
 | .str _,_,_,h=>h
 | .nilp,_,_,h=>h
 | .nils,_,_,h=>h
 | .nili,_,_,h=>h
 | .nilf,_,_,h=>h
 | .ptr i o,v,hn,h=>by
  simp only[NB] at hn;simp only[rv,res,hn,if_true] at h ⊢;exact h
 | .yld i,v,hn,h=>by
  simp only[NB] at hn;simp only[rv,res,hn,if_true] at h ⊢;exact h
 | .sli i o l z,v,hn,h=>by
  simp only[NB] at hn;simp only[rv,res,hn,if_true] at h ⊢;exact h
 | .iface T a,v,hn,h=>by
  simp only[NB] at hn;simp only[rv,Option.map_eq_some_iff] at h ⊢;obtain⟨u,hu,rfl⟩:=h;exact⟨u,Iv hn hu,rfl⟩
 | .fn f x y,v,hn,h=>by
  simp only[NB,Bool.and_eq_true] at hn;simp only[rv] at h ⊢
  split at h
  ·rename_i xs ys h1 h2;rw[rM hn.1 h1,rM hn.2 h2]; exact h
  ·cases h
 | .agg cs,v,hn,h=>by
  simp only[NB] at hn;simp only[rv,Option.map_eq_some_iff] at h ⊢;obtain⟨u,hu,rfl⟩:=h;exact⟨u,rM hn hu,rfl⟩
 | .tup vs,v,hn,h=>by
  simp only[NB] at hn;simp only[rv,Option.map_eq_some_iff] at h ⊢;obtain⟨u,hu,rfl⟩:=h;exact⟨u,rM hn hu,rfl⟩
theorem rM{D:Nat->Bool}{ρ:Names}:∀ {l:List AV} {vs:List Value},SS D l=true->dI ρ l=some vs->dI (res D ρ) l=some vs
 | [],_,_,h=>h
 | a :: l,vs,hn,h=>by
  simp only[SS,Bool.and_eq_true] at hn;simp only[dI] at h ⊢
  split at h
  ·rename_i x xs h1 h2;rw[Iv hn.1 h1,rM hn.2 h2]; exact h
  ·cases h
end
def O7{α:Type}(D:Nat):List (Nat×α)->Tr α
 | []=>Tr.full D
 | p :: l=>(O7 D l).put p.1 p.2
theorem Ee{α:Type}{D:Nat}:∀ {l:List (Nat×α)} {i:Nat} {x:α},(O7 D l).get i=some x->(i,x)∈l
 | [],i,x,h=>by rw[show O7 D ([]:List (Nat×α))=Tr.full D from rfl,p9] at h; cases h
 | p :: l,i,x,h=>by
  rw[show O7 D (p :: l)=(O7 D l).put p.1 p.2 from rfl,bL] at h
  split at h
  ·rename_i e
   cases h
   rw[e]; exact List.mem_cons_self
  ·exact List.mem_cons_of_mem _ (Ee h)
theorem JG{α:Type}{D:Nat}:∀ {l:List (Nat×α)} {i:Nat},(l.any λ p=>Nat.beq p.1 i)=true->∃ x,(O7 D l).get i=some x
 | [],i,h=>by cases h
 | p :: l,i,h=>by
  rw[show O7 D (p :: l)=(O7 D l).put p.1 p.2 from rfl,bL]
  by_cases e:i=p.1
  ·exact⟨_,if_pos e⟩
  ·rw[if_neg e];simp only[List.any_cons,Bool.or_eq_true] at h;rcases h with h|h
   ·exact absurd (beq_iff.1 h).symm e
   ·exact JG h
structure Pt where
 le:List (Nat×AV)
 lh:List (Nat×AO)
 n:Nat
def Pt.D(p:Pt):Nat->Bool:=λ i=>p.lh.any λ q=>Nat.beq q.1 i
def Pt.e(p:Pt)(N:Nat):Tr AV:=O7 (VT N) p.le
def Pt.h(p:Pt):AH:=O7 9 (p.lh.map λ q=>(q.1,some q.2))
def Pt.ok(p:Pt):Bool:=and (p.le.all λ q=>NB p.D q.2) (p.lh.all λ q=>SS p.D q.2.cells)
def Pt.xD(p:Pt):GR->Option (List (Option AV)×List (Option (Option AO))×Nat)
 | .ok .normal e [] h n=>some (p.le.map λ q=>e.get q.1,p.lh.map λ q=>h.get q.1,n)
 | _=>none
def Pt.want(p:Pt):Option (List (Option AV)×List (Option (Option AO))×Nat):=some (p.le.map λ q=>some q.2,p.lh.map λ q=>some (some q.2),p.n)
def Good(w0:World)(N:Nat)(p:Pt)(a:Act)(w:World):Prop:=∃ ρ t,a=eY t []/\wC w0 N ρ (p.e N) [] p.h t [] w
theorem Pt.has{p:Pt}{i:Nat}(h:p.D i=true):∃ x,p.h.get i=some x:=by
 refine JG ?_;obtain⟨q,hq,e⟩:=List.any_eq_true.1 h;exact List.any_eq_true.2 ⟨(q.1,some q.2),List.mem_map.2 ⟨q,hq,rfl⟩,e⟩
theorem Pt.weak{p:Pt}{w0 w:World}{N:Nat}{ρ:Names}{e:Tr AV}{h:AH}{t:Tm}(s:wC w0 N ρ e [] h t [] w)(hk:p.ok=true)(he:∀ q∈p.le,e.get q.1=some q.2)(hh:∀ q∈p.lh,h.get q.1=some (some q.2)):∃ ρ',wC w0 N ρ' (p.e N) [] p.h t [] w:=by
 unfold Pt.ok at hk;obtain⟨k1,k2⟩:=Pd hk;have hget:∀ {i:Nat} {ao:AO},p.h.get i=some (some ao)->(i,ao)∈p.lh:=λ {i ao} hi=>by
  obtain⟨q,hq,e⟩:=List.mem_map.1 (Ee hi)
  cases e; exact hq
 have hD:∀ {i:Nat} {ao:AO},(i,ao)∈p.lh->p.D i=true:=λ {i ao} hm=>List.any_eq_true.2 ⟨_,hm,beq_iff.2 rfl⟩;refine⟨res p.D ρ,⟨s.rep.aA,λ i L hi=>?_,λ i ao hi=>?_,λ i j ao ao' L L' hij hi hj h1 h2=>?_⟩,λ i a hi=>?_,s.len,rfl⟩
 ·unfold res at hi
  split at hi
  ·rename_i g; exact Pt.has g
  ·cases hi
 ·have hm:=hget hi;obtain⟨L,cur,vs,lv⟩:=s.rep.live i ao (hh _ hm);refine⟨L,cur,vs,?_,lv.new,lv.blk,rM (List.all_eq_true.1 k2 _ hm) lv.val,lv.here,lv.room,lv.most⟩;unfold res;rw[if_pos (hD hm)]; exact lv.at_
 ·have g1:=hget hi; have g2:=hget hj;unfold res at h1 h2;rw[if_pos (hD g1)] at h1;rw[if_pos (hD g2)] at h2;exact s.rep.inj i j ao ao' L L' hij (hh _ g1) (hh _ g2) h1 h2
 ·have hm:=Ee hi;exact Iv (List.all_eq_true.1 k1 _ hm) (s.env i a (he _ hm))
theorem jP{α β:Type}{f g:α->β}:∀ {l:List α},l.map f=l.map g->∀ q∈l,f q=g q
 | [],_,q,hq=>by cases hq
 | a :: l,h,q,hq=>by
  obtain⟨h1,h2⟩:=List.cons.inj h;rcases List.mem_cons.1 hq with rfl|hq
  ·exact h1
  ·exact jP h2 q hq
def Nk(P:Program)(fn:Func):GR->Bool
 | .ok x e [] h _=>and (CH x) (match B4 P e h fn.results.toList with
  | some [.bool b]=>b
  | _=>false)
 | _=>false
def Fin(P:Program)(fn:Func)(w0:World)(ex:Exit)(a:Act)(w:World):Prop:=∃ (x:GE) (ρ:Names) (t:Tm) (e:Tr AV) (h:AH),x.ex=ex/\CH x=true/\a=eY t []/\wC w0 fn.ntmps ρ e [] h t [] w/\B4 P e h fn.results.toList=some [.bool true]
theorem QD{P:Program}{w0 w:World}{fn:Func}{cd:Tr AV->List AD->AH->Nat->GR}{c:Code}(hcd:iy P w0 fn.ntmps cd c){p:Pt}{a:Act}(hg:Nk P fn (cd (p.e fn.ntmps) [] p.h p.n)=true)(hs:Good w0 fn.ntmps p a w) :
  c.wpIn (FW none) 0 P (Fin P fn w0) a w:=by
 obtain⟨ρ,t,rfl,s⟩:=hs;generalize hr:cd (p.e fn.ntmps) [] p.h p.n=r at hg;unfold Nk at hg
 split at hg
 ·rename_i x e1 h1 n1;obtain⟨g1,g2⟩:=Pd hg
  split at g2
  ·rename_i b hb;subst g2;refine wpIn_mono (hcd hr s) λ ex a' w' ⟨k1,t',dd',k2,ρ',k3,k4⟩=>?_;subst k2;obtain rfl:dd' = []:=by have:=k4.dfs; simp[E1] at this; exact this
   exact⟨x,ρ',t',e1,h1,k1,g1,rfl,k4,hb⟩
  ·cases g2
 ·cases hg
def W7:List Code->Code->Code
 | [],C=>C
 | c :: l,C=>.seq c (W7 l C)
def N8(run:Code->Cd):List Code->Cd
 | []=>VB
 | c :: l=>Fo (run c) (N8 run l)
theorem Ox{P:Program}{w0:World}{N:Nat}{run:Code->Cd}(hcd:∀ c,iy P w0 N (run c) c){q:Pt}(hk:q.ok=true){C:Code}{Q:Exit->Act->World->Prop}
  (k:∀ a' w',Good w0 N q a' w'->C.wpIn (FW none) 0 P Q a' w'):∀ (l:List Code) {ρ:Names} {e:Tr AV} {d:List AD} {h:AH} {n:Nat} {t:Tm} {dd:List Deferred} {w:World},q.xD (N8 run l e d h n)=q.want->wC w0 N ρ e d h t dd w->(W7 l C).wpIn (FW none) 0 P Q (eY t dd) w
 | [],ρ,e,d,h,n,t,dd,w,hg,s=>by
  have hg:q.xD (.ok .normal e d h n)=q.want:=hg;unfold Pt.xD Pt.want at hg
  split at hg
  ·rename_i e1 h1 n1 heq
   cases heq
   simp only[Option.some.injEq,Prod.mk.injEq] at hg;obtain rfl:dd=[]:=by have:=s.dfs; simp[E1] at this; exact this
   obtain⟨ρ2,k5⟩:=Pt.weak s hk (jP hg.1) (jP hg.2.1);exact k _ _ ⟨ρ2,t,rfl,k5⟩
  ·cases hg
 | c :: l,ρ,e,d,h,n,t,dd,w,hg,s=>by
  have hg:q.xD (Fo (run c) (N8 run l) e d h n)=q.want:=hg;rw[DI] at hg
  split at hg
  ·rename_i e1 d1 h1 n1 hr;refine wpIn_seq (wpIn_mono (hcd c hr s) λ ex a' w' ⟨k1,t',dd',k2,ρ',k3,k4⟩=>?_);subst k1 k2;exact Ox hcd hk k l hg k4
  ·rename_i hne;generalize run c e d h n=r at hg hne;unfold Pt.xD Pt.want at hg
   split at hg
   ·exact absurd rfl (hne _ _ _ _)
   ·cases hg
theorem Ow{P:Program}{w0 w:World}{N:Nat}{run:Code->Cd}(hcd:∀ c,iy P w0 N (run c) c){p q:Pt}(l:List Code)(hk:q.ok=true){C:Code}{Q:Exit->Act->World->Prop}{a:Act}(hg:q.xD (N8 run l (p.e N) [] p.h p.n)=q.want)(hs:Good w0 N p a w)(k:∀ a' w',Good w0 N q a' w'->C.wpIn (FW none) 0 P Q a' w'):(W7 l C).wpIn (FW none) 0 P Q a w:=by
 obtain⟨ρ,t,rfl,s⟩:=hs;exact Ox hcd hk k l hg s
theorem DN{P:Program}{call ext:aY}{w:World}{F:Nat}{f:FuncId}{fn:Func}{c:Code}(hcall:jc P w call)(hext:zV P w ext)(hf:P.funcs[f]?=some fn)(hc:fn.body=some c)(h:∀ a,Good w fn.ntmps ⟨[],[],1⟩ a w->c.wpIn (FW none) 0 P (Fin P fn w) a w):Calls P f #[] w λ e w'=>e=.returned (.bool true)/\Chg w w' []:=by
 refine(callsIn_wide (n:=0)).1 (callsIn_of_wp_marks hf hc trivial ?_ rfl);have e1:({ tmps:=#[]++Array.replicate (fn.ntmps-(#[]:Array Value).size) undef,defers:=[] }:Act)=eY (List.replicate fn.ntmps undef) []:=by simp[eY]
 rw[e1];refine wpIn_mono (h _ ⟨λ _=>none,_,rfl,N2 w 9,FD _ _ _,by simp,rfl⟩) λ ex a w' ⟨x,ρ,t,e,h1,k1,k2,k3,k4,k5⟩=>?_;subst k1 k3;obtain⟨v,g1,g2⟩:=kX (fn:=fn) k4.rep k4.env k5;have hb:v=.bool true:=by
  have:rv ρ (Qs [.bool true])=some v:=g1;exact ff this
 subst hb;have hlv:LeavesInM (FW none) 0 P fn t.toArray (λ e w'=>e=.returned (.bool true)/\Chg w w' []) [] .returning w' :=
  AK (cd:=Ji P call ext F) (λ N c=>AF hcall hext N c) (ds:=[]) (h:=h1) (n:=0) rfl k4.rep rfl λ ρ2 w2 x2 r2=>?_
 ·cases x with
  | normal=>exact hlv
  | ret=>exact hlv
  | exit i=>cases k2
  | goto l=>cases k2
 ·obtain⟨v2,g3,g4⟩:=kX (fn:=fn) r2 (k4.env.mono x2) k5;have:v2=.bool true:=ff (ρ:=ρ2) g3;subst this;exact⟨_,g4,rfl,r2.aA⟩
end Go.Gx
namespace Go.Proofs.YtemiicbbbojdiaaGreatDoor
open Go Go.Vc Go.Gx _root_.Go.Proofs.Tryz
def xt:XT:=⟨176,294,252,177,#[3],148,5⟩
def MJ:aY:=λ f args h n=>Ug xt args h n f
theorem WZ{f:FuncId}{e:Array Value->Sem Value} (h:∃ fn,prog.funcs[f]?=some fn/\(fn.name== "runtime.NumGoroutine")=false/\fn.body.isNone=true/\(Extern.findNext fn).isNone=true/\Extern.find fn=some e):Gx.Tj prog f e:=by
 obtain⟨fn,h1,h2,h3,h4,h5⟩:=h;exact⟨fn,h1,h2,h3,by simpa using h4,h5⟩
theorem Yq:xt.OK prog where
 noEsc:=WZ ⟨_,func176,by kernel_rfl,by kernel_rfl,by kernel_rfl,by kernel_rfl⟩
 idx:=WZ ⟨_,func294,by kernel_rfl,by kernel_rfl,by kernel_rfl,by kernel_rfl⟩
 cnt:=WZ ⟨_,func252,by kernel_rfl,by kernel_rfl,by kernel_rfl,by kernel_rfl⟩
 mnz:=WZ ⟨_,func177,by kernel_rfl,by kernel_rfl,by kernel_rfl,by kernel_rfl⟩
 me:=underlying148
theorem Dq(w0:World):zV prog w0 MJ:=λ _ _ _ _ _ _ _ hg _ _ _ hr hv=>Gx.Qc Yq hg hr hv
def sL:Code->Code
 | .seq a _=>a
 | c=>c
def sR:Code->Code
 | .seq _ b=>b
 | c=>c
def cW(f:Func):Code:=match f.body with
 | some c=>c
 | none=>.skip
def Oa(N:Nat):Code->Cd:=Ji prog (ML prog MJ 100000 100) MJ 100000 N
theorem J0(w:World)(N:Nat)(c:Code):iy prog w N (Oa N c) c:=AF (AE (Dq w) 100) (Dq w) N c
end Go.Proofs.YtemiicbbbojdiaaGreatDoor
namespace Go.Gx
open Go Go.Vc
theorem Jn{ops:Array Oper}{t:Tm}{o:Oper}{F F' G G' : Tm->Prop}(hF:∀ t,F t->F' t)(hG:∀ t,G t->G' t)(h:gd ops t o F G):gd ops t o F' G':=by
 unfold gd at h ⊢
 split
 ·rename_i hq; simp only[hq] at h; exact hF _ h
 ·rename_i j pol hq;simp only[hq] at h
  split
  ·rename_i hq2; simp only[hq2] at h; exact hG _ h
  ·rename_i d hq2;simp only[hq2] at h
   split
   ·rename_i b hq3;simp only[hq3] at h
    cases pol<;>cases b<;>simp only[cond] at h ⊢ <;> first|exact hF _ h|exact hG _ h
   ·rename_i hq3
    split at h
    ·rename_i b hq4; exact absurd hq4 (hq3 b)
    ·exact hG _ h
theorem E5{P:Program}{o:Oper}{t:Tm}{w:World}{F F' : Value->List Deferred->World->Prop}(hF:∀ v nd w',F v nd w'->F' v nd w')(h:LR P o t w F):LR P o t w F':=by
 obtain⟨n,w',hr,hn⟩:=h;refine⟨n,w',hr,?_⟩
 cases n<;>simp only[Gl] at hn ⊢
 ·exact hF _ _ _ hn
 ·exact hF _ _ _ hn
 ·exact Calls.mono hn λ e w'' ⟨v,h1,h2⟩=>⟨v,h1,hF _ _ _ h2⟩
 ·exact RoundIn.mono hn λ e w'' ⟨v,h1,h2⟩=>⟨v,h1,hF _ _ _ h2⟩
 ·exact hF _ _ _ hn
theorem rH{P:Program}{ops:Array Oper}:∀ {l:List Oper} {t:Tm} {dd:List Deferred} {w:World} {K K' : Tm->List Deferred->World->Prop},(∀ t dd w,K t dd w->K' t dd w)->vA P ops l t dd w K->vA P ops l t dd w K'
 | [],_,_,_,_,_,hk,h=>hk _ _ _ h
 | _ :: _,_,_,_,_,_,hk,h=>Jn (λ _ h=>E5 (λ _ _ _ h=>rH hk h) h) (λ _ h=>rH hk h) h
theorem A8{P:Program}{ops:Array Oper}{m:List Oper}:∀ {l:List Oper} {t:Tm} {dd:List Deferred} {w:World} {K:Tm->List Deferred->World->Prop},vA P ops l t dd w (λ t dd w=>vA P ops m t dd w K)->vA P ops (l++m) t dd w K
 | [],_,_,_,_,h=>h
 | _ :: _,_,_,_,_,h=>Jn (λ _ h=>E5 (λ _ _ _ h=>A8 h) h) (λ _ h=>A8 h) h
theorem Da{w0 w:World}{N:Nat}{q:Pt}{r:GS}{ρ:Names}{t:Tm}{dd:List Deferred}(hk:q.ok=true)(hg:q.xD r.R2=q.want)(k:∀ e d h n,r=.ok e d h n->Cg w0 N ρ e d h t dd w):dd=[]/\∃ ρ',wC w0 N ρ' (q.e N) [] q.h t [] w:=by
 cases r with
 | no=>cases hg
 | ok e d h n =>
  unfold GS.R2 Pt.xD Pt.want at hg
  split at hg
  ·rename_i e1 h1 n1 heq
   cases heq
   simp only[Option.some.injEq,Prod.mk.injEq] at hg;obtain⟨ρ',_,s⟩:=k _ _ _ _ rfl;obtain rfl:dd=[]:=by have:=s.dfs; simp[E1] at this; exact this
   exact⟨rfl,Pt.weak s hk (jP hg.1) (jP hg.2.1)⟩
  ·cases hg
theorem Ir{P:Program}{w0 w:World}{call ext:aY}(hcall:jc P w0 call)(hext:zV P w0 ext){N id:Nat}{ops:Array Oper}(l m:List Oper)(hl:ops.toList=l++m){p q r:Pt}(hq:q.ok=true)(hr:r.ok=true)(h1:q.xD (sC P call ext N ops l (p.e N) [] p.h p.n).R2=q.want)(h2:r.xD (sC P call ext N ops m (q.e N) [] q.h q.n).R2=r.want){C:Code}{Q:Exit->Act->World->Prop}{a:Act}(hs:Good w0 N p a w)(k:∀ a' w',Good w0 N r a' w'->C.wpIn (FW none) 0 P Q a' w'):(Code.seq (.region id ops false) C).wpIn (FW none) 0 P Q a w:=by
 obtain⟨ρ,t,rfl,s⟩:=hs;generalize hr1:sC P call ext N ops l (p.e N) [] p.h p.n=r1 at h1;generalize hr2:sC P call ext N ops m (q.e N) [] q.h q.n=r2 at h2;refine wpIn_seq (wpIn_region_list (zP (ro:=none) ops.toList t [] w (λ t dd w=>dd=[]/\∃ ρ',wC w0 N ρ' (r.e N) [] r.h t [] w) (.inl rfl) (λ t d w ⟨hd,hg⟩=>?_) ?_))
 ·subst hd;obtain⟨ρ',s'⟩:=hg;exact k _ _ ⟨ρ',t,rfl,s'⟩
 ·rw[hl]
  cases r1 with
  | no=>cases h1
  | ok e1 d1 g1 n1 =>
   refine A8 (rH (λ t' dd' w' hA=>?_) (ve hcall hext hr1 s));obtain⟨rfl,ρ2,s2⟩:=Da hq h1 (ρ:=ρ) (t:=t') (dd:=dd') (w:=w') (w0:=w0) (N:=N) λ e d h n he=>by cases he; exact hA
   cases r2 with
   | no=>cases h2
   | ok e2 d2 g2 n2 =>
    exact rH (λ t'' dd'' w'' hB=>Da hr h2 (ρ:=ρ2) (t:=t'') (dd:=dd'') (w:=w'') (w0:=w0) (N:=N) λ e d h n he=>by cases he; exact hB) (ve hcall hext hr2 s2)
end Go.Gx
namespace Go.Proofs.YtemiicbbbojdiaaGreatDoor.W45
open Go Go.Vc Go.Gx _root_.Go.Proofs.Tryz
def c0:Code:=cW Tryz.f9
def Yn:Code->Array Oper
 | .region _ ops _=>ops
 | _=>#[]
def o1:Array Oper:=Yn (sL (sR (c0)))
def la:List Oper:=o1.toList.take 4
def lb:List Oper:=o1.toList.drop 4
def Wv(l:List Oper)(e:Tr AV)(h:AH)(n:Nat):GR:=(sC prog (ML prog MJ 100000 100) MJ 139 o1 l e [] h n).R2
def q0:Pt:=⟨[],[],1⟩
def q1:Pt:=⟨[(0,.bool false)],[],1⟩
def q2:Pt:=⟨[(0,.bool false),(23,.ptr 5 0)],[(5,⟨86,[.int .i64 1,.int .i64 0,.int .i64 1,.int .i64 2,.int .i64 1,.sli 41 0 1 5,.sli 67 0 2 4,.nils,.nils,.ptr 412518187040 0,.int .i64 0,.int .i64 0,.int .i64 0,.int .i64 0,.int .i64 0,.int .i64 0,.int .i64 0,.int .i64 0,.nils,.bool false,.bool false,.int .i64 0,.int .i64 0,.int .i64 0,.int .i64 0,.int .i64 0,.int .i64 0,.int .i64 0,.int .i64 0,.nils,.bool false,.bool false,.int .i64 0,.int .i64 0,.int .i64 0,.int .i64 0,.int .i64 0,.int .i64 0,.int .i64 0,.int .i64 0,.nils,.bool false,.bool false,.int .i64 0,.int .i64 0,.int .i64 0,.int .i64 0,.int .i64 0,.int .i64 0,.int .i64 0,.int .i64 0,.nils,.bool false,.bool false,.int .i64 0,.int .i64 0,.int .i64 0,.int .i64 0,.int .i64 0,.int .i64 0,.int .i64 0,.int .i64 0,.nils,.bool false,.bool false,.int .i64 0,.int .i64 0,.int .i64 0,.int .i64 0,.int .i64 0,.int .i64 0,.int .i64 0,.int .i64 0,.nils,.bool false,.bool false,.int .i64 0,.int .i64 0,.int .i64 0,.int .i64 0,.int .i64 0,.int .i64 0,.int .i64 0,.int .i64 0,.nils,.bool false,.bool false,.int .i64 0,.int .i64 0,.int .i64 0,.int .i64 0,.int .i64 0,.int .i64 0,.int .i64 0,.int .i64 0,.nils,.bool false,.bool false,.int .u64 0,.int .i64 1,.int .u64 13986956932708005756],false⟩),(41,⟨89,[.str [97],.int .i64 1,.int .i64 3,.int .i64 1,.int .i64 0],false⟩),(67,⟨92,[.str [120],.int .i64 0,.int .i64 0,.int .i64 5,.str [121],.int .i64 0,.int .i64 0,.int .i64 5],false⟩),(412350414883,⟨89,[.str [97],.int .i64 1,.int .i64 3,.int .i64 1,.int .i64 0],false⟩),(412350414885,⟨92,[.str [120],.int .i64 0,.int .i64 0,.int .i64 5,.str [121],.int .i64 0,.int .i64 0,.int .i64 5],false⟩),(412484632608,⟨4,[.bool false,.bool false],false⟩),(412518187040,⟨115,[.sli 412350414883 0 1 5,.sli 412350414885 0 2 4,.nils,.nils,.int .i64 1,.int .i64 0,.int .i64 1,.int .i64 2,.nils,.int .i64 3,.int .i64 0,.int .i64 0,.int .i64 0,.int .i64 0,.int .i64 0,.sli 416746045473 0 2 6,.sli 416846708769 0 2 1,.sli 412484632608 0 2 1,.bool false],false⟩),(416746045473,⟨39,[.int .i64 0,.int .i64 0,.int .i64 0,.int .i64 0,.int .i64 0,.int .i64 0,.int .i64 0,.int .i64 0,.int .i64 0,.int .i64 0,.int .i64 0,.int .i64 0],false⟩),(416846708769,⟨4,[.bool false,.bool false],false⟩)],117⟩
def q3:Pt:=⟨[(0,.bool false),(1,.ptr 5 0),(2,.ptr 121 0)],[(5,⟨86,[.int .i64 1,.int .i64 0,.int .i64 1,.int .i64 2,.int .i64 1,.sli 41 0 1 5,.sli 67 0 2 4,.nils,.nils,.ptr 412518187040 0,.int .i64 0,.int .i64 0,.int .i64 0,.int .i64 0,.int .i64 0,.int .i64 0,.int .i64 0,.int .i64 0,.nils,.bool false,.bool false,.int .i64 0,.int .i64 0,.int .i64 0,.int .i64 0,.int .i64 0,.int .i64 0,.int .i64 0,.int .i64 0,.nils,.bool false,.bool false,.int .i64 0,.int .i64 0,.int .i64 0,.int .i64 0,.int .i64 0,.int .i64 0,.int .i64 0,.int .i64 0,.nils,.bool false,.bool false,.int .i64 0,.int .i64 0,.int .i64 0,.int .i64 0,.int .i64 0,.int .i64 0,.int .i64 0,.int .i64 0,.nils,.bool false,.bool false,.int .i64 0,.int .i64 0,.int .i64 0,.int .i64 0,.int .i64 0,.int .i64 0,.int .i64 0,.int .i64 0,.nils,.bool false,.bool false,.int .i64 0,.int .i64 0,.int .i64 0,.int .i64 0,.int .i64 0,.int .i64 0,.int .i64 0,.int .i64 0,.nils,.bool false,.bool false,.int .i64 0,.int .i64 0,.int .i64 0,.int .i64 0,.int .i64 0,.int .i64 0,.int .i64 0,.int .i64 0,.nils,.bool false,.bool false,.int .i64 0,.int .i64 0,.int .i64 0,.int .i64 0,.int .i64 0,.int .i64 0,.int .i64 0,.int .i64 0,.nils,.bool false,.bool false,.int .u64 0,.int .i64 1,.int .u64 13986956932708005756],false⟩),(41,⟨89,[.str [97],.int .i64 1,.int .i64 3,.int .i64 1,.int .i64 0],false⟩),(67,⟨92,[.str [120],.int .i64 0,.int .i64 0,.int .i64 5,.str [121],.int .i64 0,.int .i64 0,.int .i64 5],false⟩),(121,⟨86,[.int .i64 1,.int .i64 0,.int .i64 1,.int .i64 2,.int .i64 1,.sli 157 0 1 5,.sli 183 0 2 4,.nils,.nils,.ptr 518 0,.int .i64 0,.int .i64 0,.int .i64 0,.int .i64 0,.int .i64 0,.int .i64 0,.int .i64 0,.int .i64 0,.nils,.bool false,.bool false,.int .i64 0,.int .i64 0,.int .i64 0,.int .i64 0,.int .i64 0,.int .i64 0,.int .i64 0,.int .i64 0,.nils,.bool false,.bool false,.int .i64 0,.int .i64 0,.int .i64 0,.int .i64 0,.int .i64 0,.int .i64 0,.int .i64 0,.int .i64 0,.nils,.bool false,.bool false,.int .i64 0,.int .i64 0,.int .i64 0,.int .i64 0,.int .i64 0,.int .i64 0,.int .i64 0,.int .i64 0,.nils,.bool false,.bool false,.int .i64 0,.int .i64 0,.int .i64 0,.int .i64 0,.int .i64 0,.int .i64 0,.int .i64 0,.int .i64 0,.nils,.bool false,.bool false,.int .i64 0,.int .i64 0,.int .i64 0,.int .i64 0,.int .i64 0,.int .i64 0,.int .i64 0,.int .i64 0,.nils,.bool false,.bool false,.int .i64 0,.int .i64 0,.int .i64 0,.int .i64 0,.int .i64 0,.int .i64 0,.int .i64 0,.int .i64 0,.nils,.bool false,.bool false,.int .i64 0,.int .i64 0,.int .i64 0,.int .i64 0,.int .i64 0,.int .i64 0,.int .i64 0,.int .i64 0,.nils,.bool false,.bool false,.int .u64 0,.int .i64 4,.int .u64 16608509630998852375],false⟩),(157,⟨89,[.str [97],.int .i64 1,.int .i64 3,.int .i64 1,.int .i64 0],false⟩),(183,⟨92,[.str [120],.int .i64 0,.int .i64 0,.int .i64 5,.str [121],.int .i64 0,.int .i64 0,.int .i64 5],false⟩),(518,⟨115,[.sli 522 0 1 5,.sli 524 0 2 4,.nils,.nils,.int .i64 1,.int .i64 0,.int .i64 1,.int .i64 2,.sli 535 0 1 9,.int .i64 4,.int .i64 0,.int .i64 0,.int .i64 0,.int .i64 0,.int .i64 0,.sli 2302236688408 0 2 6,.sli 2302337351704 0 2 1,.sli 527 0 2 1,.bool false],false⟩),(522,⟨89,[.str [97],.int .i64 1,.int .i64 3,.int .i64 1,.int .i64 0],false⟩),(524,⟨92,[.str [120],.int .i64 0,.int .i64 0,.int .i64 5,.str [121],.int .i64 0,.int .i64 0,.int .i64 5],false⟩),(525,⟨39,[.int .i64 1,.int .i64 0,.int .i64 0,.int .i64 0,.int .i64 0,.int .i64 0,.int .i64 1,.int .i64 0,.int .i64 0,.int .i64 0,.int .i64 0,.int .i64 0],false⟩),(526,⟨4,[.bool true,.bool true],false⟩),(527,⟨4,[.bool false,.bool false],false⟩),(533,⟨39,[.int .i64 1,.int .i64 0,.int .i64 0,.int .i64 0,.int .i64 0,.int .i64 0,.int .i64 1,.int .i64 0,.int .i64 0,.int .i64 0,.int .i64 0,.int .i64 0],false⟩),(535,⟨118,[.int .i64 3,.int .i64 0,.int .i64 0,.int .i64 0,.int .i64 0,.int .i64 0,.sli 525 0 2 6,.sli 533 0 2 6,.sli 526 0 2 1],false⟩),(412350414883,⟨89,[.str [97],.int .i64 1,.int .i64 3,.int .i64 1,.int .i64 0],false⟩),(412350414885,⟨92,[.str [120],.int .i64 0,.int .i64 0,.int .i64 5,.str [121],.int .i64 0,.int .i64 0,.int .i64 5],false⟩),(412484632608,⟨4,[.bool false,.bool false],false⟩),(412518187040,⟨115,[.sli 412350414883 0 1 5,.sli 412350414885 0 2 4,.nils,.nils,.int .i64 1,.int .i64 0,.int .i64 1,.int .i64 2,.nils,.int .i64 3,.int .i64 0,.int .i64 0,.int .i64 0,.int .i64 0,.int .i64 0,.sli 416746045473 0 2 6,.sli 416846708769 0 2 1,.sli 412484632608 0 2 1,.bool false],false⟩),(416746045473,⟨39,[.int .i64 0,.int .i64 0,.int .i64 0,.int .i64 0,.int .i64 0,.int .i64 0,.int .i64 0,.int .i64 0,.int .i64 0,.int .i64 0,.int .i64 0,.int .i64 0],false⟩),(416846708769,⟨4,[.bool false,.bool false],false⟩),(2302236688408,⟨39,[.int .i64 0,.int .i64 0,.int .i64 0,.int .i64 0,.int .i64 0,.int .i64 0,.int .i64 0,.int .i64 0,.int .i64 0,.int .i64 0,.int .i64 0,.int .i64 0],false⟩),(2302337351704,⟨4,[.bool false,.bool false],false⟩)],564⟩
def l0:List Code:=[sL c0]
def cz:Code:=sR (sR c0)
