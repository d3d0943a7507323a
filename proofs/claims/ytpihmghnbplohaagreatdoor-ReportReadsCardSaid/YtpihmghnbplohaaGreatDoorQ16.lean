import Derived.Test.YtpihmghnbplohaaGreatDoorQ15
set_option linter.unusedVariables false
set_option maxRecDepth 100000
noncomputable section
namespace Go.Gx
open Go Go.Vc
inductive SR where
 | no
 | val (a:AV)
 | eff (a:AV) (d:List AD) (h:AH) (n:Nat)
def SR.go(h:AH)(n:Nat):SR->GO
 | .no=>none
 | .val a=>some (a,[],h,n)
 | .eff a d h n=>some (a,d,h,n)
def Xr:GO->SR
 | none=>.no
 | some (a,d,h,n)=>.eff a d h n
theorem RT(g:GO)(h:AH)(n:Nat):(Xr g).go h n=g:=by
 cases g with
 | none=>rfl
 | some r=>obtain⟨a,d,h',n'⟩:=r; rfl
abbrev vC:=Program->br->br->Oper->Tr AV->AH->Nat->SR
def cL:vC:=λ P call ext o e h n=>Xr (He P call ext o e h n)
def fv(x:Option AV):SR:=Option.rec (motive:=λ _=>SR) .no .val x
def Zl(i:Nat)(e:Tr AV):Option AV:=e.get i
def Zi(v:Value)(_:Tr AV):Option AV:=Xu v
def Zk(_:Nat)(_:Tr AV):Option AV:=none
def Zj(f:FuncId)(_:Tr AV):Option AV:=some (.fn f [] [])
def Tu(x:Operand):Tr AV->Option AV:=Operand.rec (motive:=λ _=>Tr AV->Option AV) Zl Zi Zk Zj x
theorem zP(x:Operand)(e:Tr AV):Tu x e=fN e x:=by cases x<;>rfl
def bK(x:Operand)(e:Tr AV)(k:AV->SR):SR:=Option.rec (motive:=λ _=>SR) .no k (Tu x e)
def Tq(x:Operand):vC:=λ _ _ _ _ e _ _=>fv (Tu x e)
def TX(a b:Operand)(e:Tr AV):AV->SR
 | .bool t=>fv (Tu (cond t a b) e)
 | _=>.no
def W4(c a b:Operand):vC:=λ _ _ _ _ e _ _=>bK c e (TX a b e)
def Xq:AV->SR
 | .ptr i j=>.val (.ptr i j)
 | _=>.no
def YU(x:Operand):vC:=λ _ _ _ _ e _ _=>bK x e Xq
def W7(x:Option (AV×List Hj)):SR:=Option.rec (motive:=λ _=>SR) .no (λ r=>.val r.1) x
def W3(ty:TypeId)(x:Operand):vC:=λ P _ _ _ e h _=>bK x e λ a=>W7 (U6 P ty a h)
def VP(off:Nat):AV->SR
 | .ptr i j=>.val (.ptr i (Nat.add j off))
 | _=>.no
def W1(ty:TypeId)(x:Operand)(f:Nat):vC:=λ P _ _ _ e _ _=>Option.rec (motive:=λ _=>SR) .no (λ off=>bK x e (VP off)) (K1 P ty f)
def YQ(ty:TypeId)(x:Operand)(f:Nat):vC:=λ P _ _ _ e _ _=>bK x e λ a=>fv (Nq P ty a f)
def X6(i:Nat):AV->SR
 | .tup vs=>fv (nu vs i)
 | _=>.no
def YP(x:Operand)(i:Nat):vC:=λ _ _ _ _ e _ _=>bK x e (X6 i)
def FF(k k' : IntKind)(r:Option AV):SR:=Bool.rec (motive:=λ _=>SR) .no (fv r) (Fm k k')
def YZ(k k' : IntKind)(a b:Int):SR:=FF k k' (some (DQ k (ja k (Int.add a b))))
def Zc(k k' : IntKind)(a b:Int):SR:=FF k k' (some (DQ k (ja k (Int.sub a b))))
def Y6(k k' : IntKind)(a b:Int):SR:=FF k k' (some (DQ k (ja k (Int.mul a b))))
def Y8(k k' : IntKind)(a b:Int):SR:=FF k k' (DS .quo k a b)
def Y9(k k' : IntKind)(a b:Int):SR:=FF k k' (DS .rem k a b)
def Y0(k k' : IntKind)(a b:Int):SR:=FF k k' (DS .and k a b)
def ZP(k k' : IntKind)(a b:Int):SR:=FF k k' (DS .or k a b)
def Zd(k k' : IntKind)(a b:Int):SR:=FF k k' (DS .xor k a b)
def Za(k _k' : IntKind)(a b:Int):SR:=fv (K2 .shl k a b)
def Zb(k _k' : IntKind)(a b:Int):SR:=fv (K2 .shr k a b)
def Rq(k k' : IntKind)(a b:Int):SR:=FF k k' (DS .andNot k a b)
def Y1(k k' : IntKind)(a b:Int):SR:=FF k k' (some (.bool (Mh a b)))
def Y7(k k' : IntKind)(a b:Int):SR:=FF k k' (some (.bool (not (Mh a b))))
def Y5(k k' : IntKind)(a b:Int):SR:=FF k k' (some (.bool (not (FG b a))))
def Y4(k k' : IntKind)(a b:Int):SR:=FF k k' (some (.bool (FG a b)))
def Y3(k k' : IntKind)(a b:Int):SR:=FF k k' (some (.bool (not (FG a b))))
def Y2(k k' : IntKind)(a b:Int):SR:=FF k k' (some (.bool (FG b a)))
def Xa(op:BinOp):IntKind->IntKind->Int->Int->SR :=
 BinOp.rec (motive:=λ _=>IntKind->IntKind->Int->Int->SR) YZ Zc Y6 Y8 Y9 Y0 ZP Zd Za Zb Rq Y1 Y7 Y5 Y4 Y3 Y2 op
def Te(P:Program)(op:BinOp)(ty:TypeId)(x y:Operand)(a:AV):AV->SR
 | .int k' m=>match a with
  | .int k n=>Xa op k k' n m
  | _=>fv (KZ P op ty x y a (.int k' m))
 | b=>fv (KZ P op ty x y a b)
def YI(op:BinOp)(ty:TypeId)(x y:Operand)(_:TypeId):vC:=λ P _ _ _ e _ _=>bK x e λ a=>bK y e (Te P op ty x y a)
def W2(ty:TypeId)(x i:Operand):vC:=λ P _ _ _ e _ _=>bK x e λ a=>bK i e λ b=>fv (Nt P ty a b)
def YS(ty:TypeId)(x i:Operand):vC:=λ P _ _ _ e _ _=>bK x e λ a=>bK i e λ b=>fv (Nr P ty a b)
def WZ(n:Nat)(x:Option AH):SR:=Option.rec (motive:=λ _=>SR) .no (λ h=>.eff (.tup []) [] h n) x
def YW(ty:TypeId)(x v:Operand):vC:=λ P _ _ _ e h n=>bK x e λ p=>bK v e λ a=>WZ n (K3 P ty p a h)
def Rf(n:Nat)(x:Option (AV×AH)):SR:=Option.rec (motive:=λ _=>SR) .no (λ r=>.eff r.1 [] r.2 n) x
def YG(T:TypeId):vC:=λ P _ _ _ _ h n=>Option.rec (motive:=λ _=>SR) .no (λ z=>Rf (Nat.succ n) (Fz T z h n)) (xJ P T)
def YK(T:TypeId)(x:Operand):vC:=λ _ _ _ _ e h n=>bK x e λ a=>Rf (Nat.succ n) (Fz T a h n)
def YM(ty:TypeId)(ps:Array (Nat×Operand)):vC:=λ P _ _ _ e _ _=>Option.rec (motive:=λ _=>SR) .no (λ l=>fv (Nn P ty l)) (xO e ps.toList)
def YL(ty:TypeId)(len:Nat)(ps:Array (Nat×Operand)):vC:=λ P _ _ _ e h n=>Option.rec (motive:=λ _=>SR) .no (λ l=>Rf (Nat.succ n) (No P ty len l h n)) (xO e ps.toList)
def WX(x:Option (AV×AH×Nat)):SR:=Option.rec (motive:=λ _=>SR) .no (λ r=>.eff r.1 [] r.2.1 r.2.2) x
def WW(P:Program)(call ext:br)(az:List AV)(h:AH)(n:Nat):AV->SR
 | .fn g xs ys=>WX (cond (bU P g) (call g (xs++az++ys) h n) (ext g (xs++az++ys) h n))
 | _=>.no
def W0(f:Operand)(args:Array Operand)(_:Array TypeId):vC:=λ P call ext _ e h n =>
 bK f e λ a=>Option.rec (motive:=λ _=>SR) .no (λ az=>WW P call ext az h n a) (lF e args.toList)
def Xh(P:Program)(e:Tr AV)(tys:Array TypeId):List Operand->SR
 | [x]=>Option.rec (motive:=λ _=>SR) .no (λ ty=>bK x e λ a=>fv (K0 P ty a)) tys[0]?
 | _=>.no
def YT(args:Array Operand)(tys:Array TypeId):vC:=λ P _ _ _ e _ _=>Xh P e tys args.toList
def WS(P:Program)(tys:Array TypeId)(h:AH)(n:Nat):List AV->SR
 | [s,x]=>match x with
  | .str l=>Rf (Nat.succ n) (QU P tys.toList s l h n)
  | x=>Rf (Nat.succ n) (QS P tys.toList s x h n)
 | _=>.no
def YH(args:Array Operand)(tys:Array TypeId):vC:=λ P _ _ _ e h n=>Option.rec (motive:=λ _=>SR) .no (WS P tys h n) (lF e args.toList)
def dX(_:Array Operand)(_:Array TypeId):vC:=cL
def YJ(b:Builtin):Array Operand->Array TypeId->vC :=
 Builtin.rec (motive:=λ _=>Array Operand->Array TypeId->vC) YH dX dX dX dX dX dX dX YT dX dX dX dX dX dX dX dX dX dX dX dX dX dX dX dX dX b
def XS(_:Operand)(_:String)(_:Array Operand)(_:Array TypeId):vC:=cL
def YO(c:Callee):Array Operand->Array TypeId->vC:=Callee.rec (motive:=λ _=>Array Operand->Array TypeId->vC) W0 XS YJ c
def YN(c:Call):vC:=YO c.callee c.args c.argTypes
def YV(o:Op):vC :=
 Op.rec (motive:=λ _=>vC)
  Tq Tq W4 YG YK YM YL (λ _ _ _ _=>cL) W3 YW (λ _=>cL) (λ _=>cL) YU YI (λ _ _ _=>cL) (λ _ _ _=>cL) (λ _ _=>cL) (λ _ _=>cL)
  (λ _ _ _=>cL) (λ _ _=>cL) (λ _ _=>cL) (λ _ _ _=>cL) (λ _ _ _ _ _=>cL) W1 YQ W2 YS (λ _ _ _ _=>cL) (λ _ _ _ _=>cL) (λ _ _ _=>cL)
  (λ _ _ _ _=>cL) (λ _ _=>cL) (λ _ _=>cL) (λ _=>cL) (λ _ _ _ _=>cL) YP YN (λ _=>cL) (λ _=>cL) (λ _=>cL) (λ _ _=>cL) (λ _ _ _=>cL) (λ _ _=>cL) o
theorem bS(x:Operand)(e:Tr AV)(k:AV->SR):bK x e k=match fN e x with
  | some a=>k a
  | none=>.no:=by
 unfold bK;rw[zP]
 cases fN e x<;>rfl
theorem iV{P:Program}{call ext:br}{o:Oper}{e:Tr AV}{h:AH}{n:Nat}{x:Option AV}(hx:Hf P o e=x) (hg:He P call ext o e h n=match Ri P o e h with
   | some (a,_)=>some (a,[],h,n)
   | none=>none) (hr:Ri P o e h=match Hf P o e with
   | some a=>some (a,[])
   | none=>none):He P call ext o e h n=(fv x).go h n:=by
 rw[hg,hr,hx]
 cases x<;>rfl
theorem Rr(P:Program)(op:BinOp)(ty:TypeId)(x y:Operand)(k k' : IntKind)(n m:Int):Xa op k k' n m=fv (KZ P op ty x y (.int k n) (.int k' m)):=by
 have h1:∀ r:Option AV,FF k k' r=fv (cond (Fm k k') r none):=λ r=>by unfold FF; cases Fm k k' <;> rfl
 cases op<;>first|rfl|exact h1 _
theorem UX(P:Program)(call ext:br)(o:Oper)(e:Tr AV)(h:AH)(n:Nat):(YV o.op P call ext o e h n).go h n=He P call ext o e h n:=by
 have slow:(cL P call ext o e h n).go h n=He P call ext o e h n:=RT _ _ _;obtain⟨dst,op,ty,pos,after,guard⟩:=o;have goS_go:∀ (x:Option (AV×AH)) (m:Nat),(Rf m x).go h n=Mf m x:=λ x m=>by
  cases x with
  | none=>rfl
  | some r=>obtain⟨a,h'⟩:=r; rfl
 cases op with
 | move x =>
  refine Eq.trans ?_ (iV (x:=fN e x) rfl rfl rfl).symm;show(fv (Tu x e)).go h n=_;rw[zP]
 | assign x =>
  refine Eq.trans ?_ (iV (x:=fN e x) rfl rfl rfl).symm;show(fv (Tu x e)).go h n=_;rw[zP]
 | pick c a b =>
  refine Eq.trans ?_ (iV (x:=_) rfl rfl rfl).symm;show(bK c e (TX a b e)).go h n=_;rw[bS];simp only[Hf]
  cases hc:fN e c with
  | none=>rfl
  | some v=>cases v<;>first|rfl|(show(fv (Tu _ e)).go h n=_; rw[zP])
 | nilCheck x =>
  refine Eq.trans ?_ (iV (x:=_) rfl rfl rfl).symm;show(bK x e Xq).go h n=_;rw[bS];simp only[Hf]
  cases hc:fN e x with
  | none=>rfl
  | some v=>cases v<;>rfl
 | load t x =>
  show(bK x e λ a=>W7 (U6 P t a h)).go h n=_;rw[bS];show _=match Ri P ⟨dst,.load t x,ty,pos,after,guard⟩ e h with
   | some (a,_)=>some (a,[],h,n)
   | none=>none
  simp only[Ri]
  cases hc:fN e x with
  | none=>rfl
  | some v =>
   simp only
   cases hl:U6 P t v h with
   | none=>rfl
   | some r=>obtain⟨a,ds⟩:=r; rfl
 | fieldAddr t x f =>
  refine Eq.trans ?_ (iV (x:=_) rfl rfl rfl).symm;show(Option.rec (motive:=λ _=>SR) .no (λ off=>bK x e (VP off)) (K1 P t f):SR).go h n=_;simp only[Hf]
  cases ho:K1 P t f with
  | none=>rfl
  | some off =>
   show(bK x e (VP off)).go h n=_;rw[bS]
   cases hc:fN e x with
   | none=>rfl
   | some v=>cases v<;>rfl
 | field t x f =>
  refine Eq.trans ?_ (iV (x:=_) rfl rfl rfl).symm;show(bK x e λ a=>fv (Nq P t a f)).go h n=_;rw[bS];simp only[Hf]
  cases hc:fN e x<;>rfl
 | extract x i =>
  refine Eq.trans ?_ (iV (x:=_) rfl rfl rfl).symm;show(bK x e (X6 i)).go h n=_;rw[bS];simp only[Hf]
  cases hc:fN e x with
  | none=>rfl
  | some v=>cases v<;>rfl
 | binOp op t x y yt =>
  refine Eq.trans ?_ (iV (x:=_) rfl rfl rfl).symm;show(bK x e λ a=>bK y e (Te P op t x y a)).go h n=_;rw[bS];simp only[Hf]
  cases hc:fN e x with
  | none=>rfl
  | some a =>
   simp only;rw[bS]
   cases hd:fN e y with
   | none=>rfl
   | some b =>
    simp only
    congr 1
    cases b<;>first|rfl|skip
    rename_i k' m
    cases a<;>first|rfl|exact Rr P op t x y _ _ _ _
 | index t x i =>
  refine Eq.trans ?_ (iV (x:=_) rfl rfl rfl).symm;show(bK x e λ a=>bK i e λ b=>fv (Nr P t a b)).go h n=_;rw[bS];simp only[Hf]
  cases hc:fN e x with
  | none=>rfl
  | some a =>
   simp only;rw[bS]
   cases hd:fN e i<;>rfl
 | indexAddr t x i =>
  refine Eq.trans ?_ (iV (x:=_) rfl rfl rfl).symm;show(bK x e λ a=>bK i e λ b=>fv (Nt P t a b)).go h n=_;rw[bS];simp only[Hf]
  cases hc:fN e x with
  | none=>rfl
  | some a =>
   simp only;rw[bS]
   cases hd:fN e i<;>rfl
 | store t x v =>
  show(bK x e λ p=>bK v e λ a=>WZ n (K3 P t p a h)).go h n=_;rw[bS];simp only[He]
  cases hc:fN e x with
  | none=>rfl
  | some a =>
   simp only;rw[bS]
   cases hd:fN e v with
   | none=>rfl
   | some b =>
    simp only
    cases K3 P t a b h<;>rfl
 | alloc T =>
  show(Option.rec (motive:=λ _=>SR) .no (λ z=>Rf (Nat.succ n) (Fz T z h n)) (xJ P T):SR).go h n=_;simp only[He]
  cases hz:xJ P T with
  | none=>rfl
  | some z=>exact goS_go _ _
 | box T x =>
  show(bK x e λ a=>Rf (Nat.succ n) (Fz T a h n)).go h n=_;rw[bS];simp only[He]
  cases hc:fN e x with
  | none=>rfl
  | some a=>exact goS_go _ _
 | build t ps =>
  refine Eq.trans ?_ (iV (x:=_) rfl rfl rfl).symm;show(Option.rec (motive:=λ _=>SR) .no (λ l=>fv (Nn P t l)) (xO e ps.toList):SR).go h n=_;simp only[Hf]
  cases hc:xO e ps.toList<;>rfl
 | buildSlice t len ps =>
  show(Option.rec (motive:=λ _=>SR) .no (λ l=>Rf (Nat.succ n) (No P t len l h n)) (xO e ps.toList):SR).go h n=_;simp only[He]
  cases hc:xO e ps.toList with
  | none=>rfl
  | some l=>exact goS_go _ _
 | call c =>
  obtain⟨callee,args,tys⟩:=c
  cases callee with
  | value f =>
   show(bK f e λ a=>Option.rec (motive:=λ _=>SR) .no (λ az=>WW P call ext az h n a) (lF e args.toList)).go h n=_;rw[bS];simp only[He]
   cases hc:fN e f with
   | none=>rfl
   | some a =>
    cases hl:lF e args.toList with
    | none=>cases a<;>rfl
    | some az =>
     cases a<;>first|rfl|skip
     rename_i g xs ys;show(WX (cond (bU P g) (call g (xs++az++ys) h n) (ext g (xs++az++ys) h n))).go h n=_;simp only
     cases (cond (bU P g) (call g (xs++az++ys) h n) (ext g (xs++az++ys) h n)) with
     | none=>rfl
     | some r=>obtain⟨r1,r2,r3⟩:=r; rfl
  | invoke r m=>exact slow
  | builtin b =>
   cases b<;>first|exact slow|skip
   ·show(Option.rec (motive:=λ _=>SR) .no (WS P tys h n) (lF e args.toList):SR).go h n=_;simp only[He]
    cases hl:lF e args.toList with
    | none=>rfl
    | some l =>
     match l with
     | []=>rfl
     | [_]=>rfl
     | [s,x]=>cases x<;>exact goS_go _ _
     | _ :: _ :: _ :: _=>rfl
   ·refine Eq.trans ?_ (iV (x:=_) rfl rfl rfl).symm;show(Xh P e tys args.toList).go h n=_;simp only[Hf];generalize args.toList=l
    match l with
    | []=>rfl
    | _ :: _ :: _=>rfl
    | [x] =>
     show(Option.rec (motive:=λ _=>SR) .no (λ ty=>bK x e λ a=>fv (K0 P ty a)) tys[0]? : SR).go h n=_
     cases ht:tys[0]? with
     | none=>rfl
     | some t =>
      show(bK x e λ a=>fv (K0 P t a)).go h n=_;rw[bS];simp only
      cases hc:fN e x<;>rfl
 | _=>exact slow
abbrev Sq:=Tr AV->List AD->AH->Nat->GS
def Is(N:Nat)(e:Tr AV)(d:Option Nat)(v:AV)(k:Tr AV->GS):GS :=
 Option.rec (motive:=λ _=>GS) (k e) (λ i=>Bool.rec (motive:=λ _=>GS) .no (k (e.put i v)) (Nat.ble (Nat.succ i) N)) d
theorem Eg(N:Nat)(e:Tr AV)(d:Option Nat)(v:AV)(k:Tr AV->GS):Is N e d v k=match xQ N e d v with
  | some e=>k e
  | none=>.no:=by
 cases d with
 | none=>rfl
 | some i =>
  have h1:xQ N e (some i) v=cond (Nat.ble (Nat.succ i) N) (some (e.put i v)) none:=rfl;rw[h1];show Bool.rec (motive:=λ _=>GS) .no (k (e.put i v)) (Nat.ble (Nat.succ i) N)=_
  cases Nat.ble (Nat.succ i) N<;>rfl
def Ye(P:Program)(call ext:br)(N:Nat)(o:Oper)(ih:Sq)(e:Tr AV)(d:List AD)(h:AH)(n:Nat):GS :=
 SR.rec (motive:=λ _=>GS) .no (λ a=>Is N e o.dst a λ e=>ih e d h n) (λ a ds h n=>Is N e o.dst a λ e=>ih e (ds++d) h n) (YV o.op P call ext o e h n)
def YR(P:Program)(call ext:br)(N:Nat)(ops:Array Oper)(o:Oper)(ih:Sq)(e:Tr AV)(d:List AD)(h:AH)(n:Nat):GS:=match nh ops e o with
 | some true=>Ye P call ext N o ih e d h n
 | some false=>Is N e o.dst (.tup []) λ e=>ih e d h n
 | none=>.no
def UW(P:Program)(call ext:br)(N:Nat)(ops:Array Oper)(o:Oper)(ih:Sq)(e:Tr AV)(d:List AD)(h:AH)(n:Nat):GS :=
 Option.rec (motive:=λ _=>GS) (Ye P call ext N o ih e d h n) (λ _=>YR P call ext N ops o ih e d h n) o.guard
def DO(P:Program)(call ext:br)(N:Nat)(ops:Array Oper)(l:List Oper):Sq :=
 List.rec (motive:=λ _=>Sq) GS.ok (λ o _ ih=>UW P call ext N ops o ih) l
theorem Jr(P:Program)(call ext:br)(N:Nat)(ops:Array Oper):∀ (l:List Oper) (e:Tr AV) (d:List AD) (h:AH) (n:Nat),DO P call ext N ops l e d h n=zV P call ext N ops l e d h n
 | [],e,d,h,n=>rfl
 | o :: l,e,d,h,n=>by
  have ih:=Jr P call ext N ops l;have hdo:∀ e d h n,Ye P call ext N o (DO P call ext N ops l) e d h n=match He P call ext o e h n with
    | some (a,ds,h',n')=>match xQ N e o.dst a with
     | some e'=>zV P call ext N ops l e' (ds++d) h' n'
     | none=>.no
    | none=>.no:=λ e d h n=>by
   rw[<- UX];unfold Ye
   cases YV o.op P call ext o e h n with
   | no=>rfl
   | val a =>
    show Is N e o.dst a (λ e=>DO P call ext N ops l e d h n)=_;rw[Eg];simp only[SR.go,List.nil_append,ih]
   | eff a ds h' n' =>
    show Is N e o.dst a (λ e=>DO P call ext N ops l e (ds++d) h' n')=_;rw[Eg];simp only[SR.go,ih]
  show UW P call ext N ops o (DO P call ext N ops l) e d h n=_;unfold UW zV
  cases hg:o.guard with
  | none =>
   have:nh ops e o=some true:=by unfold nh; rw[hg]
   rw[this];exact hdo e d h n
  | some g =>
   show YR P call ext N ops o (DO P call ext N ops l) e d h n=_;unfold YR
   cases hq:nh ops e o with
   | none=>rfl
   | some b =>
    cases b with
    | true=>exact hdo e d h n
    | false =>
     show Is N e o.dst (.tup []) (λ e=>DO P call ext N ops l e d h n)=_;rw[Eg];simp only[ih]
     cases xQ N e o.dst (.tup [])<;>rfl
abbrev Cd:=Tr AV->List AD->AH->Nat->GR
def Xn(e:Tr AV)(d:List AD)(h:AH)(n:Nat):GR:=.ok .normal e d h n
def Vz(e:Tr AV)(d:List AD)(h:AH)(n:Nat):GR:=.ok .ret e d h n
def Yj(i:Nat)(e:Tr AV)(d:List AD)(h:AH)(n:Nat):GR:=.ok (.exit i) e d h n
def Zh(l:Nat)(e:Tr AV)(d:List AD)(h:AH)(n:Nat):GR:=.ok (.goto l) e d h n
def Xm(_:Tr AV)(_:List AD)(_:AH)(_:Nat):GR:=.no
def Yy(kb:Cd)(x:GE):Cd:=GE.rec (motive:=λ _=>Cd) kb Yj Vz Zh x
def KM(fa fb:Cd)(e:Tr AV)(d:List AD)(h:AH)(n:Nat):GR:=GR.rec (motive:=λ _=>GR) .no (Yy fb) (fa e d h n)
def YB(fa fb:Cd)(e:Tr AV)(d:List AD)(h:AH)(n:Nat):AV->GR
 | .bool x=>Bool.rec (motive:=λ _=>GR) (fb e d h n) (fa e d h n) x
 | _=>.no
def UA(c:Operand)(fa fb:Cd)(e:Tr AV)(d:List AD)(h:AH)(n:Nat):GR:=Option.rec (motive:=λ _=>GR) .no (YB fa fb e d h n) (Tu c e)
def Yx(id i:Nat)(e:Tr AV)(d:List AD)(h:AH)(n:Nat):GR:=Bool.rec (motive:=λ _=>GR) (Yj i e d h n) (Xn e d h n) (Nat.beq i id)
def Uz(id:Nat)(fa:Cd)(e:Tr AV)(d:List AD)(h:AH)(n:Nat):GR:=GR.rec (motive:=λ _=>GR) .no (GE.rec (motive:=λ _=>Cd) Xn (Yx id) Vz Zh) (fa e d h n)
def MI(fa:Cd)(F:Nat):Cd:=Nat.rec (motive:=λ _=>Cd) Xm (λ _ ih=>KM fa ih) F
def YA(P:Program)(call ext:br)(N:Nat)(ops:Array Oper)(draw:Bool):Cd :=
 Bool.rec (motive:=λ _=>Cd) (λ e d h n=>(DO P call ext N ops ops.toList e d h n).Yo)
  (λ e d h n=>cond (and (P.follows .mixedOrders) (and (Region.noSelect ops) (dc ops.toList)))
    ((fq P call ext N ops (th ops) n ops.size (Array.replicate ops.size false) [] e h n).Zz d (th ops)) .no) draw
def cZ(P:Program)(call ext:br)(N F:Nat)(sc:Code->Cd)(c:Code):Cd :=
 Code.rec (motive:=λ _=>Cd) Xn (λ _ ops draw=>YA P call ext N ops draw) (λ _ _ ia ib=>KM ia ib) (λ c _ _ ia ib=>UA c ia ib) (λ id _ ia=>Uz id ia) (λ _ ia=>MI ia F)
  (λ _ _ _ _ _ _=>Xm) Yj (λ c _=>sc c) (λ _=>Xn) Zh Vz (λ _=>Xm) c
def Tt(P:Program)(call ext:br)(F:Nat):oU:=λ N c=>cZ P call ext N F (λ c=>vV (cZ P call ext N F (λ _=>Xm)) c F c) c
theorem Vy(P:Program)(w0:World)(N:Nat)(c:Code):kW P w0 N Xm c:=by intro e e' d d' h h' n n' x hg; cases hg
theorem Jc(fa fb:Cd)(e:Tr AV)(d:List AD)(h:AH)(n:Nat):KM fa fb e d h n=match fa e d h n with
   | .ok .normal e d h n=>fb e d h n
   | r=>r:=by
 unfold KM
 cases fa e d h n with
 | no=>rfl
 | ok x e d h n=>cases x<;>rfl
theorem E8(fa:Cd):∀ (F:Nat),MI fa F=xe fa F
 | 0=>by funext e d h n; rfl
 | F+1=>by
  funext e d h n
  show KM fa (MI fa F) e d h n=_;rw[Jc,E8 fa F];simp only[xe]
  cases fa e d h n with
  | no=>rfl
  | ok x e d h n=>cases x<;>rfl
theorem B3{P:Program}{w0:World}{call ext:br}(hcall:jy P w0 call)(hext:EU P w0 ext){N F:Nat}{sc:Code->Cd}(hsc:∀ c,kW P w0 N (sc c) (.scope c))(c:Code):kW P w0 N (cZ P call ext N F sc c) c:=by
 induction c with
 | skip=>intro e e' d d' h h' n n' x hg ρ t dd w hs; cases hg; exact wpIn_skip (Out.mk hs)
 | label l=>intro e e' d d' h h' n n' x hg ρ t dd w hs; cases hg; exact wpIn_label (Out.mk hs)
 | exit i=>intro e e' d d' h h' n n' x hg ρ t dd w hs; cases hg; exact wpIn_exit (Out.mk hs)
 | goto l=>intro e e' d d' h h' n n' x hg ρ t dd w hs; cases hg; exact wpIn_goto (Out.mk hs)
 | ret=>intro e e' d d' h h' n n' x hg ρ t dd w hs; cases hg; exact wpIn_ret (Out.mk hs)
 | region id ops draw =>
  cases draw with
  | false =>
   intro e e' d d' h h' n n' x hg ρ t dd w hs;have hg:(DO P call ext N ops ops.toList e d h n).Yo=.ok x e' d' h' n':=hg;rw[Jr] at hg;exact LI (id:=id) hcall hext (N:=N) (ops:=ops) hg hs
  | true=>exact Qy (id:=id) hcall hext (N:=N) (ops:=ops)
 | seq a b iha ihb =>
  intro e e' d d' h h' n n' x hg ρ t dd w hs;have hg:KM (cZ P call ext N F sc a) (cZ P call ext N F sc b) e d h n=.ok x e' d' h' n':=hg;rw[Jc] at hg;exact V5 (n:=n) (fa:=cZ P call ext N F sc a) (fb:=cZ P call ext N F sc b) iha ihb hg hs
 | cond c a b iha ihb =>
  intro e e' d d' h h' n n' x hg ρ t dd w hs;have hg:UA c (cZ P call ext N F sc a) (cZ P call ext N F sc b) e d h n=.ok x e' d' h' n':=hg;refine Qp (n:=n) (n':=n') (fa:=cZ P call ext N F sc a) (fb:=cZ P call ext N F sc b) iha ihb ?_ hs;rw[<- hg];unfold UA;rw[zP];show(match fN e c with
   | some (.bool x)=>cond x (cZ P call ext N F sc a e d h n) (cZ P call ext N F sc b e d h n)
   | _=>GR.no)=_
  cases fN e c with
  | none=>rfl
  | some v=>cases v<;>first|rfl|(rename_i t; cases t<;>rfl)
 | block id c ih =>
  intro e e' d d' h h' n n' x hg ρ t dd w hs;have hg:Uz id (cZ P call ext N F sc c) e d h n=.ok x e' d' h' n':=hg;refine MF (n:=n) (n':=n') (fc:=cZ P call ext N F sc c) ih ?_ hs;rw[<- hg];unfold Uz;show(match cZ P call ext N F sc c e d h n with
   | GR.ok (GE.exit i) e d h n=>cond (Nat.beq i id) (GR.ok GE.normal e d h n) (GR.ok (GE.exit i) e d h n)
   | r=>r)=_
  cases cZ P call ext N F sc c e d h n with
  | no=>rfl
  | ok x e d h n =>
   cases x with
   | exit i =>
    show cond (Nat.beq i id) _ _=Bool.rec (motive:=λ _=>GR) (Yj i e d h n) (Xn e d h n) (Nat.beq i id)
    cases Nat.beq i id<;>rfl
   | _=>rfl
 | loop c ih =>
  have:cZ P call ext N F sc (.loop c)=xe (cZ P call ext N F sc c) F:=E8 _ _;rw[this];exact @RG P w0 N F (cZ P call ext N F sc c) c ih
 | rangeFunc f ps a b _ _=>intro e e' d d' h h' n n' x hg; cases hg
 | scope c _=>exact hsc c
 | refuse s=>intro e e' d d' h h' n n' x hg; cases hg
theorem Ni{P:Program}{w0:World}{call ext:br}(hcall:jy P w0 call)(hext:EU P w0 ext){F:Nat}(N:Nat)(c:Code):kW P w0 N (Tt P call ext F N c) c :=
 B3 hcall hext (λ c=>OX (λ c=>B3 hcall hext (λ c=>@Vy P w0 N (.scope c)) c) c) c
def Ts(P:Program)(ext:br)(F:Nat)(k:Nat):br:=Np P (λ call=>Tt P call ext F) k
theorem Nh{P:Program}{w0:World}{ext:br}(hext:EU P w0 ext){F:Nat}(k:Nat):jy P w0 (Ts P ext F k) :=
 Fx (λ _ hcall=>Ni hcall hext) k
