import Derived.Test.YtjpbdjhaajdepaaGreatDoorM37
set_option linter.unusedVariables false
set_option maxRecDepth 100000
noncomputable section
namespace Go.Gx
open Go Go.Vc
inductive SR where
  | no
  | val (a:AV)
  | eff (a:AV) (d:List AD) (h:AH) (n:Nat)
def SR.go(h:AH)(n:Nat):SR->GO
  | .no=>none
  | .val a=>some (a,[],h,n)
  | .eff a d h n=>some (a,d,h,n)
def S6:GO->SR
  | none=>.no
  | some (a,d,h,n)=>.eff a d h n
theorem N3(g:GO)(h:AH)(n:Nat):(S6 g).go h n=g:=by
  cases g with
  | none=>rfl
  | some r=>obtain⟨a,d,h',n'⟩:=r; rfl
abbrev um:=Program->aY->aY->Oper->Tr AV->AH->Nat->SR
def bZ:um:=λ P call ext o e h n=>S6 (EM P call ext o e h n)
def fv(x:Option AV):SR:=Option.rec (motive:=λ _=>SR) .no .val x
def US(i:Nat)(e:Tr AV):Option AV:=e.get i
def UP(v:Value)(_:Tr AV):Option AV:=S8 v
def UR(_:Nat)(_:Tr AV):Option AV:=none
def UQ(f:FuncId)(_:Tr AV):Option AV:=some (.fn f [] [])
def Ph(x:Operand):Tr AV->Option AV:=Operand.rec (motive:=λ _=>Tr AV->Option AV) US UP UR UQ x
theorem yw(x:Operand)(e:Tr AV):Ph x e=eW e x:=by cases x<;>rfl
def bB(x:Operand)(e:Tr AV)(k:AV->SR):SR:=Option.rec (motive:=λ _=>SR) .no k (Ph x e)
def Pe(x:Operand):um:=λ _ _ _ _ e _ _=>fv (Ph x e)
def PI(a b:Operand)(e:Tr AV):AV->SR
  | .bool t=>fv (Ph (cond t a b) e)
  | _=>.no
def SI(c a b:Operand):um:=λ _ _ _ _ e _ _=>bB c e (PI a b e)
def S5:AV->SR
  | .ptr i j=>.val (.ptr i j)
  | _=>.no
def Us(x:Operand):um:=λ _ _ _ _ e _ _=>bB x e S5
def SM(x:Option (AV×List ER)):SR:=Option.rec (motive:=λ _=>SR) .no (λ r=>.val r.1) x
def SH(ty:TypeId)(x:Operand):um:=λ P _ _ _ e h _=>bB x e λ a=>SM (QH P ty a h)
def Rq(off:Nat):AV->SR
  | .ptr i j=>.val (.ptr i (Nat.add j off))
  | _=>.no
def SF(ty:TypeId)(x:Operand)(f:Nat):um:=λ P _ _ _ e _ _=>Option.rec (motive:=λ _=>SR) .no (λ off=>bB x e (Rq off)) (Ig P ty f)
def Uo(ty:TypeId)(x:Operand)(f:Nat):um:=λ P _ _ _ e _ _=>bB x e λ a=>fv (Kb P ty a f)
def TD(i:Nat):AV->SR
  | .tup vs=>fv (nP vs i)
  | _=>.no
def Un(x:Operand)(i:Nat):um:=λ _ _ _ _ e _ _=>bB x e (TD i)
def DH(k k' : IntKind)(r:Option AV):SR:=Bool.rec (motive:=λ _=>SR) .no (fv r) (Dp k k')
def Uw(k k' : IntKind)(a b:Int):SR:=DH k k' (some (BS k (iu k (Int.add a b))))
def UJ(k k' : IntKind)(a b:Int):SR:=DH k k' (some (BS k (iu k (Int.sub a b))))
def UD(k k' : IntKind)(a b:Int):SR:=DH k k' (some (BS k (iu k (Int.mul a b))))
def UF(k k' : IntKind)(a b:Int):SR:=DH k k' (BV .quo k a b)
def UG(k k' : IntKind)(a b:Int):SR:=DH k k' (BV .rem k a b)
def Ux(k k' : IntKind)(a b:Int):SR:=DH k k' (BV .and k a b)
def Vh(k k' : IntKind)(a b:Int):SR:=DH k k' (BV .or k a b)
def UK(k k' : IntKind)(a b:Int):SR:=DH k k' (BV .xor k a b)
def UH(k _k' : IntKind)(a b:Int):SR:=fv (Ih .shl k a b)
def UI(k _k' : IntKind)(a b:Int):SR:=fv (Ih .shr k a b)
def NG(k k' : IntKind)(a b:Int):SR:=DH k k' (BV .andNot k a b)
def Uy(k k' : IntKind)(a b:Int):SR:=DH k k' (some (.bool (Jj a b)))
def UE(k k' : IntKind)(a b:Int):SR:=DH k k' (some (.bool (not (Jj a b))))
def UC(k k' : IntKind)(a b:Int):SR:=DH k k' (some (.bool (not (DI b a))))
def UB(k k' : IntKind)(a b:Int):SR:=DH k k' (some (.bool (DI a b)))
def UA(k k' : IntKind)(a b:Int):SR:=DH k k' (some (.bool (not (DI a b))))
def Uz(k k' : IntKind)(a b:Int):SR:=DH k k' (some (.bool (DI b a)))
def SP(op:BinOp):IntKind->IntKind->Int->Int->SR :=
  BinOp.rec (motive:=λ _=>IntKind->IntKind->Int->Int->SR) Uw UJ UD UF UG Ux Vh UK UH UI NG Uy UE UC UB UA Uz op
def O8(P:Program)(op:BinOp)(ty:TypeId)(x y:Operand)(a:AV):AV->SR
  | .int k' m=>match a with
    | .int k n=>SP op k k' n m
    | _=>fv (Ic P op ty x y a (.int k' m))
  | b=>fv (Ic P op ty x y a b)
def Ug(op:BinOp)(ty:TypeId)(x y:Operand)(_:TypeId):um:=λ P _ _ _ e _ _=>bB x e λ a=>bB y e (O8 P op ty x y a)
def SG(ty:TypeId)(x i:Operand):um:=λ P _ _ _ e _ _=>bB x e λ a=>bB i e λ b=>fv (Kf P ty a b)
def Uq(ty:TypeId)(x i:Operand):um:=λ P _ _ _ e _ _=>bB x e λ a=>bB i e λ b=>fv (Kc P ty a b)
def SD(n:Nat)(x:Option AH):SR:=Option.rec (motive:=λ _=>SR) .no (λ h=>.eff (.tup []) [] h n) x
def Uu(ty:TypeId)(x v:Operand):um:=λ P _ _ _ e h n=>bB x e λ p=>bB v e λ a=>SD n (Ii P ty p a h)
def Nv(n:Nat)(x:Option (AV×AH)):SR:=Option.rec (motive:=λ _=>SR) .no (λ r=>.eff r.1 [] r.2 n) x
def Ue(T:TypeId):um:=λ P _ _ _ _ h n=>Option.rec (motive:=λ _=>SR) .no (λ z=>Nv (Nat.succ n) (DB T z h n)) (wm P T)
def Ui(T:TypeId)(x:Operand):um:=λ _ _ _ _ e h n=>bB x e λ a=>Nv (Nat.succ n) (DB T a h n)
def Uk(ty:TypeId)(ps:Array (Nat×Operand)):um:=λ P _ _ _ e _ _=>Option.rec (motive:=λ _=>SR) .no (λ l=>fv (J8 P ty l)) (wv e ps.toList)
def Uj(ty:TypeId)(len:Nat)(ps:Array (Nat×Operand)):um:=λ P _ _ _ e h n=>Option.rec (motive:=λ _=>SR) .no (λ l=>Nv (Nat.succ n) (J9 P ty len l h n)) (wv e ps.toList)
def SB(x:Option (AV×AH×Nat)):SR:=Option.rec (motive:=λ _=>SR) .no (λ r=>.eff r.1 [] r.2.1 r.2.2) x
def SA(P:Program)(call ext:aY)(az:List AV)(h:AH)(n:Nat):AV->SR
  | .fn g xs ys=>SB (cond (bM P g) (call g (xs++az++ys) h n) (ext g (xs++az++ys) h n))
  | _=>.no
def SE(f:Operand)(args:Array Operand)(_:Array TypeId):um:=λ P call ext _ e h n =>
  bB f e λ a=>Option.rec (motive:=λ _=>SR) .no (λ az=>SA P call ext az h n a) (kG e args.toList)
def SW(P:Program)(e:Tr AV)(tys:Array TypeId):List Operand->SR
  | [x]=>Option.rec (motive:=λ _=>SR) .no (λ ty=>bB x e λ a=>fv (Ie P ty a)) tys[0]?
  | _=>.no
def Ur(args:Array Operand)(tys:Array TypeId):um:=λ P _ _ _ e _ _=>SW P e tys args.toList
def Ss(P:Program)(tys:Array TypeId)(h:AH)(n:Nat):List AV->SR
  | [s,x]=>match x with
    | .str l=>Nv (Nat.succ n) (Nc P tys.toList s l h n)
    | x=>Nv (Nat.succ n) (Na P tys.toList s x h n)
  | _=>.no
def Uf(args:Array Operand)(tys:Array TypeId):um:=λ P _ _ _ e h n=>Option.rec (motive:=λ _=>SR) .no (Ss P tys h n) (kG e args.toList)
def dh(_:Array Operand)(_:Array TypeId):um:=bZ
def Uh(b:Builtin):Array Operand->Array TypeId->um :=
  Builtin.rec (motive:=λ _=>Array Operand->Array TypeId->um) Uf dh dh dh dh dh dh dh Ur dh dh dh dh dh dh dh dh dh dh dh dh dh dh dh dh dh b
def Ts(_:Operand)(_:String)(_:Array Operand)(_:Array TypeId):um:=bZ
def Um(c:Callee):Array Operand->Array TypeId->um:=Callee.rec (motive:=λ _=>Array Operand->Array TypeId->um) SE Ts Uh c
def Ul(c:Call):um:=Um c.callee c.args c.argTypes
def Ut(o:Op):um :=
  Op.rec (motive:=λ _=>um)
    Pe Pe SI Ue Ui Uk Uj (λ _ _ _ _=>bZ) SH Uu (λ _=>bZ) (λ _=>bZ) Us Ug (λ _ _ _=>bZ) (λ _ _ _=>bZ) (λ _ _=>bZ) (λ _ _=>bZ)
    (λ _ _ _=>bZ) (λ _ _=>bZ) (λ _ _=>bZ) (λ _ _ _=>bZ) (λ _ _ _ _ _=>bZ) SF Uo SG Uq (λ _ _ _ _=>bZ) (λ _ _ _ _=>bZ) (λ _ _ _=>bZ)
    (λ _ _ _ _=>bZ) (λ _ _=>bZ) (λ _ _=>bZ) (λ _=>bZ) (λ _ _ _ _=>bZ) Un Ul (λ _=>bZ) (λ _=>bZ) (λ _=>bZ) (λ _ _=>bZ) (λ _ _ _=>bZ) (λ _ _=>bZ) o
theorem bI(x:Operand)(e:Tr AV)(k:AV->SR):bB x e k=match eW e x with
    | some a=>k a
    | none=>.no:=by
  unfold bB;rw[yw]
  cases eW e x<;>rfl
theorem ic{P:Program}{call ext:aY}{o:Oper}{e:Tr AV}{h:AH}{n:Nat}{x:Option AV}(hx:EN P o e=x) (hg:EM P call ext o e h n=match Ny P o e h with
      | some (a,_)=>some (a,[],h,n)
      | none=>none) (hr:Ny P o e h=match EN P o e with
      | some a=>some (a,[])
      | none=>none):EM P call ext o e h n=(fv x).go h n:=by
  rw[hg,hr,hx]
  cases x<;>rfl
theorem NH(P:Program)(op:BinOp)(ty:TypeId)(x y:Operand)(k k' : IntKind)(n m:Int):SP op k k' n m=fv (Ic P op ty x y (.int k n) (.int k' m)):=by
  have h1:∀ r:Option AV,DH k k' r=fv (cond (Dp k k') r none):=λ r=>by unfold DH; cases Dp k k' <;> rfl
  cases op<;>first | rfl | exact h1 _
theorem Qy(P:Program)(call ext:aY)(o:Oper)(e:Tr AV)(h:AH)(n:Nat):(Ut o.op P call ext o e h n).go h n=EM P call ext o e h n:=by
  have slow:(bZ P call ext o e h n).go h n=EM P call ext o e h n:=N3 _ _ _;obtain⟨dst,op,ty,pos,after,guard⟩:=o;have goS_go:∀ (x:Option (AV×AH)) (m:Nat),(Nv m x).go h n=Jh m x:=λ x m=>by
    cases x with
    | none=>rfl
    | some r=>obtain⟨a,h'⟩:=r; rfl
  cases op with
  | move x =>
    refine Eq.trans ?_ (ic (x:=eW e x) rfl rfl rfl).symm;show(fv (Ph x e)).go h n=_;rw[yw]
  | assign x =>
    refine Eq.trans ?_ (ic (x:=eW e x) rfl rfl rfl).symm;show(fv (Ph x e)).go h n=_;rw[yw]
  | pick c a b =>
    refine Eq.trans ?_ (ic (x:=_) rfl rfl rfl).symm;show(bB c e (PI a b e)).go h n=_;rw[bI];simp only[EN]
    cases hc:eW e c with
    | none=>rfl
    | some v=>cases v<;>first | rfl | (show(fv (Ph _ e)).go h n=_; rw[yw])
  | nilCheck x =>
    refine Eq.trans ?_ (ic (x:=_) rfl rfl rfl).symm;show(bB x e S5).go h n=_;rw[bI];simp only[EN]
    cases hc:eW e x with
    | none=>rfl
    | some v=>cases v<;>rfl
  | load t x =>
    show(bB x e λ a=>SM (QH P t a h)).go h n=_;rw[bI];show _=match Ny P ⟨dst,.load t x,ty,pos,after,guard⟩ e h with
      | some (a,_)=>some (a,[],h,n)
      | none=>none
    simp only[Ny]
    cases hc:eW e x with
    | none=>rfl
    | some v =>
      simp only
      cases hl:QH P t v h with
      | none=>rfl
      | some r=>obtain⟨a,ds⟩:=r; rfl
  | fieldAddr t x f =>
    refine Eq.trans ?_ (ic (x:=_) rfl rfl rfl).symm;show(Option.rec (motive:=λ _=>SR) .no (λ off=>bB x e (Rq off)) (Ig P t f):SR).go h n=_;simp only[EN]
    cases ho:Ig P t f with
    | none=>rfl
    | some off =>
      show(bB x e (Rq off)).go h n=_;rw[bI]
      cases hc:eW e x with
      | none=>rfl
      | some v=>cases v<;>rfl
  | field t x f =>
    refine Eq.trans ?_ (ic (x:=_) rfl rfl rfl).symm;show(bB x e λ a=>fv (Kb P t a f)).go h n=_;rw[bI];simp only[EN]
    cases hc:eW e x<;>rfl
  | extract x i =>
    refine Eq.trans ?_ (ic (x:=_) rfl rfl rfl).symm;show(bB x e (TD i)).go h n=_;rw[bI];simp only[EN]
    cases hc:eW e x with
    | none=>rfl
    | some v=>cases v<;>rfl
  | binOp op t x y yt =>
    refine Eq.trans ?_ (ic (x:=_) rfl rfl rfl).symm;show(bB x e λ a=>bB y e (O8 P op t x y a)).go h n=_;rw[bI];simp only[EN]
    cases hc:eW e x with
    | none=>rfl
    | some a =>
      simp only;rw[bI]
      cases hd:eW e y with
      | none=>rfl
      | some b =>
        simp only
        congr 1
        cases b<;>first | rfl | skip
        rename_i k' m
        cases a<;>first | rfl | exact NH P op t x y _ _ _ _
  | index t x i =>
    refine Eq.trans ?_ (ic (x:=_) rfl rfl rfl).symm;show(bB x e λ a=>bB i e λ b=>fv (Kc P t a b)).go h n=_;rw[bI];simp only[EN]
    cases hc:eW e x with
    | none=>rfl
    | some a =>
      simp only;rw[bI]
      cases hd:eW e i<;>rfl
  | indexAddr t x i =>
    refine Eq.trans ?_ (ic (x:=_) rfl rfl rfl).symm;show(bB x e λ a=>bB i e λ b=>fv (Kf P t a b)).go h n=_;rw[bI];simp only[EN]
    cases hc:eW e x with
    | none=>rfl
    | some a =>
      simp only;rw[bI]
      cases hd:eW e i<;>rfl
  | store t x v =>
    show(bB x e λ p=>bB v e λ a=>SD n (Ii P t p a h)).go h n=_;rw[bI];simp only[EM]
    cases hc:eW e x with
    | none=>rfl
    | some a =>
      simp only;rw[bI]
      cases hd:eW e v with
      | none=>rfl
      | some b =>
        simp only
        cases Ii P t a b h<;>rfl
  | alloc T =>
    show(Option.rec (motive:=λ _=>SR) .no (λ z=>Nv (Nat.succ n) (DB T z h n)) (wm P T):SR).go h n=_;simp only[EM]
    cases hz:wm P T with
    | none=>rfl
    | some z=>exact goS_go _ _
  | box T x =>
    show(bB x e λ a=>Nv (Nat.succ n) (DB T a h n)).go h n=_;rw[bI];simp only[EM]
    cases hc:eW e x with
    | none=>rfl
    | some a=>exact goS_go _ _
  | build t ps =>
    refine Eq.trans ?_ (ic (x:=_) rfl rfl rfl).symm;show(Option.rec (motive:=λ _=>SR) .no (λ l=>fv (J8 P t l)) (wv e ps.toList):SR).go h n=_;simp only[EN]
    cases hc:wv e ps.toList<;>rfl
  | buildSlice t len ps =>
    show(Option.rec (motive:=λ _=>SR) .no (λ l=>Nv (Nat.succ n) (J9 P t len l h n)) (wv e ps.toList):SR).go h n=_;simp only[EM]
    cases hc:wv e ps.toList with
    | none=>rfl
    | some l=>exact goS_go _ _
  | call c =>
    obtain⟨callee,args,tys⟩:=c
    cases callee with
    | value f =>
      show(bB f e λ a=>Option.rec (motive:=λ _=>SR) .no (λ az=>SA P call ext az h n a) (kG e args.toList)).go h n=_;rw[bI];simp only[EM]
      cases hc:eW e f with
      | none=>rfl
      | some a =>
        cases hl:kG e args.toList with
        | none=>cases a<;>rfl
        | some az =>
          cases a<;>first | rfl | skip
          rename_i g xs ys;show(SB (cond (bM P g) (call g (xs++az++ys) h n) (ext g (xs++az++ys) h n))).go h n=_;simp only
          cases (cond (bM P g) (call g (xs++az++ys) h n) (ext g (xs++az++ys) h n)) with
          | none=>rfl
          | some r=>obtain⟨r1,r2,r3⟩:=r; rfl
    | invoke r m=>exact slow
    | builtin b =>
      cases b<;>first | exact slow | skip
      · show(Option.rec (motive:=λ _=>SR) .no (Ss P tys h n) (kG e args.toList):SR).go h n=_;simp only[EM]
        cases hl:kG e args.toList with
        | none=>rfl
        | some l =>
          match l with
          | []=>rfl
          | [_]=>rfl
          | [s,x]=>cases x<;>exact goS_go _ _
          | _ :: _ :: _ :: _=>rfl
      · refine Eq.trans ?_ (ic (x:=_) rfl rfl rfl).symm;show(SW P e tys args.toList).go h n=_;simp only[EN];generalize args.toList=l
        match l with
        | []=>rfl
        | _ :: _ :: _=>rfl
        | [x] =>
          show(Option.rec (motive:=λ _=>SR) .no (λ ty=>bB x e λ a=>fv (Ie P ty a)) tys[0]? : SR).go h n=_
          cases ht:tys[0]? with
          | none=>rfl
          | some t =>
            show(bB x e λ a=>fv (Ie P t a)).go h n=_;rw[bI];simp only
            cases hc:eW e x<;>rfl
  | _=>exact slow
abbrev Sq:=Tr AV->List AD->AH->Nat->GS
def FK(N:Nat)(e:Tr AV)(d:Option Nat)(v:AV)(k:Tr AV->GS):GS :=
  Option.rec (motive:=λ _=>GS) (k e) (λ i=>Bool.rec (motive:=λ _=>GS) .no (k (e.put i v)) (Nat.ble (Nat.succ i) N)) d
theorem Cm(N:Nat)(e:Tr AV)(d:Option Nat)(v:AV)(k:Tr AV->GS):FK N e d v k=match wA N e d v with
    | some e=>k e
    | none=>.no:=by
  cases d with
  | none=>rfl
  | some i =>
    have h1:wA N e (some i) v=cond (Nat.ble (Nat.succ i) N) (some (e.put i v)) none:=rfl;rw[h1];show Bool.rec (motive:=λ _=>GS) .no (k (e.put i v)) (Nat.ble (Nat.succ i) N)=_
    cases Nat.ble (Nat.succ i) N<;>rfl
def TM(P:Program)(call ext:aY)(N:Nat)(o:Oper)(ih:Sq)(e:Tr AV)(d:List AD)(h:AH)(n:Nat):GS :=
  SR.rec (motive:=λ _=>GS) .no (λ a=>FK N e o.dst a λ e=>ih e d h n) (λ a ds h n=>FK N e o.dst a λ e=>ih e (ds++d) h n) (Ut o.op P call ext o e h n)
def Up(P:Program)(call ext:aY)(N:Nat)(ops:Array Oper)(o:Oper)(ih:Sq)(e:Tr AV)(d:List AD)(h:AH)(n:Nat):GS:=match mw ops e o with
  | some true=>TM P call ext N o ih e d h n
  | some false=>FK N e o.dst (.tup []) λ e=>ih e d h n
  | none=>.no
def Qx(P:Program)(call ext:aY)(N:Nat)(ops:Array Oper)(o:Oper)(ih:Sq)(e:Tr AV)(d:List AD)(h:AH)(n:Nat):GS :=
  Option.rec (motive:=λ _=>GS) (TM P call ext N o ih e d h n) (λ _=>Up P call ext N ops o ih e d h n) o.guard
def BR(P:Program)(call ext:aY)(N:Nat)(ops:Array Oper)(l:List Oper):Sq :=
  List.rec (motive:=λ _=>Sq) GS.ok (λ o _ ih=>Qx P call ext N ops o ih) l
theorem GB(P:Program)(call ext:aY)(N:Nat)(ops:Array Oper):∀ (l:List Oper) (e:Tr AV) (d:List AD) (h:AH) (n:Nat),BR P call ext N ops l e d h n=yA P call ext N ops l e d h n
  | [],e,d,h,n=>rfl
  | o :: l,e,d,h,n=>by
    have ih:=GB P call ext N ops l;have hdo:∀ e d h n,TM P call ext N o (BR P call ext N ops l) e d h n=match EM P call ext o e h n with
        | some (a,ds,h',n')=>match wA N e o.dst a with
          | some e'=>yA P call ext N ops l e' (ds++d) h' n'
          | none=>.no
        | none=>.no:=λ e d h n=>by
      rw[<- Qy];unfold TM
      cases Ut o.op P call ext o e h n with
      | no=>rfl
      | val a =>
        show FK N e o.dst a (λ e=>BR P call ext N ops l e d h n)=_;rw[Cm];simp only[SR.go,List.nil_append,ih]
      | eff a ds h' n' =>
        show FK N e o.dst a (λ e=>BR P call ext N ops l e (ds++d) h' n')=_;rw[Cm];simp only[SR.go,ih]
    show Qx P call ext N ops o (BR P call ext N ops l) e d h n=_;unfold Qx yA
    cases hg:o.guard with
    | none =>
      have:mw ops e o=some true:=by unfold mw; rw[hg]
      rw[this];exact hdo e d h n
    | some g =>
      show Up P call ext N ops o (BR P call ext N ops l) e d h n=_;unfold Up
      cases hq:mw ops e o with
      | none=>rfl
      | some b =>
        cases b with
        | true=>exact hdo e d h n
        | false =>
          show FK N e o.dst (.tup []) (λ e=>BR P call ext N ops l e d h n)=_;rw[Cm];simp only[ih]
          cases wA N e o.dst (.tup [])<;>rfl
abbrev Cd:=Tr AV->List AD->AH->Nat->GR
def SZ(e:Tr AV)(d:List AD)(h:AH)(n:Nat):GR:=.ok .normal e d h n
def Rb(e:Tr AV)(d:List AD)(h:AH)(n:Nat):GR:=.ok .ret e d h n
def TR(i:Nat)(e:Tr AV)(d:List AD)(h:AH)(n:Nat):GR:=.ok (.exit i) e d h n
def UO(l:Nat)(e:Tr AV)(d:List AD)(h:AH)(n:Nat):GR:=.ok (.goto l) e d h n
def SY(_:Tr AV)(_:List AD)(_:AH)(_:Nat):GR:=.no
def T6(kb:Cd)(x:GE):Cd:=GE.rec (motive:=λ _=>Cd) kb TR Rb UO x
def HW(fa fb:Cd)(e:Tr AV)(d:List AD)(h:AH)(n:Nat):GR:=GR.rec (motive:=λ _=>GR) .no (T6 fb) (fa e d h n)
def T9(fa fb:Cd)(e:Tr AV)(d:List AD)(h:AH)(n:Nat):AV->GR
  | .bool x=>Bool.rec (motive:=λ _=>GR) (fb e d h n) (fa e d h n) x
  | _=>.no
def Qe(c:Operand)(fa fb:Cd)(e:Tr AV)(d:List AD)(h:AH)(n:Nat):GR:=Option.rec (motive:=λ _=>GR) .no (T9 fa fb e d h n) (Ph c e)
def T5(id i:Nat)(e:Tr AV)(d:List AD)(h:AH)(n:Nat):GR:=Bool.rec (motive:=λ _=>GR) (TR i e d h n) (SZ e d h n) (Nat.beq i id)
def Qd(id:Nat)(fa:Cd)(e:Tr AV)(d:List AD)(h:AH)(n:Nat):GR:=GR.rec (motive:=λ _=>GR) .no (GE.rec (motive:=λ _=>Cd) SZ (T5 id) Rb UO) (fa e d h n)
def JE(fa:Cd)(F:Nat):Cd:=Nat.rec (motive:=λ _=>Cd) SY (λ _ ih=>HW fa ih) F
def T8(P:Program)(call ext:aY)(N:Nat)(ops:Array Oper)(draw:Bool):Cd :=
  Bool.rec (motive:=λ _=>Cd) (λ e d h n=>(BR P call ext N ops ops.toList e d h n).TV)
    (λ e d h n=>cond (and (P.follows .mixedOrders) (and (Region.noSelect ops) (cJ ops.toList)))
        ((dZ P call ext N ops (rL ops) n ops.size (Array.replicate ops.size false) [] e h n).U5 d (rL ops)) .no) draw
def cH(P:Program)(call ext:aY)(N F:Nat)(sc:Code->Cd)(c:Code):Cd :=
  Code.rec (motive:=λ _=>Cd) SZ (λ _ ops draw=>T8 P call ext N ops draw) (λ _ _ ia ib=>HW ia ib) (λ c _ _ ia ib=>Qe c ia ib) (λ id _ ia=>Qd id ia) (λ _ ia=>JE ia F)
    (λ _ _ _ _ _ _=>SY) TR (λ c _=>sc c) (λ _=>SZ) UO Rb (λ _=>SY) c
def Pg(P:Program)(call ext:aY)(F:Nat):ob:=λ N c=>cH P call ext N F (λ c=>uJ (cH P call ext N F (λ _=>SY)) c F c) c
theorem Ra(P:Program)(w0:World)(N:Nat)(c:Code):ki P w0 N SY c:=by intro e e' d d' h h' n n' x hg; cases hg
theorem Gn(fa fb:Cd)(e:Tr AV)(d:List AD)(h:AH)(n:Nat):HW fa fb e d h n=match fa e d h n with
      | .ok .normal e d h n=>fb e d h n
      | r=>r:=by
  unfold HW
  cases fa e d h n with
  | no=>rfl
  | ok x e d h n=>cases x<;>rfl
theorem Dd(fa:Cd):∀ (F:Nat),JE fa F=vM fa F
  | 0=>by funext e d h n; rfl
  | F+1=>by
    funext e d h n
    show HW fa (JE fa F) e d h n=_;rw[Gn,Dd fa F];simp only[vM]
    cases fa e d h n with
    | no=>rfl
    | ok x e d h n=>cases x<;>rfl
theorem As{P:Program}{w0:World}{call ext:aY}(hcall:iO P w0 call)(hext:CX P w0 ext){N F:Nat}{sc:Code->Cd}(hsc:∀ c,ki P w0 N (sc c) (.scope c))(c:Code):ki P w0 N (cH P call ext N F sc c) c:=by
  induction c with
  | skip=>intro e e' d d' h h' n n' x hg ρ t dd w hs; cases hg; exact wpIn_skip (Out.mk hs)
  | label l=>intro e e' d d' h h' n n' x hg ρ t dd w hs; cases hg; exact wpIn_label (Out.mk hs)
  | exit i=>intro e e' d d' h h' n n' x hg ρ t dd w hs; cases hg; exact wpIn_exit (Out.mk hs)
  | goto l=>intro e e' d d' h h' n n' x hg ρ t dd w hs; cases hg; exact wpIn_goto (Out.mk hs)
  | ret=>intro e e' d d' h h' n n' x hg ρ t dd w hs; cases hg; exact wpIn_ret (Out.mk hs)
  | region id ops draw =>
    cases draw with
    | false =>
      intro e e' d d' h h' n n' x hg ρ t dd w hs;have hg:(BR P call ext N ops ops.toList e d h n).TV=.ok x e' d' h' n':=hg;rw[GB] at hg;exact IP (id:=id) hcall hext (N:=N) (ops:=ops) hg hs
    | true=>exact MQ (id:=id) hcall hext (N:=N) (ops:=ops)
  | seq a b iha ihb =>
    intro e e' d d' h h' n n' x hg ρ t dd w hs;have hg:HW (cH P call ext N F sc a) (cH P call ext N F sc b) e d h n=.ok x e' d' h' n':=hg;rw[Gn] at hg;exact RF (n:=n) (fa:=cH P call ext N F sc a) (fb:=cH P call ext N F sc b) iha ihb hg hs
  | cond c a b iha ihb =>
    intro e e' d d' h h' n n' x hg ρ t dd w hs;have hg:Qe c (cH P call ext N F sc a) (cH P call ext N F sc b) e d h n=.ok x e' d' h' n':=hg;refine MJ (n:=n) (n':=n') (fa:=cH P call ext N F sc a) (fb:=cH P call ext N F sc b) iha ihb ?_ hs;rw[<- hg];unfold Qe;rw[yw];show(match eW e c with
      | some (.bool x)=>cond x (cH P call ext N F sc a e d h n) (cH P call ext N F sc b e d h n)
      | _=>GR.no)=_
    cases eW e c with
    | none=>rfl
    | some v=>cases v<;>first | rfl | (rename_i t; cases t<;>rfl)
  | block id c ih =>
    intro e e' d d' h h' n n' x hg ρ t dd w hs;have hg:Qd id (cH P call ext N F sc c) e d h n=.ok x e' d' h' n':=hg;refine JC (n:=n) (n':=n') (fc:=cH P call ext N F sc c) ih ?_ hs;rw[<- hg];unfold Qd;show(match cH P call ext N F sc c e d h n with
      | GR.ok (GE.exit i) e d h n=>cond (Nat.beq i id) (GR.ok GE.normal e d h n) (GR.ok (GE.exit i) e d h n)
      | r=>r)=_
    cases cH P call ext N F sc c e d h n with
    | no=>rfl
    | ok x e d h n =>
      cases x with
      | exit i =>
        show cond (Nat.beq i id) _ _=Bool.rec (motive:=λ _=>GR) (TR i e d h n) (SZ e d h n) (Nat.beq i id)
        cases Nat.beq i id<;>rfl
      | _=>rfl
  | loop c ih =>
    have:cH P call ext N F sc (.loop c)=vM (cH P call ext N F sc c) F:=Dd _ _;rw[this];exact @NU P w0 N F (cH P call ext N F sc c) c ih
  | rangeFunc f ps a b _ _=>intro e e' d d' h h' n n' x hg; cases hg
  | scope c _=>exact hsc c
  | refuse s=>intro e e' d d' h h' n n' x hg; cases hg
theorem J4{P:Program}{w0:World}{call ext:aY}(hcall:iO P w0 call)(hext:CX P w0 ext){F:Nat}(N:Nat)(c:Code):ki P w0 N (Pg P call ext F N c) c :=
  As hcall hext (λ c=>Ln (λ c=>As hcall hext (λ c=>@Ra P w0 N (.scope c)) c) c) c
def Pf(P:Program)(ext:aY)(F:Nat)(k:Nat):aY:=Ka P (λ call=>Pg P call ext F) k
theorem J3{P:Program}{w0:World}{ext:aY}(hext:CX P w0 ext){F:Nat}(k:Nat):iO P w0 (Pf P ext F k) :=
  Dz (λ _ hcall=>J4 hcall hext) k
end Go.Gx
