import Derived.Test.YtdpcgfcabikjmaaGreatDoorGx10
namespace Go.Gx
open Go Go.Vc

/-! The same, laid so that the kernel makes few terms: every arm of a great choice is a closed constant. -/
inductive SR where
  | no
  | val (a : AV)
  | eff (a : AV) (d : List AD) (h : AH) (n : Nat)

noncomputable def SR.go (h : AH) (n : Nat) : SR → GO
  | .no => none
  | .val a => some (a, [], h, n)
  | .eff a d h n => some (a, d, h, n)

noncomputable def ofGO : GO → SR
  | none => .no
  | some (a, d, h, n) => .eff a d h n

theorem ofGO_go (g : GO) (h : AH) (n : Nat) : (ofGO g).go h n = g := by
  cases g with
  | none => rfl
  | some r => obtain ⟨a, d, h', n'⟩ := r; rfl

abbrev OpF := Program → CallFn → CallFn → Oper → Tr AV → AH → Nat → SR

noncomputable def fSlow : OpF := fun P call ext o e h n => ofGO (gop P call ext o e h n)

noncomputable def fv (x : Option AV) : SR := Option.rec (motive := fun _ => SR) .no .val x

noncomputable def oTmp (i : Nat) (e : Tr AV) : Option AV := e.get i
noncomputable def oCon (v : Value) (_ : Tr AV) : Option AV := ofV v
noncomputable def oGlo (_ : Nat) (_ : Tr AV) : Option AV := none
noncomputable def oFun (f : FuncId) (_ : Tr AV) : Option AV := some (.fn f [] [])
noncomputable def fev (x : Operand) : Tr AV → Option AV := Operand.rec (motive := fun _ => Tr AV → Option AV) oTmp oCon oGlo oFun x

theorem fev_eq (x : Operand) (e : Tr AV) : fev x e = aev e x := by cases x <;> rfl

noncomputable def with1 (x : Operand) (e : Tr AV) (k : AV → SR) : SR := Option.rec (motive := fun _ => SR) .no k (fev x e)

noncomputable def fMove (x : Operand) : OpF := fun _ _ _ _ e _ _ => fv (fev x e)

noncomputable def pickB (a b : Operand) (e : Tr AV) : AV → SR
  | .bool t => fv (fev (cond t a b) e)
  | _ => .no
noncomputable def fPick (c a b : Operand) : OpF := fun _ _ _ _ e _ _ => with1 c e (pickB a b e)

noncomputable def nilB : AV → SR
  | .ptr i j => .val (.ptr i j)
  | _ => .no
noncomputable def fNil (x : Operand) : OpF := fun _ _ _ _ e _ _ => with1 x e nilB

noncomputable def fstV (x : Option (AV × List Dep)) : SR := Option.rec (motive := fun _ => SR) .no (fun r => .val r.1) x
noncomputable def fLoad (ty : TypeId) (x : Operand) : OpF := fun P _ _ _ e h _ => with1 x e fun a => fstV (gld P ty a h)

noncomputable def ptrB (off : Nat) : AV → SR
  | .ptr i j => .val (.ptr i (Nat.add j off))
  | _ => .no
noncomputable def fFadr (ty : TypeId) (x : Operand) (f : Nat) : OpF := fun P _ _ _ e _ _ => Option.rec (motive := fun _ => SR) .no (fun off => with1 x e (ptrB off)) (goff P ty f)

noncomputable def fFld (ty : TypeId) (x : Operand) (f : Nat) : OpF := fun P _ _ _ e _ _ => with1 x e fun a => fv (gfld P ty a f)

noncomputable def tupB (i : Nat) : AV → SR
  | .tup vs => fv (lget vs i)
  | _ => .no
noncomputable def fExt (x : Operand) (i : Nat) : OpF := fun _ _ _ _ e _ _ => with1 x e (tupB i)

noncomputable def iOp (k k' : IntKind) (r : Option AV) : SR := Bool.rec (motive := fun _ => SR) .no (fv r) (eqK k k')
noncomputable def iAdd (k k' : IntKind) (a b : Int) : SR := iOp k k' (some (frc k (gwrap k (Int.add a b))))
noncomputable def iSub (k k' : IntKind) (a b : Int) : SR := iOp k k' (some (frc k (gwrap k (Int.sub a b))))
noncomputable def iMul (k k' : IntKind) (a b : Int) : SR := iOp k k' (some (frc k (gwrap k (Int.mul a b))))
noncomputable def iQuo (k k' : IntKind) (a b : Int) : SR := iOp k k' (gint .quo k a b)
noncomputable def iRem (k k' : IntKind) (a b : Int) : SR := iOp k k' (gint .rem k a b)
noncomputable def iAnd (k k' : IntKind) (a b : Int) : SR := iOp k k' (gint .and k a b)
noncomputable def iOr (k k' : IntKind) (a b : Int) : SR := iOp k k' (gint .or k a b)
noncomputable def iXor (k k' : IntKind) (a b : Int) : SR := iOp k k' (gint .xor k a b)
noncomputable def iShl (k _k' : IntKind) (a b : Int) : SR := fv (gshf .shl k a b)
noncomputable def iShr (k _k' : IntKind) (a b : Int) : SR := fv (gshf .shr k a b)
noncomputable def iAndNot (k k' : IntKind) (a b : Int) : SR := iOp k k' (gint .andNot k a b)
noncomputable def iEql (k k' : IntKind) (a b : Int) : SR := iOp k k' (some (.bool (ieq a b)))
noncomputable def iNeq (k k' : IntKind) (a b : Int) : SR := iOp k k' (some (.bool (not (ieq a b))))
noncomputable def iLss (k k' : IntKind) (a b : Int) : SR := iOp k k' (some (.bool (not (ile b a))))
noncomputable def iLeq (k k' : IntKind) (a b : Int) : SR := iOp k k' (some (.bool (ile a b)))
noncomputable def iGtr (k k' : IntKind) (a b : Int) : SR := iOp k k' (some (.bool (not (ile a b))))
noncomputable def iGeq (k k' : IntKind) (a b : Int) : SR := iOp k k' (some (.bool (ile b a)))
noncomputable def iBin (op : BinOp) : IntKind → IntKind → Int → Int → SR :=
  BinOp.rec (motive := fun _ => IntKind → IntKind → Int → Int → SR) iAdd iSub iMul iQuo iRem iAnd iOr iXor iShl iShr iAndNot iEql iNeq iLss iLeq iGtr iGeq op

noncomputable def binB2 (P : Program) (op : BinOp) (ty : TypeId) (x y : Operand) (a : AV) : AV → SR
  | .int k' m => match a with
    | .int k n => iBin op k k' n m
    | _ => fv (gbin P op ty x y a (.int k' m))
  | b => fv (gbin P op ty x y a b)
noncomputable def fBin (op : BinOp) (ty : TypeId) (x y : Operand) (_ : TypeId) : OpF := fun P _ _ _ e _ _ => with1 x e fun a => with1 y e (binB2 P op ty x y a)

noncomputable def fIadr (ty : TypeId) (x i : Operand) : OpF := fun P _ _ _ e _ _ => with1 x e fun a => with1 i e fun b => fv (gixa P ty a b)
noncomputable def fIdx (ty : TypeId) (x i : Operand) : OpF := fun P _ _ _ e _ _ => with1 x e fun a => with1 i e fun b => fv (gidx P ty a b)

noncomputable def effH (n : Nat) (x : Option AH) : SR := Option.rec (motive := fun _ => SR) .no (fun h => .eff (.tup []) [] h n) x
noncomputable def fSto (ty : TypeId) (x v : Operand) : OpF := fun P _ _ _ e h n => with1 x e fun p => with1 v e fun a => effH n (gsto P ty p a h)

noncomputable def goS (n : Nat) (x : Option (AV × AH)) : SR := Option.rec (motive := fun _ => SR) .no (fun r => .eff r.1 [] r.2 n) x
noncomputable def fAlo (T : TypeId) : OpF := fun P _ _ _ _ h n => Option.rec (motive := fun _ => SR) .no (fun z => goS (Nat.succ n) (gnew T z h n)) (zeroA P T)
noncomputable def fBox (T : TypeId) (x : Operand) : OpF := fun _ _ _ _ e h n => with1 x e fun a => goS (Nat.succ n) (gnew T a h n)

noncomputable def fBui (ty : TypeId) (ps : Array (Nat × Operand)) : OpF := fun P _ _ _ e _ _ => Option.rec (motive := fun _ => SR) .no (fun l => fv (gbld P ty l)) (aevP e ps.toList)
noncomputable def fBsl (ty : TypeId) (len : Nat) (ps : Array (Nat × Operand)) : OpF := fun P _ _ _ e h n => Option.rec (motive := fun _ => SR) .no (fun l => goS (Nat.succ n) (gbsl P ty len l h n)) (aevP e ps.toList)

noncomputable def calR (x : Option (AV × AH × Nat)) : SR := Option.rec (motive := fun _ => SR) .no (fun r => .eff r.1 [] r.2.1 r.2.2) x
noncomputable def calB (P : Program) (call ext : CallFn) (az : List AV) (h : AH) (n : Nat) : AV → SR
  | .fn g xs ys => calR (cond (entersB P g) (call g (xs ++ az ++ ys) h n) (ext g (xs ++ az ++ ys) h n))
  | _ => .no
noncomputable def fCalV (f : Operand) (args : Array Operand) (_ : Array TypeId) : OpF := fun P call ext _ e h n =>
  with1 f e fun a => Option.rec (motive := fun _ => SR) .no (fun az => calB P call ext az h n a) (aevL e args.toList)

noncomputable def lenB (P : Program) (e : Tr AV) (tys : Array TypeId) : List Operand → SR
  | [x] => Option.rec (motive := fun _ => SR) .no (fun ty => with1 x e fun a => fv (glen P ty a)) tys[0]?
  | _ => .no
noncomputable def fLen (args : Array Operand) (tys : Array TypeId) : OpF := fun P _ _ _ e _ _ => lenB P e tys args.toList

noncomputable def appB (P : Program) (tys : Array TypeId) (h : AH) (n : Nat) : List AV → SR
  | [s, x] => match x with
    | .str l => goS (Nat.succ n) (gaps P tys.toList s l h n)
    | x => goS (Nat.succ n) (gapp P tys.toList s x h n)
  | _ => .no
noncomputable def fApp (args : Array Operand) (tys : Array TypeId) : OpF := fun P _ _ _ e h n => Option.rec (motive := fun _ => SR) .no (appB P tys h n) (aevL e args.toList)

noncomputable def slow2 (_ : Array Operand) (_ : Array TypeId) : OpF := fSlow
noncomputable def fBlt (b : Builtin) : Array Operand → Array TypeId → OpF :=
  Builtin.rec (motive := fun _ => Array Operand → Array TypeId → OpF) fApp slow2 slow2 slow2 slow2 slow2 slow2 slow2 fLen slow2 slow2 slow2 slow2 slow2 slow2 slow2 slow2 slow2 slow2 slow2 slow2 slow2 slow2 slow2 slow2 slow2 b

noncomputable def slow3 (_ : Operand) (_ : String) (_ : Array Operand) (_ : Array TypeId) : OpF := fSlow
noncomputable def fCle (c : Callee) : Array Operand → Array TypeId → OpF := Callee.rec (motive := fun _ => Array Operand → Array TypeId → OpF) fCalV slow3 fBlt c
noncomputable def fCal (c : Call) : OpF := fCle c.callee c.args c.argTypes

noncomputable def fOp (o : Op) : OpF :=
  Op.rec (motive := fun _ => OpF)
    fMove fMove fPick fAlo fBox fBui fBsl (fun _ _ _ _ => fSlow) fLoad fSto (fun _ => fSlow) (fun _ => fSlow) fNil fBin (fun _ _ _ => fSlow) (fun _ _ _ => fSlow) (fun _ _ => fSlow) (fun _ _ => fSlow)
    (fun _ _ _ => fSlow) (fun _ _ => fSlow) (fun _ _ => fSlow) (fun _ _ _ => fSlow) (fun _ _ _ _ _ => fSlow) fFadr fFld fIadr fIdx (fun _ _ _ _ => fSlow) (fun _ _ _ _ => fSlow) (fun _ _ _ => fSlow)
    (fun _ _ _ _ => fSlow) (fun _ _ => fSlow) (fun _ _ => fSlow) (fun _ => fSlow) (fun _ _ _ _ => fSlow) fExt fCal (fun _ => fSlow) (fun _ => fSlow) (fun _ => fSlow) (fun _ _ => fSlow) (fun _ _ _ => fSlow) (fun _ _ => fSlow) o

theorem with1_eq (x : Operand) (e : Tr AV) (k : AV → SR) : with1 x e k = match aev e x with
    | some a => k a
    | none => .no := by
  unfold with1
  rw [fev_eq]
  cases aev e x <;> rfl

theorem fv_go (x : Option AV) (h : AH) (n : Nat) : (fv x).go h n = match x with
    | some a => some (a, [], h, n)
    | none => none := by cases x <;> rfl

/-- An operation that only reads memory not at all. -/
theorem gop_pu {P : Program} {call ext : CallFn} {o : Oper} {e : Tr AV} {h : AH} {n : Nat} {x : Option AV} (hx : gpu P o e = x)
    (hg : gop P call ext o e h n = match grd P o e h with
      | some (a, _) => some (a, [], h, n)
      | none => none) (hr : grd P o e h = match gpu P o e with
      | some a => some (a, [])
      | none => none) : gop P call ext o e h n = (fv x).go h n := by
  rw [hg, hr, hx]
  cases x <;> rfl

theorem iBin_eq (P : Program) (op : BinOp) (ty : TypeId) (x y : Operand) (k k' : IntKind) (n m : Int) : iBin op k k' n m = fv (gbin P op ty x y (.int k n) (.int k' m)) := by
  have h1 : ∀ r : Option AV, iOp k k' r = fv (cond (eqK k k') r none) := fun r => by unfold iOp; cases eqK k k' <;> rfl
  cases op <;> first | rfl | exact h1 _

theorem fOp_eq (P : Program) (call ext : CallFn) (o : Oper) (e : Tr AV) (h : AH) (n : Nat) : (fOp o.op P call ext o e h n).go h n = gop P call ext o e h n := by
  have slow : (fSlow P call ext o e h n).go h n = gop P call ext o e h n := ofGO_go _ _ _
  obtain ⟨dst, op, ty, pos, after, guard⟩ := o
  have goS_go : ∀ (x : Option (AV × AH)) (m : Nat), (goS m x).go h n = goO m x := fun x m => by
    cases x with
    | none => rfl
    | some r => obtain ⟨a, h'⟩ := r; rfl
  cases op with
  | move x =>
    refine Eq.trans ?_ (gop_pu (x := aev e x) rfl rfl rfl).symm
    show (fv (fev x e)).go h n = _
    rw [fev_eq]
  | assign x =>
    refine Eq.trans ?_ (gop_pu (x := aev e x) rfl rfl rfl).symm
    show (fv (fev x e)).go h n = _
    rw [fev_eq]
  | pick c a b =>
    refine Eq.trans ?_ (gop_pu (x := _) rfl rfl rfl).symm
    show (with1 c e (pickB a b e)).go h n = _
    rw [with1_eq]
    simp only [gpu]
    cases hc : aev e c with
    | none => rfl
    | some v => cases v <;> first | rfl | (show (fv (fev _ e)).go h n = _; rw [fev_eq])
  | nilCheck x =>
    refine Eq.trans ?_ (gop_pu (x := _) rfl rfl rfl).symm
    show (with1 x e nilB).go h n = _
    rw [with1_eq]
    simp only [gpu]
    cases hc : aev e x with
    | none => rfl
    | some v => cases v <;> rfl
  | load t x =>
    show (with1 x e fun a => fstV (gld P t a h)).go h n = _
    rw [with1_eq]
    show _ = match grd P ⟨dst, .load t x, ty, pos, after, guard⟩ e h with
      | some (a, _) => some (a, [], h, n)
      | none => none
    simp only [grd]
    cases hc : aev e x with
    | none => rfl
    | some v =>
      simp only
      cases hl : gld P t v h with
      | none => rfl
      | some r => obtain ⟨a, ds⟩ := r; rfl
  | fieldAddr t x f =>
    refine Eq.trans ?_ (gop_pu (x := _) rfl rfl rfl).symm
    show (Option.rec (motive := fun _ => SR) .no (fun off => with1 x e (ptrB off)) (goff P t f) : SR).go h n = _
    simp only [gpu]
    cases ho : goff P t f with
    | none => rfl
    | some off =>
      show (with1 x e (ptrB off)).go h n = _
      rw [with1_eq]
      cases hc : aev e x with
      | none => rfl
      | some v => cases v <;> rfl
  | field t x f =>
    refine Eq.trans ?_ (gop_pu (x := _) rfl rfl rfl).symm
    show (with1 x e fun a => fv (gfld P t a f)).go h n = _
    rw [with1_eq]
    simp only [gpu]
    cases hc : aev e x <;> rfl
  | extract x i =>
    refine Eq.trans ?_ (gop_pu (x := _) rfl rfl rfl).symm
    show (with1 x e (tupB i)).go h n = _
    rw [with1_eq]
    simp only [gpu]
    cases hc : aev e x with
    | none => rfl
    | some v => cases v <;> rfl
  | binOp op t x y yt =>
    refine Eq.trans ?_ (gop_pu (x := _) rfl rfl rfl).symm
    show (with1 x e fun a => with1 y e (binB2 P op t x y a)).go h n = _
    rw [with1_eq]
    simp only [gpu]
    cases hc : aev e x with
    | none => rfl
    | some a =>
      simp only
      rw [with1_eq]
      cases hd : aev e y with
      | none => rfl
      | some b =>
        simp only
        congr 1
        cases b <;> first | rfl | skip
        rename_i k' m
        cases a <;> first | rfl | exact iBin_eq P op t x y _ _ _ _
  | index t x i =>
    refine Eq.trans ?_ (gop_pu (x := _) rfl rfl rfl).symm
    show (with1 x e fun a => with1 i e fun b => fv (gidx P t a b)).go h n = _
    rw [with1_eq]
    simp only [gpu]
    cases hc : aev e x with
    | none => rfl
    | some a =>
      simp only
      rw [with1_eq]
      cases hd : aev e i <;> rfl
  | indexAddr t x i =>
    refine Eq.trans ?_ (gop_pu (x := _) rfl rfl rfl).symm
    show (with1 x e fun a => with1 i e fun b => fv (gixa P t a b)).go h n = _
    rw [with1_eq]
    simp only [gpu]
    cases hc : aev e x with
    | none => rfl
    | some a =>
      simp only
      rw [with1_eq]
      cases hd : aev e i <;> rfl
  | store t x v =>
    show (with1 x e fun p => with1 v e fun a => effH n (gsto P t p a h)).go h n = _
    rw [with1_eq]
    simp only [gop]
    cases hc : aev e x with
    | none => rfl
    | some a =>
      simp only
      rw [with1_eq]
      cases hd : aev e v with
      | none => rfl
      | some b =>
        simp only
        cases gsto P t a b h <;> rfl
  | alloc T =>
    show (Option.rec (motive := fun _ => SR) .no (fun z => goS (Nat.succ n) (gnew T z h n)) (zeroA P T) : SR).go h n = _
    simp only [gop]
    cases hz : zeroA P T with
    | none => rfl
    | some z => exact goS_go _ _
  | box T x =>
    show (with1 x e fun a => goS (Nat.succ n) (gnew T a h n)).go h n = _
    rw [with1_eq]
    simp only [gop]
    cases hc : aev e x with
    | none => rfl
    | some a => exact goS_go _ _
  | build t ps =>
    refine Eq.trans ?_ (gop_pu (x := _) rfl rfl rfl).symm
    show (Option.rec (motive := fun _ => SR) .no (fun l => fv (gbld P t l)) (aevP e ps.toList) : SR).go h n = _
    simp only [gpu]
    cases hc : aevP e ps.toList <;> rfl
  | buildSlice t len ps =>
    show (Option.rec (motive := fun _ => SR) .no (fun l => goS (Nat.succ n) (gbsl P t len l h n)) (aevP e ps.toList) : SR).go h n = _
    simp only [gop]
    cases hc : aevP e ps.toList with
    | none => rfl
    | some l => exact goS_go _ _
  | call c =>
    obtain ⟨callee, args, tys⟩ := c
    cases callee with
    | value f =>
      show (with1 f e fun a => Option.rec (motive := fun _ => SR) .no (fun az => calB P call ext az h n a) (aevL e args.toList)).go h n = _
      rw [with1_eq]
      simp only [gop]
      cases hc : aev e f with
      | none => rfl
      | some a =>
        cases hl : aevL e args.toList with
        | none => cases a <;> rfl
        | some az =>
          cases a <;> first | rfl | skip
          rename_i g xs ys
          show (calR (cond (entersB P g) (call g (xs ++ az ++ ys) h n) (ext g (xs ++ az ++ ys) h n))).go h n = _
          simp only
          cases (cond (entersB P g) (call g (xs ++ az ++ ys) h n) (ext g (xs ++ az ++ ys) h n)) with
          | none => rfl
          | some r => obtain ⟨r1, r2, r3⟩ := r; rfl
    | invoke r m => exact slow
    | builtin b =>
      cases b <;> first | exact slow | skip
      · show (Option.rec (motive := fun _ => SR) .no (appB P tys h n) (aevL e args.toList) : SR).go h n = _
        simp only [gop]
        cases hl : aevL e args.toList with
        | none => rfl
        | some l =>
          match l with
          | [] => rfl
          | [_] => rfl
          | [s, x] => cases x <;> exact goS_go _ _
          | _ :: _ :: _ :: _ => rfl
      · refine Eq.trans ?_ (gop_pu (x := _) rfl rfl rfl).symm
        show (lenB P e tys args.toList).go h n = _
        simp only [gpu]
        generalize args.toList = l
        match l with
        | [] => rfl
        | _ :: _ :: _ => rfl
        | [x] =>
          show (Option.rec (motive := fun _ => SR) .no (fun ty => with1 x e fun a => fv (glen P ty a)) tys[0]? : SR).go h n = _
          cases ht : tys[0]? with
          | none => rfl
          | some t =>
            show (with1 x e fun a => fv (glen P t a)).go h n = _
            rw [with1_eq]
            simp only
            cases hc : aev e x <;> rfl
  | _ => exact slow

/-! Regions, texts. -/
abbrev Sq := Tr AV → List AD → AH → Nat → GS

noncomputable def putK (N : Nat) (e : Tr AV) (d : Option Nat) (v : AV) (k : Tr AV → GS) : GS :=
  Option.rec (motive := fun _ => GS) (k e) (fun i => Bool.rec (motive := fun _ => GS) .no (k (e.put i v)) (Nat.ble (Nat.succ i) N)) d

theorem putK_eq (N : Nat) (e : Tr AV) (d : Option Nat) (v : AV) (k : Tr AV → GS) : putK N e d v k = match aput N e d v with
    | some e => k e
    | none => .no := by
  cases d with
  | none => rfl
  | some i =>
    have h1 : aput N e (some i) v = cond (Nat.ble (Nat.succ i) N) (some (e.put i v)) none := rfl
    rw [h1]
    show Bool.rec (motive := fun _ => GS) .no (k (e.put i v)) (Nat.ble (Nat.succ i) N) = _
    cases Nat.ble (Nat.succ i) N <;> rfl

noncomputable def fDo (P : Program) (call ext : CallFn) (N : Nat) (o : Oper) (ih : Sq) (e : Tr AV) (d : List AD) (h : AH) (n : Nat) : GS :=
  SR.rec (motive := fun _ => GS) .no (fun a => putK N e o.dst a fun e => ih e d h n) (fun a ds h n => putK N e o.dst a fun e => ih e (ds ++ d) h n) (fOp o.op P call ext o e h n)

noncomputable def fGd (P : Program) (call ext : CallFn) (N : Nat) (ops : Array Oper) (o : Oper) (ih : Sq) (e : Tr AV) (d : List AD) (h : AH) (n : Nat) : GS := match gguard ops e o with
  | some true => fDo P call ext N o ih e d h n
  | some false => putK N e o.dst (.tup []) fun e => ih e d h n
  | none => .no

noncomputable def fOne (P : Program) (call ext : CallFn) (N : Nat) (ops : Array Oper) (o : Oper) (ih : Sq) (e : Tr AV) (d : List AD) (h : AH) (n : Nat) : GS :=
  Option.rec (motive := fun _ => GS) (fDo P call ext N o ih e d h n) (fun _ => fGd P call ext N ops o ih e d h n) o.guard

noncomputable def fops (P : Program) (call ext : CallFn) (N : Nat) (ops : Array Oper) (l : List Oper) : Sq :=
  List.rec (motive := fun _ => Sq) GS.ok (fun o _ ih => fOne P call ext N ops o ih) l

theorem fops_eq (P : Program) (call ext : CallFn) (N : Nat) (ops : Array Oper) : ∀ (l : List Oper) (e : Tr AV) (d : List AD) (h : AH) (n : Nat), fops P call ext N ops l e d h n = gops P call ext N ops l e d h n
  | [], e, d, h, n => rfl
  | o :: l, e, d, h, n => by
    have ih := fops_eq P call ext N ops l
    have hdo : ∀ e d h n, fDo P call ext N o (fops P call ext N ops l) e d h n = match gop P call ext o e h n with
        | some (a, ds, h', n') => match aput N e o.dst a with
          | some e' => gops P call ext N ops l e' (ds ++ d) h' n'
          | none => .no
        | none => .no := fun e d h n => by
      rw [← fOp_eq]
      unfold fDo
      cases fOp o.op P call ext o e h n with
      | no => rfl
      | val a =>
        show putK N e o.dst a (fun e => fops P call ext N ops l e d h n) = _
        rw [putK_eq]
        simp only [SR.go, List.nil_append, ih]
      | eff a ds h' n' =>
        show putK N e o.dst a (fun e => fops P call ext N ops l e (ds ++ d) h' n') = _
        rw [putK_eq]
        simp only [SR.go, ih]
    show fOne P call ext N ops o (fops P call ext N ops l) e d h n = _
    unfold fOne gops
    cases hg : o.guard with
    | none =>
      have : gguard ops e o = some true := by unfold gguard; rw [hg]
      rw [this]
      exact hdo e d h n
    | some g =>
      show fGd P call ext N ops o (fops P call ext N ops l) e d h n = _
      unfold fGd
      cases hq : gguard ops e o with
      | none => rfl
      | some b =>
        cases b with
        | true => exact hdo e d h n
        | false =>
          show putK N e o.dst (.tup []) (fun e => fops P call ext N ops l e d h n) = _
          rw [putK_eq]
          simp only [ih]
          cases aput N e o.dst (.tup []) <;> rfl

abbrev Cd := Tr AV → List AD → AH → Nat → GR

noncomputable def nOk (e : Tr AV) (d : List AD) (h : AH) (n : Nat) : GR := .ok .normal e d h n
noncomputable def nRet (e : Tr AV) (d : List AD) (h : AH) (n : Nat) : GR := .ok .ret e d h n
noncomputable def nEx (i : Nat) (e : Tr AV) (d : List AD) (h : AH) (n : Nat) : GR := .ok (.exit i) e d h n
noncomputable def nGo (l : Nat) (e : Tr AV) (d : List AD) (h : AH) (n : Nat) : GR := .ok (.goto l) e d h n
noncomputable def nNo (_ : Tr AV) (_ : List AD) (_ : AH) (_ : Nat) : GR := .no

noncomputable def bndE (kb : Cd) (x : GE) : Cd := GE.rec (motive := fun _ => Cd) kb nEx nRet nGo x
noncomputable def cSeq (fa fb : Cd) (e : Tr AV) (d : List AD) (h : AH) (n : Nat) : GR := GR.rec (motive := fun _ => GR) .no (bndE fb) (fa e d h n)

noncomputable def cnd2 (fa fb : Cd) (e : Tr AV) (d : List AD) (h : AH) (n : Nat) : AV → GR
  | .bool x => Bool.rec (motive := fun _ => GR) (fb e d h n) (fa e d h n) x
  | _ => .no
noncomputable def cCnd (c : Operand) (fa fb : Cd) (e : Tr AV) (d : List AD) (h : AH) (n : Nat) : GR := Option.rec (motive := fun _ => GR) .no (cnd2 fa fb e d h n) (fev c e)

noncomputable def blkE (id i : Nat) (e : Tr AV) (d : List AD) (h : AH) (n : Nat) : GR := Bool.rec (motive := fun _ => GR) (nEx i e d h n) (nOk e d h n) (Nat.beq i id)
noncomputable def cBlk (id : Nat) (fa : Cd) (e : Tr AV) (d : List AD) (h : AH) (n : Nat) : GR := GR.rec (motive := fun _ => GR) .no (GE.rec (motive := fun _ => Cd) nOk (blkE id) nRet nGo) (fa e d h n)

noncomputable def cLoop (fa : Cd) (F : Nat) : Cd := Nat.rec (motive := fun _ => Cd) nNo (fun _ ih => cSeq fa ih) F

noncomputable def cReg (P : Program) (call ext : CallFn) (N : Nat) (ops : Array Oper) (draw : Bool) : Cd :=
  Bool.rec (motive := fun _ => Cd) (fun e d h n => (fops P call ext N ops ops.toList e d h n).toR)
    (fun e d h n => cond (and (P.follows .mixedOrders) (and (Region.noSelect ops) (noDefers ops.toList)))
        ((gdraw P call ext N ops (multiR ops) n ops.size (Array.replicate ops.size false) [] e h n).toD d (multiR ops)) .no) draw

noncomputable def fcode0 (P : Program) (call ext : CallFn) (N F : Nat) (sc : Code → Cd) (c : Code) : Cd :=
  Code.rec (motive := fun _ => Cd) nOk (fun _ ops draw => cReg P call ext N ops draw) (fun _ _ ia ib => cSeq ia ib) (fun c _ _ ia ib => cCnd c ia ib) (fun id _ ia => cBlk id ia) (fun _ ia => cLoop ia F)
    (fun _ _ _ _ _ _ => nNo) nEx (fun c _ => sc c) (fun _ => nOk) nGo nRet (fun _ => nNo) c

noncomputable def fcode (P : Program) (call ext : CallFn) (F : Nat) : CodeFn := fun N c => fcode0 P call ext N F (fun c => gscope (fcode0 P call ext N F (fun _ => nNo)) c F c) c

theorem nNo_ok (P : Program) (w0 : World) (N : Nat) (c : Code) : CdOK P w0 N nNo c := by intro e e' d d' h h' n n' x hg; cases hg

theorem cSeq_eq (fa fb : Cd) (e : Tr AV) (d : List AD) (h : AH) (n : Nat) : cSeq fa fb e d h n = match fa e d h n with
      | .ok .normal e d h n => fb e d h n
      | r => r := by
  unfold cSeq
  cases fa e d h n with
  | no => rfl
  | ok x e d h n => cases x <;> rfl

theorem cLoop_eq (fa : Cd) : ∀ (F : Nat), cLoop fa F = gloop fa F
  | 0 => by funext e d h n; rfl
  | F + 1 => by
    funext e d h n
    show cSeq fa (cLoop fa F) e d h n = _
    rw [cSeq_eq, cLoop_eq fa F]
    simp only [gloop]
    cases fa e d h n with
    | no => rfl
    | ok x e d h n => cases x <;> rfl

theorem fcode0_ok {P : Program} {w0 : World} {call ext : CallFn} (hcall : CallOK P w0 call) (hext : XtOK P w0 ext) {N F : Nat} {sc : Code → Cd} (hsc : ∀ c, CdOK P w0 N (sc c) (.scope c)) (c : Code) : CdOK P w0 N (fcode0 P call ext N F sc c) c := by
  induction c with
  | skip => intro e e' d d' h h' n n' x hg ρ t dd w hs; cases hg; exact wpIn_skip (Out.mk hs)
  | label l => intro e e' d d' h h' n n' x hg ρ t dd w hs; cases hg; exact wpIn_label (Out.mk hs)
  | exit i => intro e e' d d' h h' n n' x hg ρ t dd w hs; cases hg; exact wpIn_exit (Out.mk hs)
  | goto l => intro e e' d d' h h' n n' x hg ρ t dd w hs; cases hg; exact wpIn_goto (Out.mk hs)
  | ret => intro e e' d d' h h' n n' x hg ρ t dd w hs; cases hg; exact wpIn_ret (Out.mk hs)
  | region id ops draw =>
    cases draw with
    | false =>
      intro e e' d d' h h' n n' x hg ρ t dd w hs
      have hg : (fops P call ext N ops ops.toList e d h n).toR = .ok x e' d' h' n' := hg
      rw [fops_eq] at hg
      exact region_ok (id := id) hcall hext (N := N) (ops := ops) hg hs
    | true => exact draw_ok (id := id) hcall hext (N := N) (ops := ops)
  | seq a b iha ihb =>
    intro e e' d d' h h' n n' x hg ρ t dd w hs
    have hg : cSeq (fcode0 P call ext N F sc a) (fcode0 P call ext N F sc b) e d h n = .ok x e' d' h' n' := hg
    rw [cSeq_eq] at hg
    exact seq_ok (n := n) (fa := fcode0 P call ext N F sc a) (fb := fcode0 P call ext N F sc b) iha ihb hg hs
  | cond c a b iha ihb =>
    intro e e' d d' h h' n n' x hg ρ t dd w hs
    have hg : cCnd c (fcode0 P call ext N F sc a) (fcode0 P call ext N F sc b) e d h n = .ok x e' d' h' n' := hg
    refine cond_ok (n := n) (n' := n') (fa := fcode0 P call ext N F sc a) (fb := fcode0 P call ext N F sc b) iha ihb ?_ hs
    rw [← hg]
    unfold cCnd
    rw [fev_eq]
    show (match aev e c with
      | some (.bool x) => cond x (fcode0 P call ext N F sc a e d h n) (fcode0 P call ext N F sc b e d h n)
      | _ => GR.no) = _
    cases aev e c with
    | none => rfl
    | some v => cases v <;> first | rfl | (rename_i t; cases t <;> rfl)
  | block id c ih =>
    intro e e' d d' h h' n n' x hg ρ t dd w hs
    have hg : cBlk id (fcode0 P call ext N F sc c) e d h n = .ok x e' d' h' n' := hg
    refine block_ok (n := n) (n' := n') (fc := fcode0 P call ext N F sc c) ih ?_ hs
    rw [← hg]
    unfold cBlk
    show (match fcode0 P call ext N F sc c e d h n with
      | GR.ok (GE.exit i) e d h n => cond (Nat.beq i id) (GR.ok GE.normal e d h n) (GR.ok (GE.exit i) e d h n)
      | r => r) = _
    cases fcode0 P call ext N F sc c e d h n with
    | no => rfl
    | ok x e d h n =>
      cases x with
      | exit i =>
        show cond (Nat.beq i id) _ _ = Bool.rec (motive := fun _ => GR) (nEx i e d h n) (nOk e d h n) (Nat.beq i id)
        cases Nat.beq i id <;> rfl
      | _ => rfl
  | loop c ih =>
    have : fcode0 P call ext N F sc (.loop c) = gloop (fcode0 P call ext N F sc c) F := cLoop_eq _ _
    rw [this]
    exact @loop_ok P w0 N F (fcode0 P call ext N F sc c) c ih
  | rangeFunc f ps a b _ _ => intro e e' d d' h h' n n' x hg; cases hg
  | scope c _ => exact hsc c
  | refuse s => intro e e' d d' h h' n n' x hg; cases hg

theorem fcode_ok {P : Program} {w0 : World} {call ext : CallFn} (hcall : CallOK P w0 call) (hext : XtOK P w0 ext) {F : Nat} (N : Nat) (c : Code) : CdOK P w0 N (fcode P call ext F N c) c :=
  fcode0_ok hcall hext (fun c => scope_ok (fun c => fcode0_ok hcall hext (fun c => @nNo_ok P w0 N (.scope c)) c) c) c

noncomputable def fcall (P : Program) (ext : CallFn) (F : Nat) (k : Nat) : CallFn := gcall P (fun call => fcode P call ext F) k

theorem fcall_ok {P : Program} {w0 : World} {ext : CallFn} (hext : XtOK P w0 ext) {F : Nat} (k : Nat) : CallOK P w0 (fcall P ext F k) :=
  gcall_ok (fun _ hcall => fcode_ok hcall hext) k

end Go.Gx
