import Derived.LaidEql
import Derived.Test.YtjpbdjhaajdepaaGreatDoorM32
set_option linter.unusedVariables false
set_option maxRecDepth 100000
noncomputable section
namespace Go.Gx
open Go Go.Vc
def iP(P:Program)(ρ:Names)(s:Sem Value)(a:AV):Prop:=∃ v,rv ρ a=some v/\∀ w,s.run P w=.ok v w
def Pm:Operand->Bool
  | .const _=>true
  | _=>false
def Nu(P:Program)(ty:TypeId)(cn:Bool)(a b:AV):Option Bool:=match P.underlying ty with
  | some (.pointer e)=>match a,b with
    | .nilp,.nilp=>some true
    | .nilp,.ptr _ _=>some false
    | .ptr _ _,.nilp=>some false
    | .ptr i o,.ptr j p=>cond (Nat.beq i j&&Nat.beq o p&&(P.info? e).isSome) (some true) none
    | _,_=>none
  | some (.slice _)=>match a,b with
    | .nils,.nils=>some true
    | .nils,.sli _ _ _ _=>some false
    | .sli _ _ _ _,.nils=>some false
    | _,_=>none
  | some (.interface _)=>match a,b with
    | .nili,.nili=>cond cn (some true) none
    | .nili,.iface _ _=>some false
    | .iface _ _,.nili=>some false
    | _,_=>none
  | some .bool=>match a,b with
    | .bool x,.bool y=>some (x==y)
    | _,_=>none
  | _=>match a,b with
    | .agg xs,.agg ys=>cond (P.eqGuardType P.depth ty) none (geq P 12 ty (.agg xs) (.agg ys))
    | _,_=>none
theorem bH{P:Program}{ty:TypeId}{x y:Operand}{vx vy:Value}{b neg:Bool}{w:World}(h:(Op.equal ty vx vy).run P w=.ok b w)(hb:(binOp (cond neg .neq .eql) ty vx vy)=(do let r <- Op.equal ty vx vy; pure (.bool (cond neg (!r) r))))(hg:(eqGuard (cond neg .neq .eql) ty x y vx vy).run P w=.ok () w):(do eqGuard (cond neg .neq .eql) ty x y vx vy; binOp (cond neg .neq .eql) ty vx vy:Sem Value).run P w=.ok (.bool (cond neg (!b) b)) w:=by
  have h3:=iG (neg:=neg) h hb;simp only[Sem.run_bind,hg,Result.andThen_ok,h3]
theorem GG{P:Program}{ρ:Names}{ty:TypeId}{x y:Operand}{a b:AV}{vx vy:Value}{r:Bool}(h:Nu P ty (Pm x||Pm y) a b=some r)(ha:rv ρ a=some vx)(hb:rv ρ b=some vy)(neg:Bool)(w:World):(do eqGuard (cond neg .neq .eql) ty x y vx vy; binOp (cond neg .neq .eql) ty vx vy:Sem Value).run P w=.ok (.bool (cond neg (!r) r)) w:=by
  unfold Nu at h
  split at h
  · rename_i e hu
    split at h
    · cases h; cases ha; cases hb
      exact bH (bT λ d=>by simp[Op.equalIn,aE hu]) (by cases neg<;>rfl) (by cases neg<;>simp[eqGuard])
    · cases h; cases ha
      obtain⟨L,_,rfl⟩:=fL hb;exact bH (bT λ d=>by simp[Op.equalIn,aE hu]) (by cases neg<;>rfl) (by cases neg<;>simp[eqGuard])
    · cases h; cases hb
      obtain⟨L,_,rfl⟩:=fL ha;exact bH (bT λ d=>by simp[Op.equalIn,aE hu]) (by cases neg<;>rfl) (by cases neg<;>simp[eqGuard])
    · rename_i i o j p
      cases hc:(Nat.beq i j&&Nat.beq o p&&(P.info? e).isSome) with
      | false=>rw[hc] at h; cases h
      | true =>
        rw[hc] at h
        cases h
        simp only[Bool.and_eq_true] at hc;obtain⟨⟨q1,q2⟩,q3⟩:=hc;obtain rfl:=beq_iff.1 q1;obtain rfl:=beq_iff.1 q2;obtain⟨inf,hte⟩:=Option.isSome_iff_exists.1 q3;obtain⟨L,hL,rfl⟩:=fL ha;obtain⟨L',hL',rfl⟩:=fL hb;obtain rfl:L=L':=Option.some.inj (hL.symm.trans hL');exact bH (bT λ d=>by simp[Op.equalIn,aE hu,sizeOf,typeInfo,hte,run_sameAddr_same]) (by cases neg<;>rfl) (by cases neg<;>simp[eqGuard])
    · cases h
  · rename_i e hu
    split at h
    · cases h; cases ha; cases hb
      exact bH (bT λ d=>by simp[Op.equalIn,aE hu]) (by cases neg<;>rfl) (by cases neg<;>simp[eqGuard])
    · cases h; cases ha
      obtain⟨L,_,_,_,rfl⟩:=cY hb;exact bH (bT λ d=>by simp[Op.equalIn,aE hu]) (by cases neg<;>rfl) (by cases neg<;>simp[eqGuard])
    · cases h; cases hb
      obtain⟨L,_,_,_,rfl⟩:=cY ha;exact bH (bT λ d=>by simp[Op.equalIn,aE hu]) (by cases neg<;>rfl) (by cases neg<;>simp[eqGuard])
    · cases h
  · rename_i ms hu
    split at h
    · cases ha; cases hb
      cases hc:(Pm x||Pm y) with
      | false=>rw[hc] at h; cases h
      | true =>
        rw[hc] at h
        cases h
        refine bH (bT λ d=>by simp[Op.equalIn,aE hu]) (by cases neg<;>rfl) ?_
        cases x<;>cases y<;>first | (cases hc; done) | (cases neg<;>simp[eqGuard])
    · cases h; cases ha
      simp only[rv,Option.map_eq_some_iff] at hb;obtain⟨u,_,rfl⟩:=hb;exact bH (bT λ d=>by simp[Op.equalIn,aE hu]) (by cases neg<;>rfl) (by cases neg<;>simp[eqGuard])
    · cases h; cases hb
      simp only[rv,Option.map_eq_some_iff] at ha;obtain⟨u,_,rfl⟩:=ha;exact bH (bT λ d=>by simp[Op.equalIn,aE hu]) (by cases neg<;>rfl) (by cases neg<;>simp[eqGuard])
    · cases h
  · rename_i hu
    split at h
    · cases h
      cases fK ha; cases fK hb
      exact bH (bT λ d=>by simp[Op.equalIn,aE hu]) (by cases neg<;>rfl) (by cases neg<;>simp[eqGuard])
    · cases h
  · split at h
    · rename_i xs ys
      cases hg:P.eqGuardType P.depth ty with
      | true=>rw[hg] at h; cases h
      | false =>
        rw[hg] at h;simp only[cond_false] at h;obtain⟨vxs,hxs,rfl⟩:=mF ha;obtain⟨vys,hys,rfl⟩:=mF hb;have he:=BU 12 ty _ _ _ _ r h ha hb;have hF:HP P ty neg (.agg vxs.toArray) (.agg vys.toArray)=some λ K=>K (.bool (cond neg (!r) r)):=by
          unfold HP;simp only[hg,cond_false,he]
        obtain⟨v,hr,rfl⟩:=rj (x:=x) (y:=y) hF (K:=λ v=>v=.bool (cond neg (!r) r)) rfl;exact hr w
    · cases h
def Ic(P:Program)(op:BinOp)(ty:TypeId)(x y:Operand)(a b:AV):Option AV:=match a with
  | .int k n=>match b with
    | .int k' m=>match op with
      | .shl=>Ih .shl k n m
      | .shr=>Ih .shr k n m
      | op=>cond (Dp k k') (BV op k n m) none
    | _=>none
  | .str l=>match b with
    | .str m=>QK op l m
    | _=>none
  | a=>match op with
    | .eql=>(Nu P ty (Pm x||Pm y) a b).map .bool
    | .neq=>(Nu P ty (Pm x||Pm y) a b).map λ b=>.bool (not b)
    | _=>none
theorem GH{op:BinOp}{k k' : IntKind}{n m:Int}{r:AV}(h:Ih op k n m=some r)(P:Program)(ρ:Names):∃ v,rv ρ r=some v/\∀ w,(Op.shift op k n k' m).run P w=.ok v w:=by
  unfold Ih at h
  cases hm:DI 0 m with
  | false=>rw[hm] at h; cases h
  | true =>
    rw[hm] at h;have hm' : (0:Int)<=m:=by rw[uL] at hm; simpa using hm
    simp only[cond_true] at h
    split at h
    · cases h
      exact⟨_,by rw[eG]; rfl,λ w=>by simp[Op.shift,Int.not_lt.2 hm',dD]⟩
    · cases h
      exact⟨_,by rw[eG]; rfl,λ w=>by simp[Op.shift,Int.not_lt.2 hm']⟩
    · cases h
theorem Nq{op:BinOp}{k:IntKind}{n m:Int}{r:AV}(h:BV op k n m=some r)(P:Program)(ρ:Names)(ty:TypeId):∃ v,rv ρ r=some v/\∀ w,(binOp op ty (.int k n) (.int k m)).run P w=.ok v w:=by
  have hlt:∀ a b:Int,(!DI b a)=decide (a<b):=λ a b=>by rw[uL,Bool.eq_iff_iff]; simp
  cases op<;>simp only[BV] at h
  case add=>cases h; refine⟨_,by rw[eG]; rfl,λ w=>?_⟩; simp[binOp,Op.intArith,dD]
  case sub=>cases h; refine⟨_,by rw[eG]; rfl,λ w=>?_⟩; simp[binOp,Op.intArith,dD]; rfl
  case mul=>cases h; refine⟨_,by rw[eG]; rfl,λ w=>?_⟩; simp[binOp,Op.intArith,dD]
  case quo =>
    cases hb:Jj m 0 with
    | true=>rw[hb] at h; cases h
    | false =>
      rw[hb] at h
      cases h
      have hz:m≠0:=by rw[uK] at hb; simpa using hb
      refine⟨_,by rw[eG]; rfl,λ w=>?_⟩;simp[binOp,Op.intDiv,hz,dD]
  case rem =>
    cases hb:Jj m 0 with
    | true=>rw[hb] at h; cases h
    | false =>
      rw[hb] at h
      cases h
      have hz:m≠0:=by rw[uK] at hb; simpa using hb
      refine⟨_,by rw[eG]; rfl,λ w=>?_⟩;simp[binOp,Op.intDiv,hz]
  case and=>cases h; refine⟨_,by rw[eG]; rfl,λ w=>?_⟩; simp only[binOp,dD]; simp[Op.intBits]
  case or=>cases h; refine⟨_,by rw[eG]; rfl,λ w=>?_⟩; simp only[binOp,dD]; simp[Op.intBits]
  case xor=>cases h; refine⟨_,by rw[eG]; rfl,λ w=>?_⟩; simp only[binOp,dD]; simp[Op.intBits]
  case andNot=>cases h; refine⟨_,by rw[eG]; rfl,λ w=>?_⟩; simp only[binOp,dD]; simp[Op.intBits]
  case shl=>cases h
  case shr=>cases h
  case eql=>cases h; refine⟨_,rfl,λ w=>?_⟩; simp[binOp,Op.intCmp,uK]
  case neq=>cases h; refine⟨_,rfl,λ w=>?_⟩; simp[binOp,Op.intCmp,uK,bne]
  case lss=>cases h; refine⟨_,rfl,λ w=>?_⟩; rw[hlt]; simp[binOp,Op.intCmp]
  case leq=>cases h; refine⟨_,rfl,λ w=>?_⟩; rw[uL]; simp[binOp,Op.intCmp]
  case gtr=>cases h; refine⟨_,rfl,λ w=>?_⟩; rw[hlt]; simp[binOp,Op.intCmp]
  case geq=>cases h; refine⟨_,rfl,λ w=>?_⟩; rw[uL]; simp[binOp,Op.intCmp]
theorem NB{op:BinOp}{a b:List UInt8}{r:AV}(h:QK op a b=some r)(P:Program)(ρ:Names)(ty:TypeId):∃ v,rv ρ r=some v/\∀ w,(binOp op ty (.string ⟨a.toArray⟩) (.string ⟨b.toArray⟩)).run P w=.ok v w:=by
  have e1:(⟨a.toArray⟩:ByteArray).size=a.length:=by simp[ByteArray.size]
  have e2:(⟨b.toArray⟩:ByteArray).size=b.length:=by simp[ByteArray.size]
  cases op<;>simp only[QK] at h
  case add =>
    cases hb:Nat.ble (a.length+b.length) 9223372036854775807 with
    | false=>rw[hb] at h; cases h
    | true =>
      rw[hb] at h
      cases h
      have hl:=Nat.le_of_ble_eq_true hb;refine⟨.string (⟨a.toArray⟩++⟨b.toArray⟩),?_,λ w=>?_⟩
      · simp only[rv]
        congr 2
      · have hm:IntKind.i64.max=9223372036854775807:=rfl;have hs : ¬ ((((⟨a.toArray⟩:ByteArray).size+(⟨b.toArray⟩:ByteArray).size:Nat):Int)>IntKind.i64.max):=by
          rw[hm,e1,e2];omega
        simp only[binOp,Op.stringOp,if_neg hs,Sem.run_pure]
  case eql=>cases h; exact⟨_,rfl,λ w=>by simp[binOp,Op.stringOp,mB,ByteArray.toList_mk]⟩
  case neq=>cases h; exact⟨_,rfl,λ w=>by simp[binOp,Op.stringOp,mB,ByteArray.toList_mk]⟩
  case lss=>cases h; exact⟨_,rfl,λ w=>by simp[binOp,Op.stringOp,ByteArray.toList_mk]⟩
  case leq=>cases h; exact⟨_,rfl,λ w=>by simp[binOp,Op.stringOp,mB,ByteArray.toList_mk]⟩
  case gtr=>cases h; exact⟨_,rfl,λ w=>by simp[binOp,Op.stringOp,mB,ByteArray.toList_mk]⟩
  case geq=>cases h; exact⟨_,rfl,λ w=>by simp[binOp,Op.stringOp,ByteArray.toList_mk]⟩
  all_goals cases h
theorem Fj{P:Program}{op:BinOp}{ty:TypeId}{x y:Operand}{k k' : IntKind}{n m:Int}{w:World}:(eqGuard op ty x y (.int k n) (.int k' m)).run P w=.ok () w:=by
  cases op<;>simp[eqGuard]
theorem DF{P:Program}{op:BinOp}{ty:TypeId}{x y:Operand}{a b:ByteArray}{w:World}:(eqGuard op ty x y (.string a) (.string b)).run P w=.ok () w:=by
  cases op<;>simp[eqGuard]
theorem Nf{P:Program}{ρ:Names}{op:BinOp}{ty:TypeId}{x y:Operand}{a b r:AV}{vx vy:Value}(h:Ic P op ty x y a b=some r)(ha:rv ρ a=some vx)(hb:rv ρ b=some vy) :
    iP P ρ (do eqGuard op ty x y vx vy; binOp op ty vx vy) r:=by
  unfold Ic at h
  split at h
  · rename_i k n
    cases bX ha
    split at h
    · rename_i k' m
      cases bX hb
      have key:∀ {s:Sem Value},binOp op ty (.int k n) (.int k' m)=s->(∃ v,rv ρ r=some v/\∀ w,s.run P w=.ok v w)->iP P ρ (do eqGuard op ty x y (.int k n) (.int k' m); binOp op ty (.int k n) (.int k' m)) r:=λ {s} he hs=>by
        obtain⟨v,h1,h2⟩:=hs;exact⟨v,h1,λ w=>by simp only[Sem.run_bind,Fj,Result.andThen_ok,he,h2]⟩
      split at h
      · exact key rfl (GH (k':=k') h P ρ)
      · exact key rfl (GH (k':=k') h P ρ)
      · cases he:Dp k k' with
        | false=>rw[he] at h; cases h
        | true =>
          have:=je he;subst this;rw[he] at h;exact key rfl (Nq h P ρ ty)
    · cases h
  · rename_i l
    cases fM ha
    split at h
    · rename_i m
      cases fM hb
      obtain⟨v,h1,h2⟩:=NB h P ρ ty;exact⟨v,h1,λ w=>by simp only[Sem.run_bind,DF,Result.andThen_ok,h2]⟩
    · cases h
  · split at h
    · simp only[Option.map_eq_some_iff] at h;obtain⟨c,hc,rfl⟩:=h;exact⟨_,rfl,λ w=>GG hc ha hb false w⟩
    · simp only[Option.map_eq_some_iff] at h;obtain⟨c,hc,rfl⟩:=h;exact⟨_,rfl,λ w=>GG hc ha hb true w⟩
    · cases h
def Ig(P:Program)(ty:TypeId)(f:Nat):Option Nat:=match P.underlying ty with
  | some (.struct fs)=>match fs[f]? with
    | some fd=>match cZ P fd.type with
      | some (_+1)=>some fd.offset
      | _=>none
    | none=>none
  | _=>none
theorem Nw{P:Program}{ty:TypeId}{f off b o:Nat}(h:Ig P ty f=some off)(w:World):(Instr.fieldAt ty (.pointer (some ⟨b,o,none⟩)) f).run P w=.ok (.pointer (some ⟨b,o+off,none⟩)) w:=by
  unfold Ig at h
  split at h
  · rename_i fs hu
    split at h
    · rename_i fd hf
      split at h
      · rename_i k hs
        cases h
        simp[Instr.fieldAt,aE hu,hf,Instr.sureAddr,fieldPlace,bO hs,aV]
      · cases h
    · cases h
  · cases h
def Kb(P:Program)(ty:TypeId)(a:AV)(f:Nat):Option AV:=match P.underlying ty,a with
  | some (.struct fs),.agg cs=>match fs[f]? with
    | some fd=>vV P fd.type cs fd.offset
    | none=>none
  | _,_=>none
theorem No{P:Program}{ρ:Names}{ty:TypeId}{a r:AV}{f:Nat}{v:Value}(h:Kb P ty a f=some r)(ha:rv ρ a=some v):iP P ρ (Instr.field ty v f) r:=by
  unfold Kb at h
  split at h
  · rename_i fs cs hu
    split at h
    · rename_i fd hf;obtain⟨vs,hvs,rfl⟩:=mF ha;obtain⟨u,h1,h2⟩:=lu h hvs;exact⟨u,h2,λ w=>by simp[Instr.field,aE hu,hf,asAgg,lz h1]⟩
    · cases h
  · cases h
def nP{α:Type}:List α->Nat->Option α
  | [],_=>none
  | a :: _,0=>some a
  | _ :: l,n+1=>nP l n
theorem xk{α:Type}:∀ (l:List α) (i:Nat),nP l i=l[i]?
  | [],_=>rfl
  | _ :: _,0=>rfl
  | _ :: l,i+1=>by rw[List.getElem?_cons_succ]; exact xk l i
def Kc(P:Program)(ty:TypeId)(a i:AV):Option AV:=match i with
  | .int _ (.ofNat n)=>match P.underlying ty,a with
    | some .string,.str l=>match nP l n with
      | some b=>some (.int .u8 (.ofNat b.toNat))
      | none=>none
    | some (.array len e),.agg cs=>match cZ P e with
      | some sz=>cond (Nat.ble (Nat.succ n) len) (vV P e cs (Nat.mul n sz)) none
      | none=>none
    | _,_=>none
  | _=>none
theorem Np{P:Program}{ρ:Names}{ty:TypeId}{a i r:AV}{v vi:Value}(h:Kc P ty a i=some r)(ha:rv ρ a=some v)(hi:rv ρ i=some vi):iP P ρ (Instr.index ty v vi) r:=by
  unfold Kc at h
  split at h
  · rename_i k n
    cases bX hi
    split at h
    · rename_i l hu
      cases fM ha
      split at h
      · rename_i b hb
        cases h
        refine⟨_,rfl,λ w=>?_⟩;have hb' : (⟨l.toArray⟩:ByteArray)[n]? = some b:=by
          rw[xk] at hb;obtain⟨h1,h2⟩:=List.getElem?_eq_some_iff.1 hb;have:n<(⟨l.toArray⟩:ByteArray).size:=by simpa[ByteArray.size] using h1
          rw[getElem?_pos (⟨l.toArray⟩:ByteArray) n this,<- h2];rfl
        simp[Instr.index,asIntOf,aE hu,hb']
      · cases h
    · rename_i len e cs hu
      split at h
      · rename_i sz hsz
        cases hb:Nat.ble (Nat.succ n) len with
        | false=>rw[hb] at h; cases h
        | true =>
          rw[hb] at h;have hlt:n<len:=Nat.le_of_ble_eq_true hb;obtain⟨vs,hvs,rfl⟩:=mF ha;obtain⟨u,h1,h2⟩:=lu h hvs;have h1:oT P e vs.toArray (n*sz)=some u:=h1;exact⟨u,h2,λ w=>by simp[Instr.index,asIntOf,aE hu,hlt,bO hsz,lz h1]⟩
      · cases h
    · cases h
  · cases h
def Kf(P:Program)(ty:TypeId)(a i:AV):Option AV:=match i with
  | .int _ (.ofNat n)=>match P.underlying ty,a with
    | some (.slice e),.sli j o l z=>match cZ P e with
      | some sz=>cond (Nat.ble (Nat.succ n) l&&Nat.beq sz z) (some (.ptr j (Nat.mul (Nat.add o n) z))) none
      | none=>none
    | some (.array len e),.ptr j o=>match cZ P e with
      | some sz=>cond (Nat.ble (Nat.succ n) len) (some (.ptr j (Nat.add o (Nat.mul n sz)))) none
      | none=>none
    | _,_=>none
  | _=>none
theorem Nr{P:Program}{ρ:Names}{ty:TypeId}{a i r:AV}{v vi:Value}(h:Kf P ty a i=some r)(ha:rv ρ a=some v)(hi:rv ρ i=some vi):iP P ρ (Instr.indexAt ty v vi) r:=by
  unfold Kf at h
  split at h
  · rename_i k n
    cases bX hi
    split at h
    · rename_i e j o l z hu
      split at h
      · rename_i sz hsz
        cases hb:(Nat.ble (Nat.succ n) l&&Nat.beq sz z) with
        | false=>rw[hb] at h; cases h
        | true =>
          rw[hb] at h
          cases h
          simp only[Bool.and_eq_true] at hb;have hlt:n<l:=Nat.le_of_ble_eq_true hb.1;obtain rfl:=beq_iff.1 hb.2;obtain⟨L,hL,_,_,rfl⟩:=cY ha;refine⟨.pointer (some ⟨L.b,(o+n)*sz,none⟩),?_,λ w=>?_⟩
          · simp only[rv,hL,Option.map_some]; rfl
          · have hadd:(⟨L.b,o*sz,none⟩:Addr).add (n*sz)=⟨L.b,(o+n)*sz,none⟩:=by rw[aV,Nat.add_mul]
            simp[Instr.indexAt,asIntOf,aE hu,hlt,bO hsz,hadd]
      · cases h
    · rename_i len e j o hu
      split at h
      · rename_i sz hsz
        cases hb:Nat.ble (Nat.succ n) len with
        | false=>rw[hb] at h; cases h
        | true =>
          rw[hb] at h
          cases h
          have hlt:n<len:=Nat.le_of_ble_eq_true hb;obtain⟨L,hL,rfl⟩:=fL ha;refine⟨.pointer (some ⟨L.b,o+n*sz,none⟩),?_,λ w=>?_⟩
          · simp only[rv,hL,Option.map_some]; rfl
          · simp[Instr.indexAt,Instr.sureAddr,asIntOf,aE hu,hlt,bO hsz,aV]
      · cases h
    · cases h
  · cases h
def zS(x:Option AV)(d top:Nat):Option Nat:=match x with
  | none=>some d
  | some (.int _ (.ofNat n))=>cond (Nat.ble n top) (some n) none
  | some _=>none
theorem p8{ρ:Names}{x:Option AV}{vx:Option Value}{d top n:Nat}{F:Nat->Prop}(h:zS x d top=some n)(hx:∀ a,x=some a->∃ v,vx=some v/\rv ρ a=some v)(hn:x=none->vx=none)(k:F n){top' : Nat}(ht:top<=top') :
    nE vx d top' F:=by
  unfold zS at h
  split at h
  · cases h
    rw[hn rfl];exact k
  · rename_i kk m
    cases hb:Nat.ble m top with
    | false=>rw[hb] at h; cases h
    | true =>
      rw[hb] at h
      cases h
      obtain⟨v,rfl,hv⟩:=hx _ rfl
      cases bX hv
      refine⟨by simp,?_,by simpa using k⟩;have:=Nat.le_of_ble_eq_true hb;simp only[Int.ofNat_eq_natCast];omega
  · cases h
theorem tg{x:Option AV}{d top n:Nat}(h:zS x d top=some n)(hd:d<=top):n<=top:=by
  unfold zS at h
  split at h
  · cases h; exact hd
  · rename_i kk m
    cases hb:Nat.ble m top with
    | false=>rw[hb] at h; cases h
    | true=>rw[hb] at h; cases h; exact Nat.le_of_ble_eq_true hb
  · cases h
def QJ(P:Program)(ty:TypeId)(a:AV)(lo hi:Option AV):Option AV:=match P.underlying ty,a with
  | some .string,.str s=>match zS hi s.length s.length with
    | some h=>match zS lo 0 h with
      | some l=>some (.str ((s.drop l).take (Nat.sub h l)))
      | none=>none
    | none=>none
  | some (.slice e),.sli i o len z=>match cZ P e,zS hi len len with
    | some sz,some h=>match zS lo 0 h with
      | some l=>cond (Nat.beq sz z&&(Nat.beq l 0||Nat.ble (Nat.succ l) len)) (some (.sli i (Nat.add o l) (Nat.sub h l) z)) none
      | none=>none
    | _,_=>none
  | some (.slice e),.nils=>match cZ P e,zS hi 0 0 with
    | some _,some h=>match zS lo 0 h with
      | some _=>some .nils
      | none=>none
    | _,_=>none
  | _,_=>none
theorem Nz{P:Program}{ρ:Names}{ty:TypeId}{a r:AV}{lo hi:Option AV}{v:Value}{vlo vhi:Option Value}(h:QJ P ty a lo hi=some r)(ha:rv ρ a=some v)(hlo:∀ a,lo=some a->∃ v,vlo=some v/\rv ρ a=some v)(hlo0:lo=none->vlo=none)(hhi:∀ a,hi=some a->∃ v,vhi=some v/\rv ρ a=some v)(hhi0:hi=none->vhi=none):iP P ρ (Instr.sliceAt ty v vlo vhi none) r:=by
  have key:∀ u,rv ρ r=some u->RL P ty v vlo vhi none (λ x=>x=u)->iP P ρ (Instr.sliceAt ty v vlo vhi none) r:=λ u hu hs=>by
    obtain⟨x,hr,rfl⟩:=Hx hs;exact⟨x,hu,hr⟩
  unfold QJ at h
  split at h
  · rename_i s hu
    cases fM ha
    split at h
    · rename_i hh hhe
      split at h
      · rename_i l hle
        cases h
        refine key _ rfl ?_;unfold RL;simp only[hu];have hs:(⟨s.toArray⟩:ByteArray).size=s.length:=by simp[ByteArray.size]
        rw[hs];refine p8 hhe hhi hhi0 (p8 hle hlo hlo0 ?_ (Nat.le_refl _)) (Nat.le_refl _)
        congr 1
        apply ByteArray.ext;have h1:=tg hhe (Nat.le_refl _);simp only[ByteArray.data_extract];simp[List.extract_eq_take_drop]
        try rfl
      · cases h
    · cases h
  · rename_i e i o len z hu
    split at h
    · rename_i sz hh hsz hhe
      split at h
      · rename_i l hle
        cases hb:(Nat.beq sz z&&(Nat.beq l 0||Nat.ble (Nat.succ l) len)) with
        | false=>rw[hb] at h; cases h
        | true =>
          rw[hb] at h
          cases h
          simp only[Bool.and_eq_true,Bool.or_eq_true] at hb;obtain rfl:=beq_iff.1 hb.1;obtain⟨L,hL,hle1,hesz,rfl⟩:=cY ha;have h1:=tg hhe (Nat.le_refl _);have h2:=tg hle (Nat.zero_le _);refine key (.slice (some ⟨L.b,(o+l)*sz,none⟩) (hh-l) (L.tot-(o+l))) ?_ ?_
          · have e1:Nat.add o l=o+l:=rfl;have e2:Nat.sub hh l=hh-l:=rfl;simp only[rv,hL,Option.bind_some,e1,e2];rw[if_pos ⟨by omega,hesz⟩]
          · unfold RL;simp only[hu,Option.isSome_none,Bool.false_and,cond_false,hsz,ay];show nE vhi len (L.tot-o) (λ h=>nE vlo 0 h λ l_1=>Value.slice (if (L.tot-o)=l_1 then some (⟨L.b,o*sz,none⟩:Addr) else Option.map (λ x:Addr=>x.add (l_1*sz)) (some (⟨L.b,o*sz,none⟩:Addr))) (h-l_1) (L.tot-o-l_1)=Value.slice (some (⟨L.b,(o+l)*sz,none⟩:Addr)) (hh-l) (L.tot-(o+l)));refine p8 hhe hhi hhi0 (p8 hle hlo hlo0 ?_ (Nat.le_refl _)) (by omega);have hc:(L.tot-o-l)=L.tot-(o+l):=by omega
            rw[hc]
            congr 1
            rcases hb.2 with h0 | h0
            · have:=beq_iff.1 h0;subst this
              split
              · simp
              · simp[aV]
            · have:=Nat.le_of_ble_eq_true h0;rw[if_neg (by omega)];simp[aV,Nat.add_mul]
      · cases h
    · cases h
  · rename_i e hu
    cases ha
    split at h
    · rename_i sz hh hsz hhe
      split at h
      · rename_i l hle
        cases h
        have h1:=tg hhe (Nat.le_refl _);have h2:=tg hle (Nat.zero_le _);have e1:hh=0:=by omega
        have e2:l=0:=by omega
        subst e1 e2;refine key (.slice none 0 0) rfl ?_;unfold RL;simp only[hu,Option.isSome_none,Bool.false_and,cond_false,hsz,ay];show nE vhi 0 0 (λ h=>nE vlo 0 h λ l=>Value.slice (if 0=l then none else Option.map (λ x:Addr=>x.add (l*sz)) none) (h-l) (0-l)=Value.slice none 0 0);exact p8 hhe hhi hhi0 (p8 hle hlo hlo0 (by simp) (Nat.le_refl _)) (Nat.le_refl _)
      · cases h
    · cases h
  · cases h
def setAt{α:Type}:List α->Nat->List α->List α
  | [],_,_=>[]
  | x :: l,0,[]=>x :: l
  | _ :: l,0,c :: cs=>c :: setAt l 0 cs
  | x :: l,n+1,cs=>x :: setAt l n cs
theorem lE{α:Type}:∀ (l:List α) (n:Nat),setAt l n []=l
  | [],_=>rfl
  | _ :: _,0=>rfl
  | _ :: l,n+1=>by simp[setAt,lE l n]
theorem zk{α:Type}:∀ (l:List α) (n:Nat) (c:α) (cs:List α),setAt l n (c :: cs)=setAt (l.set n c) (n+1) cs
  | [],_,_,_=>rfl
  | _ :: _,0,_,_=>rfl
  | x :: l,n+1,c,cs=>by simp[setAt,zk l n c cs]
theorem cQ{α:Type}:∀ (l:List α) (n:Nat) (cs:List α),(setAt l n cs).length=l.length
  | [],_,_=>rfl
  | _ :: _,0,[]=>rfl
  | _ :: l,0,_ :: cs=>by simp[setAt,cQ l 0 cs]
  | _ :: l,n+1,cs=>by simp[setAt,cQ l n cs]
theorem tT{α:Type}:∀ (l:List α) (n:Nat) (cs:List α),n+cs.length<=l.length->setAt l n cs=l.take n++cs++l.drop (n+cs.length)
  | [],n,cs,h=>by
    have h:n+cs.length<=0:=h;obtain⟨rfl,h2⟩:n=0/\cs.length=0:=by omega
    have:cs=[]:=List.eq_nil_of_length_eq_zero h2;subst this;rfl
  | _ :: _,0,[],_=>by simp[setAt]
  | _ :: l,0,_ :: cs,h=>by
    simp at h;simp[setAt,tT l 0 cs (by simpa using h)]
  | _ :: l,n+1,cs,h=>by
    simp at h;rw[setAt,tT l n cs (by omega),show n+1+cs.length=(n+cs.length)+1 by omega]
    simp
theorem mG{α:Type}:∀ (l:List α) (n:Nat) (cs:List α) (m:Nat),n+cs.length<=m->(setAt l n cs).take m=setAt (l.take m) n cs
  | [],_,_,_,_=>by simp[setAt]
  | _ :: _,0,[],m,_=>by simp[lE]
  | _ :: l,0,_ :: cs,m,h=>by
    simp at h;obtain⟨m',rfl⟩:∃ m',m=m' + 1:=⟨m-1,by omega⟩;simp[setAt,mG l 0 cs m' (by omega)]
  | _ :: l,n+1,cs,m,h=>by
    obtain⟨m',rfl⟩:∃ m',m=m' + 1:=⟨m-1,by omega⟩;simp[setAt,mG l n cs m' (by omega)]
theorem lF{ρ:Names}:∀ {l:List AV} {vs:List Value} (n:Nat) {cs:List AV} {us:List Value},dH ρ l=some vs->dH ρ cs=some us->dH ρ (setAt l n cs)=some (setAt vs n us)
  | [],_,_,_,_,h,_=>by cases h; rfl
  | x :: l,vs,0,[],us,h,k=>by
    cases k
    rw[lE,lE]; exact h
  | x :: l,vs,0,c :: cs,us,h,k=>by
    obtain⟨v,vs',rfl,h1,h2⟩:=aL h;obtain⟨u,us',rfl,k1,k2⟩:=aL k;exact eL k1 (lF 0 h2 k2)
  | x :: l,vs,n+1,cs,us,h,k=>by
    obtain⟨v,vs',rfl,h1,h2⟩:=aL h;exact eL h1 (lF n h2 k)
def bW:AV->List AV
  | .agg cs=>cs
  | v=>[v]
theorem iL{ρ:Names}{a:AV}{v:Value}(h:rv ρ a=some v):dH ρ (bW a)=some v.cells.toList:=by
  cases a with
  | agg cs =>
    obtain⟨vs,hvs,rfl⟩:=mF h;simpa[bW,Value.cells] using hvs
  | int k n=>cases bX h; rfl
  | bool b=>cases fK h; rfl
  | str l=>cases fM h; rfl
  | nilp=>cases h; rfl
  | nils=>cases h; rfl
  | nili=>cases h; rfl
  | nilf=>cases h; rfl
  | ptr i o=>obtain⟨L,hL,rfl⟩:=fL h; exact eL h rfl
  | sli i o l z=>obtain⟨L,hL,_,_,rfl⟩:=cY h; exact eL h rfl
  | iface T x =>
    have h':=h;simp only[rv,Option.map_eq_some_iff] at h';obtain⟨u,_,rfl⟩:=h';exact eL h rfl
  | fn f x y =>
    have h':=h;simp only[rv] at h'
    split at h'
    · cases h'; exact eL h rfl
    · cases h'
  | yld i =>
    have h':=h;simp only[rv,Option.map_eq_some_iff] at h';obtain⟨u,_,rfl⟩:=h';exact eL h rfl
  | tup vs=>obtain⟨us,_,rfl⟩:=FP h; exact eL h rfl
def vA(place:Nat->Option (Nat×Nat))(cells:List AV):List (Nat×AV)->Option (List AV)
  | []=>some cells
  | (i,v) :: rest=>match place i with
    | none=>none
    | some (off,size)=>cond (Nat.beq (bW v).length size&&Nat.ble (Nat.add off (bW v).length) cells.length) (vA place (setAt cells off (bW v)) rest) none
theorem HL(l:List Value):∀ (cs:List Value) (off j:Nat) ,((cs.zipIdx j).foldl (λ (a:Array Value) (x:Value×Nat)=>a.setIfInBounds (off+x.2) x.1) l.toArray)=(setAt l (off+j) cs).toArray
  | [],off,j=>by simp[lE]
  | c :: cs,off,j=>by
    simp only[List.zipIdx_cons,List.foldl_cons,zk];have:l.toArray.setIfInBounds (off+j) c=(l.set (off+j) c).toArray:=by simp
    rw[this,HL (l.set (off+j) c) cs off (j+1)];rfl
def yW(ρ:Names):List (Nat×AV)->List (Nat×Value)->Prop
  | [],[]=>True
  | p :: ps,q :: qs=>p.1=q.1/\rv ρ p.2=some q.2/\yW ρ ps qs
  | _,_=>False
theorem sA{ρ:Names}{place:Nat->Option (Nat×Nat)}:∀ {ps:List (Nat×AV)} {qs:List (Nat×Value)} {cells res:List AV} {vs:List Value},vA place cells ps=some res->dH ρ cells=some vs->yW ρ ps qs ->
    ∃ us,dH ρ res=some us/\Instr.fill place vs.toArray qs=some us.toArray
  | [],[],cells,res,vs,h,hv,_=>by cases h; exact⟨vs,hv,rfl⟩
  | [],_ :: _,_,_,_,_,_,hp=>hp.elim
  | _ :: _,[],_,_,_,_,_,hp=>hp.elim
  | (i,a) :: ps,(j,v) :: qs,cells,res,vs,h,hv,hp=>by
    obtain⟨rfl,ha,hp⟩:=hp;simp only[vA] at h;unfold Instr.fill
    split at h
    · cases h
    · rename_i off size hpl;simp only at hpl ha;simp only[hpl]
      cases hb:(Nat.beq (bW a).length size&&Nat.ble (Nat.add off (bW a).length) cells.length) with
      | false=>rw[hb] at h; cases h
      | true =>
        rw[hb] at h;simp only[Bool.and_eq_true] at hb;have h1:=beq_iff.1 hb.1;have h2:off+(bW a).length<=cells.length:=Nat.le_of_ble_eq_true hb.2;have hc:=iL ha;have hcl:=bt hc;have hvl:=bt hv;have hcl' : v.cells.size=size:=by rw[<- h1,<- hcl]; simp
        have hno : ¬ (v.cells.size≠size||decide (off+v.cells.size>vs.toArray.size))=true:=by
          simp[hcl'];rw[<- h1,hvl]; omega
        rw[if_neg hno];have hz:(v.cells.zipIdx.foldl (λ (cs:Array Value) (x:Value×Nat)=>cs.setIfInBounds (off+x.2) x.1) vs.toArray)=(setAt vs off v.cells.toList).toArray:=by
          have:=HL vs v.cells.toList off 0;rw[Nat.add_zero] at this;rw[<- this,<- Array.foldl_toList]
          congr 1
          simp
        obtain⟨us,h3,h4⟩:=sA (ps:=ps) (qs:=qs) h (lF off hv hc) hp;exact⟨us,h3,by rw[<- h4,<- hz]⟩
def wm(P:Program)(t:TypeId):Option AV:=match P.info? t with
  | some i=>match i.zero with
    | some v=>S8 v
    | none=>none
  | none=>none
theorem uk{P:Program}{t:TypeId}{a:AV}(h:wm P t=some a)(ρ:Names):∃ v,rv ρ a=some v/\(∃ i,P.info? t=some i/\i.zero=some v)/\∀ w,(zeroValue t).run P w=.ok v w:=by
  unfold wm at h
  split at h
  · rename_i i hi
    split at h
    · rename_i v hz;exact⟨v,KR h,⟨i,hi,hz⟩,λ w=>by simp[zeroValue,typeInfo,hi,hz]⟩
    · cases h
  · cases h
def K4(P:Program):List Field->Option (List (Nat×Nat))
  | []=>some []
  | f :: fs=>match cZ P f.type,K4 P fs with
    | some s,some l=>some ((f.offset,s) :: l)
    | _,_=>none
theorem Hi{P:Program}{w:World}:∀ {fs:List Field} {l:List (Nat×Nat)},K4 P fs=some l->(fs.mapM λ f=>(do pure (f.offset,<- sizeOf f.type):Sem (Nat×Nat))).run P w=.ok l w
  | [],l,h=>by cases h; simp
  | f :: fs,l,h=>by
    simp only[K4] at h
    cases hs:cZ P f.type with
    | none=>rw[hs] at h; cases h
    | some s =>
      cases hl:K4 P fs with
      | none=>rw[hs,hl] at h; cases h
      | some l' =>
        rw[hs,hl] at h
        cases h
        have ih:=Hi (w:=w) hl;simp only[List.mapM_cons,Sem.run_bind,bO hs,Sem.run_pure,Result.andThen_ok,ih]
def J8(P:Program)(ty:TypeId)(ps:List (Nat×AV)):Option AV:=match wm P ty with
  | some z=>match P.underlying ty with
    | some (.struct fs)=>match K4 P fs.toList with
      | some pl=>(vA (λ i=>nP pl i) (bW z) ps).map .agg
      | none=>none
    | some (.array _ e)=>match cZ P e with
      | some sz=>(vA (λ i=>some (Nat.mul i sz,sz)) (bW z) ps).map .agg
      | none=>none
    | _=>none
  | none=>none
theorem Ng{P:Program}{ρ:Names}{ty:TypeId}{ps:List (Nat×AV)}{qs:Array (Nat×Value)}{r:AV}(h:J8 P ty ps=some r)(hp:yW ρ ps qs.toList):iP P ρ (Instr.build ty qs) r:=by
  unfold J8 at h
  split at h
  · rename_i z hz;obtain⟨v,hv,_,hzr⟩:=uk hz ρ;have hvc:=iL hv
    split at h
    · rename_i fs hu
      split at h
      · rename_i pl hpl;simp only[Option.map_eq_some_iff] at h;obtain⟨res,hres,rfl⟩:=h;obtain⟨us,h1,h2⟩:=sA hres hvc hp;refine⟨.agg us.toArray,by simp only[rv,h1,Option.map_some],λ w=>?_⟩;have hm:(fs.mapM λ f=>(do pure (f.offset,<- sizeOf f.type):Sem (Nat×Nat))).run P w=.ok pl.toArray w:=by
          rw[Array.mapM_eq_mapM_toList];simp only[Sem.run_map,Hi hpl,Result.andThen_ok]
        have h2' : Instr.fill (λ x=>pl.toArray[x]?) v.cells qs.toList=some us.toArray:=by
          rw[<- h2]
          congr 1
          · funext x; rw[xk]; simp
        simp only[Instr.build,Sem.run_bind,hzr,aE hu,Result.andThen_ok,hm,h2']
        simp
      · cases h
    · rename_i n e hu
      split at h
      · rename_i sz hsz;simp only[Option.map_eq_some_iff] at h;obtain⟨res,hres,rfl⟩:=h;obtain⟨us,h1,h2⟩:=sA hres hvc hp;refine⟨.agg us.toArray,by simp only[rv,h1,Option.map_some],λ w=>?_⟩;have h2' : Instr.fill (λ i=>some (i*sz,sz)) v.cells qs.toList=some us.toArray:=by
          rw[<- h2]; rfl
        simp only[Instr.build,Sem.run_bind,hzr,aE hu,bO hsz,Result.andThen_ok,h2']
        simp
      · cases h
    · cases h
  · cases h
def wv(e:Tr AV):List (Nat×Operand)->Option (List (Nat×AV))
  | []=>some []
  | (i,x) :: l=>match eW e x,wv e l with
    | some a,some az=>some ((i,a) :: az)
    | _,_=>none
theorem Bk{ρ:Names}{e:Tr AV}{t:Tm}(he:dP ρ e t):∀ {l:List (Nat×Operand)} {az:List (Nat×AV)},wv e l=some az->yW ρ az (l.map λ x=>(x.1,ev t x.2))
  | [],_,h=>by cases h; trivial
  | (i,x) :: l,az,h=>by
    simp only[wv] at h
    cases ha:eW e x with
    | none=>rw[ha] at h; cases h
    | some a =>
      cases hl:wv e l with
      | none=>rw[ha,hl] at h; cases h
      | some bs =>
        rw[ha,hl] at h
        cases h
        exact⟨rfl,aW he ha,Bk he hl⟩
def Ie(P:Program)(ty:TypeId)(a:AV):Option AV:=match P.underlying ty,a with
  | some .string,.str s=>some (.int .i64 (.ofNat s.length))
  | some (.slice _),.sli _ _ l _=>some (.int .i64 (.ofNat l))
  | some (.slice _),.nils=>some (.int .i64 (.ofNat 0))
  | some (.array n _),_=>some (.int .i64 (.ofNat n))
  | some (.pointer b),_=>match P.underlying b with
    | some (.array n _)=>some (.int .i64 (.ofNat n))
    | _=>none
  | _,_=>none
theorem Ns{P:Program}{ρ:Names}{ty dst:TypeId}{a r:AV}{v:Value}{tys:Array TypeId}(h:Ie P ty a=some r)(ha:rv ρ a=some v)(ht:tys[0]? = some ty):iP P ρ (Builtin.len_ tys dst #[v]) r:=by
  unfold Ie at h
  split at h
  · rename_i s hu
    cases fM ha; cases h
    refine⟨_,rfl,λ w=>?_⟩;have hs:(⟨s.toArray⟩:ByteArray).size=s.length:=by simp[ByteArray.size]
    simp[Builtin.len_,ht,aE hu,hs,goInt]
  · rename_i e i o l z hu;obtain⟨L,_,_,_,rfl⟩:=cY ha
    cases h
    exact⟨_,rfl,λ w=>by simp[Builtin.len_,ht,aE hu,goInt]⟩
  · rename_i e hu
    cases ha; cases h
    exact⟨_,rfl,λ w=>by simp[Builtin.len_,ht,aE hu,goInt]⟩
  · rename_i n e hu
    cases h
    exact⟨_,rfl,λ w=>by simp[Builtin.len_,ht,aE hu,goInt]⟩
  · rename_i b hu
    split at h
    · rename_i n e hb
      cases h
      exact⟨_,rfl,λ w=>by simp[Builtin.len_,ht,aE hu,aE hb,goInt]⟩
    · cases h
  · cases h
def SO(mx:Bool):AV->List AV->Option AV
  | a,[]=>some a
  | a,b :: l=>match a,b with
    | .int k x,.int _ y=>SO mx (.int k (cond mx (cond (DI y x) x y) (cond (DI x y) x y))) l
    | _,_=>none
theorem Fi{P:Program}{ρ:Names}{mx:Bool}:∀ {l:List AV} {a r:AV} {vs:List Value} {v:Value},SO mx a l=some r->rv ρ a=some v->dH ρ l=some vs ->
    ∃ u,rv ρ r=some u/\∀ w,(vs.foldlM (cond mx Builtin.max2 Builtin.min2) v).run P w=.ok u w
  | [],a,r,vs,v,h,ha,hl=>by
    cases h; cases hl
    exact⟨v,ha,λ w=>by simp⟩
  | b :: l,a,r,vs,v,h,ha,hl=>by
    obtain⟨vb,vs',rfl,hb,hl'⟩:=aL hl;unfold SO at h
    split at h
    · rename_i k x k' y
      cases bX ha; cases bX hb
      obtain⟨u,h1,h2⟩:=Fi (P:=P) h rfl hl';refine⟨u,h1,λ w=>?_⟩;rw[List.foldlM_cons,Sem.run_bind];have h3:((cond mx Builtin.max2 Builtin.min2) (.int k x) (.int k' y)).run P w=.ok (.int k (cond mx (cond (DI y x) x y) (cond (DI x y) x y))) w:=by
        cases mx with
        | true =>
          simp only[cond_true,Builtin.max2,Sem.run_pure,uL]
          by_cases hc:y<=x
          · simp[hc,Int.not_lt.2 hc]
          · simp[hc,Int.not_le.1 hc]
        | false =>
          simp only[cond_false,Builtin.min2,Sem.run_pure,uL]
          by_cases hc:x<=y
          · simp[hc,Int.not_lt.2 hc]
          · simp[hc,Int.not_le.1 hc]
      rw[h3];exact h2 w
    · cases h
end Go.Gx
