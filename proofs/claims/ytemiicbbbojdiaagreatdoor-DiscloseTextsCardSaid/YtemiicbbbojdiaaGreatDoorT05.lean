import Derived.Lib.UnsafeStr
import Derived.Lib.ConvBytes
import Derived.Lib.Bytealg
import Derived.Lib.MakeNoZero
import Derived.Lib.Builder
import Derived.Laws.Externs
import Derived.Test.YtemiicbbbojdiaaGreatDoorT04
set_option linter.unusedVariables false
set_option maxRecDepth 100000
noncomputable section
namespace Go.Gx
open Go Go.Vc
def setAt{α:Type}:List α->Nat->List α->List α
  | [],_,_=>[]
  | x :: l,0,[]=>x :: l
  | _ :: l,0,c :: cs=>c :: setAt l 0 cs
  | x :: l,n+1,cs=>x :: setAt l n cs
theorem dK{α:Type}:∀ (l:List α) (n:Nat),setAt l n []=l
  | [],_=>rfl
  | _ :: _,0=>rfl
  | _ :: l,n+1=>by simp[setAt,dK l n]
theorem iW{α:Type}:∀ (l:List α) (n:Nat) (c:α) (cs:List α),setAt l n (c :: cs)=setAt (l.set n c) (n+1) cs
  | [],_,_,_=>rfl
  | _ :: _,0,_,_=>rfl
  | x :: l,n+1,c,cs=>by simp[setAt,iW l n c cs]
theorem br{α:Type}:∀ (l:List α) (n:Nat) (cs:List α),(setAt l n cs).length=l.length
  | [],_,_=>rfl
  | _ :: _,0,[]=>rfl
  | _ :: l,0,_ :: cs=>by simp[setAt,br l 0 cs]
  | _ :: l,n+1,cs=>by simp[setAt,br l n cs]
theorem fR{α:Type}:∀ (l:List α) (n:Nat) (cs:List α),n+cs.length<=l.length->setAt l n cs=l.take n++cs++l.drop (n+cs.length)
  | [],n,cs,h=>by
    have h:n+cs.length<=0:=h;obtain⟨rfl,h2⟩:n=0/\cs.length=0:=by omega
    have:cs=[]:=List.eq_nil_of_length_eq_zero h2;subst this;rfl
  | _ :: _,0,[],_=>by simp[setAt]
  | _ :: l,0,_ :: cs,h=>by
    simp at h;simp[setAt,fR l 0 cs (by simpa using h)]
  | _ :: l,n+1,cs,h=>by
    simp at h;rw[setAt,fR l n cs (by omega),show n+1+cs.length=(n+cs.length)+1 by omega]
    simp
theorem dY{α:Type}:∀ (l:List α) (n:Nat) (cs:List α) (m:Nat),n+cs.length<=m->(setAt l n cs).take m=setAt (l.take m) n cs
  | [],_,_,_,_=>by simp[setAt]
  | _ :: _,0,[],m,_=>by simp[dK]
  | _ :: l,0,_ :: cs,m,h=>by
    simp at h;obtain⟨m',rfl⟩:∃ m',m=m' + 1:=⟨m-1,by omega⟩;simp[setAt,dY l 0 cs m' (by omega)]
  | _ :: l,n+1,cs,m,h=>by
    obtain⟨m',rfl⟩:∃ m',m=m' + 1:=⟨m-1,by omega⟩;simp[setAt,dY l n cs m' (by omega)]
theorem dL{ρ:Names}:∀ {l:List AV} {vs:List Value} (n:Nat) {cs:List AV} {us:List Value},bz ρ l=some vs->bz ρ cs=some us->bz ρ (setAt l n cs)=some (setAt vs n us)
  | [],_,_,_,_,h,_=>by cases h; rfl
  | x :: l,vs,0,[],us,h,k=>by
    cases k
    rw[dK,dK]; exact h
  | x :: l,vs,0,c :: cs,us,h,k=>by
    obtain⟨v,vs',rfl,h1,h2⟩:=aq h;obtain⟨u,us',rfl,k1,k2⟩:=aq k;exact bN k1 (dL 0 h2 k2)
  | x :: l,vs,n+1,cs,us,h,k=>by
    obtain⟨v,vs',rfl,h1,h2⟩:=aq h;exact bN h1 (dL n h2 k)
def aT:AV->List AV
  | .agg cs=>cs
  | v=>[v]
theorem cK{ρ:Names}{a:AV}{v:Value}(h:rv ρ a=some v):bz ρ (aT a)=some v.cells.toList:=by
  cases a with
  | agg cs =>
    obtain⟨vs,hvs,rfl⟩:=dX h;simpa[aT,Value.cells] using hvs
  | int k n=>cases aU h; rfl
  | bool b=>cases bL h; rfl
  | str l=>cases bW h; rfl
  | nilp=>cases h; rfl
  | nils=>cases h; rfl
  | nili=>cases h; rfl
  | nilf=>cases h; rfl
  | ptr i o=>obtain⟨L,hL,rfl⟩:=bV h; exact bN h rfl
  | sli i o l z=>obtain⟨L,hL,_,_,rfl⟩:=bw h; exact bN h rfl
  | iface T x =>
    have h':=h;simp only[rv,Option.map_eq_some_iff] at h';obtain⟨u,_,rfl⟩:=h';exact bN h rfl
  | fn f x y =>
    have h':=h;simp only[rv] at h'
    split at h'
    · cases h'; exact bN h rfl
    · cases h'
  | yld i =>
    have h':=h;simp only[rv,Option.map_eq_some_iff] at h';obtain⟨u,_,rfl⟩:=h';exact bN h rfl
  | tup vs=>obtain⟨us,_,rfl⟩:=n8 h; exact bN h rfl
def gw(place:Nat->Option (Nat×Nat))(cells:List AV):List (Nat×AV)->Option (List AV)
  | []=>some cells
  | (i,v) :: rest=>match place i with
    | none=>none
    | some (off,size)=>cond (Nat.beq (aT v).length size&&Nat.ble (Nat.add off (aT v).length) cells.length) (gw place (setAt cells off (aT v)) rest) none
theorem pq(l:List Value):∀ (cs:List Value) (off j:Nat) ,((cs.zipIdx j).foldl (λ (a:Array Value) (x:Value×Nat)=>a.setIfInBounds (off+x.2) x.1) l.toArray)=(setAt l (off+j) cs).toArray
  | [],off,j=>by simp[dK]
  | c :: cs,off,j=>by
    simp only[List.zipIdx_cons,List.foldl_cons,iW];have:l.toArray.setIfInBounds (off+j) c=(l.set (off+j) c).toArray:=by simp
    rw[this,pq (l.set (off+j) c) cs off (j+1)];rfl
def iN(ρ:Names):List (Nat×AV)->List (Nat×Value)->Prop
  | [],[]=>True
  | p :: ps,q :: qs=>p.1=q.1/\rv ρ p.2=some q.2/\iN ρ ps qs
  | _,_=>False
theorem fE{ρ:Names}{place:Nat->Option (Nat×Nat)}:∀ {ps:List (Nat×AV)} {qs:List (Nat×Value)} {cells res:List AV} {vs:List Value},gw place cells ps=some res->bz ρ cells=some vs->iN ρ ps qs ->
    ∃ us,bz ρ res=some us/\Instr.fill place vs.toArray qs=some us.toArray
  | [],[],cells,res,vs,h,hv,_=>by cases h; exact⟨vs,hv,rfl⟩
  | [],_ :: _,_,_,_,_,_,hp=>hp.elim
  | _ :: _,[],_,_,_,_,_,hp=>hp.elim
  | (i,a) :: ps,(j,v) :: qs,cells,res,vs,h,hv,hp=>by
    obtain⟨rfl,ha,hp⟩:=hp;simp only[gw] at h;unfold Instr.fill
    split at h
    · cases h
    · rename_i off size hpl;simp only at hpl ha;simp only[hpl]
      cases hb:(Nat.beq (aT a).length size&&Nat.ble (Nat.add off (aT a).length) cells.length) with
      | false=>rw[hb] at h; cases h
      | true =>
        rw[hb] at h;simp only[Bool.and_eq_true] at hb;have h1:=beq_iff.1 hb.1;have h2:off+(aT a).length<=cells.length:=Nat.le_of_ble_eq_true hb.2;have hc:=cK ha;have hcl:=aF hc;have hvl:=aF hv;have hcl' : v.cells.size=size:=by rw[<- h1,<- hcl]; simp
        have hno : ¬ (v.cells.size≠size||decide (off+v.cells.size>vs.toArray.size))=true:=by
          simp[hcl'];rw[<- h1,hvl]; omega
        rw[if_neg hno];have hz:(v.cells.zipIdx.foldl (λ (cs:Array Value) (x:Value×Nat)=>cs.setIfInBounds (off+x.2) x.1) vs.toArray)=(setAt vs off v.cells.toList).toArray:=by
          have:=pq vs v.cells.toList off 0;rw[Nat.add_zero] at this;rw[<- this,<- Array.foldl_toList]
          congr 1
          simp
        obtain⟨us,h3,h4⟩:=fE (ps:=ps) (qs:=qs) h (dL off hv hc) hp;exact⟨us,h3,by rw[<- h4,<- hz]⟩
def gG(P:Program)(t:TypeId):Option AV:=match P.info? t with
  | some i=>match i.zero with
    | some v=>yb v
    | none=>none
  | none=>none
theorem fT{P:Program}{t:TypeId}{a:AV}(h:gG P t=some a)(ρ:Names):∃ v,rv ρ a=some v/\(∃ i,P.info? t=some i/\i.zero=some v)/\∀ w,(zeroValue t).run P w=.ok v w:=by
  unfold gG at h
  split at h
  · rename_i i hi
    split at h
    · rename_i v hz;exact⟨v,rj h,⟨i,hi,hz⟩,λ w=>by simp[zeroValue,typeInfo,hi,hz]⟩
    · cases h
  · cases h
def rF(P:Program):List Field->Option (List (Nat×Nat))
  | []=>some []
  | f :: fs=>match bu P f.type,rF P fs with
    | some s,some l=>some ((f.offset,s) :: l)
    | _,_=>none
theorem oX{P:Program}{w:World}:∀ {fs:List Field} {l:List (Nat×Nat)},rF P fs=some l->(fs.mapM λ f=>(do pure (f.offset,<- sizeOf f.type):Sem (Nat×Nat))).run P w=.ok l w
  | [],l,h=>by cases h; simp
  | f :: fs,l,h=>by
    simp only[rF] at h
    cases hs:bu P f.type with
    | none=>rw[hs] at h; cases h
    | some s =>
      cases hl:rF P fs with
      | none=>rw[hs,hl] at h; cases h
      | some l' =>
        rw[hs,hl] at h
        cases h
        have ih:=oX (w:=w) hl;simp only[List.mapM_cons,Sem.run_bind,aP hs,Sem.run_pure,Result.andThen_ok,ih]
def qC(P:Program)(ty:TypeId)(ps:List (Nat×AV)):Option AV:=match gG P ty with
  | some z=>match P.underlying ty with
    | some (.struct fs)=>match rF P fs.toList with
      | some pl=>(gw (λ i=>gK pl i) (aT z) ps).map .agg
      | none=>none
    | some (.array _ e)=>match bu P e with
      | some sz=>(gw (λ i=>some (Nat.mul i sz,sz)) (aT z) ps).map .agg
      | none=>none
    | _=>none
  | none=>none
theorem tH{P:Program}{ρ:Names}{ty:TypeId}{ps:List (Nat×AV)}{qs:Array (Nat×Value)}{r:AV}(h:qC P ty ps=some r)(hp:iN ρ ps qs.toList):b5 P ρ (Instr.build ty qs) r:=by
  unfold qC at h
  split at h
  · rename_i z hz;obtain⟨v,hv,_,hzr⟩:=fT hz ρ;have hvc:=cK hv
    split at h
    · rename_i fs hu
      split at h
      · rename_i pl hpl;simp only[Option.map_eq_some_iff] at h;obtain⟨res,hres,rfl⟩:=h;obtain⟨us,h1,h2⟩:=fE hres hvc hp;refine⟨.agg us.toArray,by simp only[rv,h1,Option.map_some],λ w=>?_⟩;have hm:(fs.mapM λ f=>(do pure (f.offset,<- sizeOf f.type):Sem (Nat×Nat))).run P w=.ok pl.toArray w:=by
          rw[Array.mapM_eq_mapM_toList];simp only[Sem.run_map,oX hpl,Result.andThen_ok]
        have h2' : Instr.fill (λ x=>pl.toArray[x]?) v.cells qs.toList=some us.toArray:=by
          rw[<- h2]
          congr 1
          · funext x; rw[gR]; simp
        simp only[Instr.build,Sem.run_bind,hzr,ag hu,Result.andThen_ok,hm,h2']
        simp
      · cases h
    · rename_i n e hu
      split at h
      · rename_i sz hsz;simp only[Option.map_eq_some_iff] at h;obtain⟨res,hres,rfl⟩:=h;obtain⟨us,h1,h2⟩:=fE hres hvc hp;refine⟨.agg us.toArray,by simp only[rv,h1,Option.map_some],λ w=>?_⟩;have h2' : Instr.fill (λ i=>some (i*sz,sz)) v.cells qs.toList=some us.toArray:=by
          rw[<- h2]; rfl
        simp only[Instr.build,Sem.run_bind,hzr,ag hu,aP hsz,Result.andThen_ok,h2']
        simp
      · cases h
    · cases h
  · cases h
def gI(e:Tr AV):List (Nat×Operand)->Option (List (Nat×AV))
  | []=>some []
  | (i,x) :: l=>match bJ e x,gI e l with
    | some a,some az=>some ((i,a) :: az)
    | _,_=>none
theorem jQ{ρ:Names}{e:Tr AV}{t:Tm}(he:bE ρ e t):∀ {l:List (Nat×Operand)} {az:List (Nat×AV)},gI e l=some az->iN ρ az (l.map λ x=>(x.1,ev t x.2))
  | [],_,h=>by cases h; trivial
  | (i,x) :: l,az,h=>by
    simp only[gI] at h
    cases ha:bJ e x with
    | none=>rw[ha] at h; cases h
    | some a =>
      cases hl:gI e l with
      | none=>rw[ha,hl] at h; cases h
      | some bs =>
        rw[ha,hl] at h
        cases h
        exact⟨rfl,aA he ha,jQ he hl⟩
def pL(P:Program)(ty:TypeId)(a:AV):Option AV:=match P.underlying ty,a with
  | some .string,.str s=>some (.int .i64 (.ofNat s.length))
  | some (.slice _),.sli _ _ l _=>some (.int .i64 (.ofNat l))
  | some (.slice _),.nils=>some (.int .i64 (.ofNat 0))
  | some (.array n _),_=>some (.int .i64 (.ofNat n))
  | some (.pointer b),_=>match P.underlying b with
    | some (.array n _)=>some (.int .i64 (.ofNat n))
    | _=>none
  | _,_=>none
theorem tS{P:Program}{ρ:Names}{ty dst:TypeId}{a r:AV}{v:Value}{tys:Array TypeId}(h:pL P ty a=some r)(ha:rv ρ a=some v)(ht:tys[0]? = some ty):b5 P ρ (Builtin.len_ tys dst #[v]) r:=by
  unfold pL at h
  split at h
  · rename_i s hu
    cases bW ha; cases h
    refine⟨_,rfl,λ w=>?_⟩;have hs:(⟨s.toArray⟩:ByteArray).size=s.length:=by simp[ByteArray.size]
    simp[Builtin.len_,ht,ag hu,hs,goInt]
  · rename_i e i o l z hu;obtain⟨L,_,_,_,rfl⟩:=bw ha
    cases h
    exact⟨_,rfl,λ w=>by simp[Builtin.len_,ht,ag hu,goInt]⟩
  · rename_i e hu
    cases ha; cases h
    exact⟨_,rfl,λ w=>by simp[Builtin.len_,ht,ag hu,goInt]⟩
  · rename_i n e hu
    cases h
    exact⟨_,rfl,λ w=>by simp[Builtin.len_,ht,ag hu,goInt]⟩
  · rename_i b hu
    split at h
    · rename_i n e hb
      cases h
      exact⟨_,rfl,λ w=>by simp[Builtin.len_,ht,ag hu,ag hb,goInt]⟩
    · cases h
  · cases h
def xN(mx:Bool):AV->List AV->Option AV
  | a,[]=>some a
  | a,b :: l=>match a,b with
    | .int k x,.int _ y=>xN mx (.int k (cond mx (cond (lW y x) x y) (cond (lW x y) x y))) l
    | _,_=>none
theorem nB{P:Program}{ρ:Names}{mx:Bool}:∀ {l:List AV} {a r:AV} {vs:List Value} {v:Value},xN mx a l=some r->rv ρ a=some v->bz ρ l=some vs ->
    ∃ u,rv ρ r=some u/\∀ w,(vs.foldlM (cond mx Builtin.max2 Builtin.min2) v).run P w=.ok u w
  | [],a,r,vs,v,h,ha,hl=>by
    cases h; cases hl
    exact⟨v,ha,λ w=>by simp⟩
  | b :: l,a,r,vs,v,h,ha,hl=>by
    obtain⟨vb,vs',rfl,hb,hl'⟩:=aq hl;unfold xN at h
    split at h
    · rename_i k x k' y
      cases aU ha; cases aU hb
      obtain⟨u,h1,h2⟩:=nB (P:=P) h rfl hl';refine⟨u,h1,λ w=>?_⟩;rw[List.foldlM_cons,Sem.run_bind];have h3:((cond mx Builtin.max2 Builtin.min2) (.int k x) (.int k' y)).run P w=.ok (.int k (cond mx (cond (lW y x) x y) (cond (lW x y) x y))) w:=by
        cases mx with
        | true =>
          simp only[cond_true,Builtin.max2,Sem.run_pure,gj]
          by_cases hc:y<=x
          · simp[hc,Int.not_lt.2 hc]
          · simp[hc,Int.not_le.1 hc]
        | false =>
          simp only[cond_false,Builtin.min2,Sem.run_pure,gj]
          by_cases hc:x<=y
          · simp[hc,Int.not_lt.2 hc]
          · simp[hc,Int.not_le.1 hc]
      rw[h3];exact h2 w
    · cases h
def pz(e:Tr AV):Option Operand->Option (Option AV)
  | none=>some none
  | some x=>match bJ e x with
    | some a=>some (some a)
    | none=>none
theorem gN{ρ:Names}{e:Tr AV}{t:Tm}(he:bE ρ e t){x:Option Operand}{r:Option AV}(h:pz e x=some r):(∀ a,r=some a->∃ v,x.map (ev t)=some v/\rv ρ a=some v)/\(r=none->x.map (ev t)=none):=by
  cases x with
  | none=>cases h; exact⟨λ a h=>(by cases h),λ _=>rfl⟩
  | some x =>
    simp only[pz] at h
    cases ha:bJ e x with
    | none=>rw[ha] at h; cases h
    | some a =>
      rw[ha] at h
      cases h
      exact⟨λ b hb=>by cases hb; exact⟨_,rfl,aA he ha⟩,λ h=>(by cases h)⟩
def ni(P:Program)(o:Oper)(e:Tr AV):Option AV:=match o.op with
  | .move x=>bJ e x
  | .assign x=>bJ e x
  | .pick c a b=>match bJ e c with
    | some (.bool x)=>bJ e (cond x a b)
    | _=>none
  | .nilCheck x=>match bJ e x with
    | some (.ptr i j)=>some (.ptr i j)
    | _=>none
  | .convert src dst x=>match P.underlying src,P.underlying dst,bJ e x with
    | some _,some (.int k),some (.int _ n)=>some (j9 k (cE k n))
    | some .string,some .string,some (.str s)=>some (.str s)
    | _,_,_=>none
  | .fieldAddr ty x f=>match pM P ty f,bJ e x with
    | some off,some (.ptr i j)=>some (.ptr i (Nat.add j off))
    | _,_=>none
  | .field ty x f=>match bJ e x with
    | some a=>qF P ty a f
    | none=>none
  | .extract x i=>match bJ e x with
    | some (.tup vs)=>gK vs i
    | _=>none
  | .makeInterface ty x=>match P.underlying ty,bJ e x with
    | some (.interface _),_=>none
    | some _,some a=>some (.iface ty a)
    | _,_=>none
  | .makeFunc fn first cap=>match fn,dB e first.toList,dB e cap.toList with
    | .func f,some xs,some ys=>some (.fn f xs ys)
    | _,_,_=>none
  | .unOp op _ x=>match op,bJ e x with
    | .not,some (.bool b)=>some (.bool (not b))
    | .neg,some (.int k n)=>some (j9 k (cE k (Int.sub 0 n)))
    | _,_=>none
  | .binOp op ty x y _=>match bJ e x,bJ e y with
    | some a,some b=>pK P op ty x y a b
    | _,_=>none
  | .index ty x i=>match bJ e x,bJ e i with
    | some a,some b=>qG P ty a b
    | _,_=>none
  | .indexAddr ty x i=>match bJ e x,bJ e i with
    | some a,some b=>qI P ty a b
    | _,_=>none
  | .slice ty x lo hi none=>match bJ e x,pz e lo,pz e hi with
    | some a,some l,some h=>wj P ty a l h
    | _,_,_=>none
  | .slice ty x lo hi (some mx)=>match bJ e x,pz e lo,pz e hi,bJ e mx with
    | some a,some l,some h,some m=>qN P ty a l h m
    | _,_,_,_=>none
  | .build ty ps=>match gI e ps.toList with
    | some ps=>qC P ty ps
    | none=>none
  | .call { callee:=.builtin .len,args:=args,argTypes:=tys }=>match args.toList,tys[0]? with
    | [x],some ty=>match bJ e x with
      | some a=>pL P ty a
      | none=>none
    | _,_=>none
  | .call { callee:=.builtin .min,args:=args,argTypes:=_ }=>match dB e args.toList with
    | some (a :: l)=>xN false a l
    | _=>none
  | .call { callee:=.builtin .max,args:=args,argTypes:=_ }=>match dB e args.toList with
    | some (a :: l)=>xN true a l
    | _=>none
  | .call { callee:=.builtin .cap,args:=args,argTypes:=tys }=>match args.toList,tys[0]? with
    | [x],some ty=>match bJ e x,P.underlying ty with
      | some .nils,some (.slice _)=>some (.int .i64 (.ofNat 0))
      | _,_=>none
    | _,_=>none
  | _=>none
theorem uI{ρ:Names}{v:Value}(h:rv ρ .nils=some v):v=.slice none 0 0:=(Option.some.inj h).symm
theorem qL{P:Program}{ρ:Names}{o:Oper}{e:Tr AV}{t:Tm}{a:AV}(h:ni P o e=some a)(he:bE ρ e t) :
    ∃ v,rv ρ a=some v/\∀ w,(execOp (ev t) o).run P w=.ok (.value v) w:=by
  have lift:∀ {s:Sem Value},(execOp (ev t) o=do pure (.value (<- s)))->b5 P ρ s a->∃ v,rv ρ a=some v/\∀ w,(execOp (ev t) o).run P w=.ok (.value v) w:=λ {s} hs hp=>by
    obtain⟨v,h1,h2⟩:=hp;exact⟨v,h1,λ w=>by rw[hs]; simp only[Sem.run_bind,h2,Result.andThen_ok,Sem.run_pure]⟩
  unfold ni at h
  split at h
  · rename_i x hx;exact⟨_,aA he h,λ w=>by simp[execOp,hx]⟩
  · rename_i x hx;exact⟨_,aA he h,λ w=>by simp[execOp,hx]⟩
  · rename_i c x y hx
    split at h
    · rename_i b hc;have hcv:ev t c=.bool b:=bL (aA he hc);refine⟨_,aA he h,λ w=>?_⟩
      cases b<;>simp[execOp,hx,hcv,asBool]
    · cases h
  · rename_i x hx
    split at h
    · rename_i i j ha
      cases h
      have hv:=aA he ha;obtain⟨L,hL,hv'⟩:=bV hv;exact⟨_,hv,λ w=>by simp[execOp,hx,hv']⟩
    · cases h
  · rename_i src dst x hx
    split at h
    · rename_i d k k' n hs hd ha
      cases h
      have hv:ev t x=.int k' n:=aU (aA he ha);exact⟨_,by rw[bM]; rfl,λ w=>by simp[execOp,hx,hv,convert,ag hs,ag hd,Conv.intToInt,bB]⟩
    · rename_i s hs hd ha
      cases h
      have hv:=aA he ha;have hv':=bW hv;exact⟨_,hv,λ w=>by simp[execOp,hx,hv',convert,ag hs,ag hd]⟩
    · cases h
  · rename_i ty x f hx
    split at h
    · rename_i off i j ho ha
      cases h
      obtain⟨L,hL,hv⟩:=bV (aA he ha);refine lift (s:=Instr.fieldAt ty (ev t x) f) (by simp[execOp,hx]) ⟨.pointer (some ⟨L.b,j+off,none⟩),by simp only[rv,hL,Option.map_some]; rfl,λ w=>by rw[hv]; exact tW ho w⟩
    · cases h
  · rename_i ty x f hx
    split at h
    · rename_i a' ha;exact lift (s:=Instr.field ty (ev t x) f) (by simp[execOp,hx]) (tO h (aA he ha))
    · cases h
  · rename_i x i hx
    split at h
    · rename_i vs ha;obtain⟨us,hus,hv⟩:=n8 (aA he ha);rw[gR] at h;obtain⟨u,h1,h2⟩:=fQ hus h;exact lift (s:=Instr.extract (ev t x) i) (by simp[execOp,hx]) ⟨u,h2,λ w=>by rw[hv]; simp[Instr.extract,h1]⟩
    · cases h
  · rename_i ty x hx
    split at h
    · cases h
    · rename_i d a' hni hu ha
      cases h
      refine lift (s:=Instr.makeInterface ty (ev t x)) (by simp[execOp,hx]) ⟨.iface ty (ev t x),by simp only[rv,aA he ha,Option.map_some],λ w=>?_⟩;simp only[Instr.makeInterface,Sem.run_bind,ag hu,Result.andThen_ok]
      cases d<;>first | rfl | exact absurd rfl (hni _)
    · cases h
  · rename_i fn first cap hx
    split at h
    · rename_i f xs ys h1 h2
      cases h
      have g1:=bS he h1;have g2:=bS he h2;refine lift (s:=Instr.makeFunc (.func f) (first.map (ev t)) (cap.map (ev t))) (by simp[execOp,hx]) ⟨.func (.func f) (first.toList.map (ev t)).toArray (cap.toList.map (ev t)).toArray,by simp only[rv,g1,g2],λ w=>?_⟩;have e1:first.map (ev t)=(first.toList.map (ev t)).toArray:=Array.ext' (by rw[Array.toList_map])
      have e2:cap.map (ev t)=(cap.toList.map (ev t)).toArray:=Array.ext' (by rw[Array.toList_map]);simp only[Instr.makeFunc,Sem.run_pure,e1,e2]
    · cases h
  · rename_i op ty x hx
    split at h
    · rename_i b ha
      cases h
      have hv:ev t x=.bool b:=bL (aA he ha);exact lift (s:=Op.unary .not (ev t x)) (by simp[execOp,hx]) ⟨_,rfl,λ w=>by simp[hv,Op.unary]⟩
    · rename_i k n ha
      cases h
      have hv:ev t x=.int k n:=aU (aA he ha);exact lift (s:=Op.unary .neg (ev t x)) (by simp[execOp,hx]) ⟨_,by rw[bM]; rfl,λ w=>by rw[hv,bB]; rfl⟩
    · cases h
  · rename_i op ty x y yt hx
    split at h
    · rename_i a' b' ha hb;exact lift (s:=do eqGuard op ty x y (ev t x) (ev t y); binOp op ty (ev t x) (ev t y)) (by simp only[execOp,hx]) (tG h (aA he ha) (aA he hb))
    · cases h
  · rename_i ty x i hx
    split at h
    · rename_i a' b' ha hb;exact lift (s:=Instr.index ty (ev t x) (ev t i)) (by simp[execOp,hx]) (tP h (aA he ha) (aA he hb))
    · cases h
  · rename_i ty x i hx
    split at h
    · rename_i a' b' ha hb;exact lift (s:=Instr.indexAt ty (ev t x) (ev t i)) (by simp[execOp,hx]) (tR h (aA he ha) (aA he hb))
    · cases h
  · rename_i ty x lo hi hx
    split at h
    · rename_i a' l' h' ha hl hh;obtain⟨l1,l2⟩:=gN he hl;obtain⟨h1,h2⟩:=gN he hh;exact lift (s:=Instr.sliceAt ty (ev t x) (lo.map (ev t)) (hi.map (ev t)) none) (by simp[execOp,hx]) (tY h (aA he ha) l1 l2 h1 h2)
    · cases h
  · rename_i ty x lo hi mx hx
    split at h
    · rename_i a' l' h' m' ha hl hh hm;obtain⟨l1,l2⟩:=gN he hl;obtain⟨h1,_⟩:=gN he hh;exact lift (s:=Instr.sliceAt ty (ev t x) (lo.map (ev t)) (hi.map (ev t)) (some (ev t mx))) (by simp[execOp,hx]) (qO h (aA he ha) l1 l2 h1 (aA he hm))
    · cases h
  · rename_i ty ps hx
    split at h
    · rename_i az hps;have hp:=jQ he hps;refine lift (s:=Instr.build ty (ps.map λ (i,x)=>(i,ev t x))) (by simp[execOp,hx]) (tH h ?_);simpa using hp
    · cases h
  · rename_i args tys hx
    split at h
    · rename_i x ty hargs ht
      split at h
      · rename_i a' ha;refine lift (s:=Builtin.len_ tys o.type #[ev t x]) ?_ (tS h (aA he ha) ht);have:args.map (ev t) = #[ev t x]:=by
          have:args = #[x]:=by rw[<- hargs]
          rw[this]; simp
        simp[execOp,hx,resolve,invoke,builtin,this]
      · cases h
    · cases h
  · rename_i args tys hx
    split at h
    · rename_i a' l hl;have hv:=bS he hl;obtain⟨u,us,hm,h1,h2⟩:=aq hv;obtain⟨r,g1,g2⟩:=nB (P:=P) h h1 h2;refine lift (s:=Builtin.min_ tys o.type (args.map (ev t))) (by simp[execOp,hx,resolve,invoke,builtin]) ⟨r,g1,λ w=>?_⟩;have:(args.map (ev t)).toList=u :: us:=by simpa using hm
      simp only[Builtin.min_,this];exact g2 w
    · cases h
  · rename_i args tys hx
    split at h
    · rename_i a' l hl;have hv:=bS he hl;obtain⟨u,us,hm,h1,h2⟩:=aq hv;obtain⟨r,g1,g2⟩:=nB (P:=P) h h1 h2;refine lift (s:=Builtin.max_ tys o.type (args.map (ev t))) (by simp[execOp,hx,resolve,invoke,builtin]) ⟨r,g1,λ w=>?_⟩;have:(args.map (ev t)).toList=u :: us:=by simpa using hm
      simp only[Builtin.max_,this];exact g2 w
    · cases h
  · rename_i args tys hx
    split at h
    · rename_i x ty hargs ht
      split at h
      · rename_i e' ha hu
        cases h
        refine lift (s:=Builtin.cap_ tys o.type #[.slice none 0 0]) ?_ ⟨_,rfl,λ w=>by simp[Builtin.cap_,ht,ag hu,goInt]⟩;have:args.map (ev t) = #[ev t x]:=by
          have:args = #[x]:=by rw[<- hargs]
          rw[this]; simp
        simp[execOp,hx,resolve,invoke,builtin,this,uI (aA he ha)]
      · cases h
    · cases h
  · cases h
structure nk where
  i:Nat
  o:Nat
  vs:List AV
def dR(ρ:Names)(d:nk):World->Prop:=λ w=>∃ L vs,ρ d.i=some L/\bz ρ d.vs=some vs/\aa w ⟨L.b,d.o,none⟩ 0 vs
def bf(h:AH)(i o n:Nat):Option (List AV):=match h.get i with
  | some (some ao)=>cond (Nat.ble (Nat.add o n) ao.cells.length) (some ((ao.cells.drop o).take n)) none
  | _=>none
theorem b7{w0 w:World}{ρ:Names}{h:AH}(hr:bQ w0 w ρ h){i o n:Nat}{az:List AV}(hc:bf h i o n=some az) :
    ∃ L vs,ρ i=some L/\bz ρ az=some vs/\vs.length=n/\aa w ⟨L.b,o,none⟩ 0 vs:=by
  unfold bf at hc
  split at hc
  · rename_i ao hi
    cases hb:Nat.ble (Nat.add o n) ao.cells.length with
    | false=>rw[hb] at hc; cases hc
    | true =>
      rw[hb] at hc
      cases hc
      have hle:o+n<=ao.cells.length:=Nat.le_of_ble_eq_true hb;obtain⟨L,cur,vs,hl⟩:=hr.live i ao hi;have hv:=eG n (iU o hl.val);refine⟨L,_,hl.at_,hv,?_,cQ _ 0 λ j u hj=>?_⟩
      · have:=aF hl.val
        simp; omega
      · rw[List.getElem?_take] at hj
        split at hj
        · rw[List.getElem?_drop] at hj;have ha:∃ a,ao.cells[o+j]? = some a:=⟨ao.cells[o+j]'(by omega),by simp[show o+j<ao.cells.length by omega]⟩;obtain⟨a,ha⟩:=ha;obtain⟨v,hv1,hv2⟩:=fQ hl.val ha;rw[hv1] at hj;have hj:v=u:=Option.some.inj hj;subst hj;obtain⟨v',hv',hcell⟩:=hl.cell ha;have:v' = v:=Option.some.inj (hv'.symm.trans hv2);subst this;have e:(⟨L.b,o,none⟩:Addr).add (0+j)=⟨L.b,o+j,none⟩:=by rw[cD]; congr 1; omega
          rw[e];exact hcell
        · cases hj
  · cases hc
def vC(P:Program)(ty:TypeId):Option (Nat×Bool):=match P.underlying ty,bu P ty with
  | some d,some n=>cond (gk d) (some (n,true)) (some (1,false))
  | _,_=>none
def rE(b:Bool)(az:List AV):Option AV:=match b,az with
  | true,az=>some (.agg az)
  | false,[a]=>some a
  | false,_=>none
def wg(P:Program)(ty:TypeId)(a:AV)(h:AH):Option (AV×List nk):=match a,vC P ty with
  | .ptr i o,some (n,b)=>match bf h i o n with
    | some az=>match rE b az with
      | some r=>some (r,[⟨i,o,az⟩])
      | none=>none
    | none=>none
  | _,_=>none
theorem qJ{P:Program}{ty:TypeId}{a r:AV}{h:AH}{ds:List nk}(hg:wg P ty a h=some (r,ds)){w0 w:World}{ρ:Names}(hr:bQ w0 w ρ h){va:Value}(ha:rv ρ a=some va) :
    ∃ v,rv ρ r=some v/\holds (ds.map (dR ρ)) w/\∀ w',holds (ds.map (dR ρ)) w'->(Instr.loadAt ty va).run P w' = .ok v w':=by
  unfold wg at hg
  split at hg
  · rename_i i o n b hs
    split at hg
    · rename_i az hc
      split at hg
      · rename_i r' hp
        cases hg
        obtain⟨L,hL,rfl⟩:=bV ha;obtain⟨L',vs,hL',hvs,hlen,hat⟩:=b7 hr hc;obtain rfl:L=L':=Option.some.inj (hL.symm.trans hL');have hT:holds (([⟨i,o,az⟩]:List nk).map (dR ρ)) w:=λ f hf=>by
          simp at hf; subst hf;exact⟨L,vs,hL,hvs,hat⟩
        have hfact:∀ w',holds (([⟨i,o,az⟩]:List nk).map (dR ρ)) w'->aa w' ⟨L.b,o,none⟩ 0 vs:=by
          intro w' hw';obtain⟨L2,vs2,h1,h2,h3⟩:=hw' (dR ρ ⟨i,o,az⟩) (List.mem_cons_self ..);obtain rfl:L=L2:=Option.some.inj (hL.symm.trans h1);obtain rfl:vs=vs2:=Option.some.inj (hvs.symm.trans h2);exact h3
        unfold vC at hs
        split at hs
        · rename_i d n' hu hsz
          cases hd:gk d with
          | false =>
            rw[hd] at hs
            cases hs
            have hag:∀ w,(isAgg ty).run P w=.ok false w:=λ w=>by cases d<;>first | (cases hd; done) | simp[isAgg,ag hu]
            unfold rE at hp
            split at hp
            · rename_i heq; cases heq
            · rename_i a0
              cases hp
              obtain⟨v0,us,rfl,hv0,hu'⟩:=aq hvs
              cases hu'
              refine⟨v0,hv0,hT,λ w' hw'=>?_⟩;have h3:=(hfact w' hw').1;have h3:w'.cell? ⟨L.b,o,none⟩=some v0:=by simpa[Addr.add] using h3
              simp[Instr.loadAt,Instr.sureAddr,loadVar,hag,h3]
            · cases hp
          | true =>
            rw[hd] at hs
            cases hs
            have hag:∀ w,(isAgg ty).run P w=.ok true w:=λ w=>by cases d<;>first | (cases hd; done) | simp[isAgg,ag hu]
            unfold rE at hp
            split at hp
            · cases hp
              refine⟨.agg vs.toArray,by simp only[rv,hvs,Option.map_some],hT,λ w' hw'=>?_⟩;have h3:=hfact w' hw';have hn:bu P ty=some vs.length:=by rw[hlen]; exact hsz
              simp only[Instr.loadAt,Instr.sureAddr,loadVar,Sem.run_bind,Sem.run_pure,Result.andThen_ok,hag,if_true,aP hn,loadCells,eU vs 0 _ h3]
              simp
            · rename_i heq; cases heq
            · rename_i heq _; cases heq
        · cases hs
      · cases hg
    · cases hg
  · cases hg
def tX(P:Program)(o:Oper)(e:Tr AV)(h:AH):Option (AV×List nk):=match o.op with
  | .load ty x=>match bJ e x with
    | some a=>wg P ty a h
    | none=>none
  | _=>match ni P o e with
    | some a=>some (a,[])
    | none=>none
theorem qM{P:Program}{o:Oper}{e:Tr AV}{h:AH}{a:AV}{ds:List nk}(hg:tX P o e h=some (a,ds)){w0 w:World}{ρ:Names}(hr:bQ w0 w ρ h){t:Tm}(he:bE ρ e t) :
    ∃ v,rv ρ a=some v/\holds (ds.map (dR ρ)) w/\∀ w',holds (ds.map (dR ρ)) w'->(execOp (ev t) o).run P w' = .ok (.value v) w':=by
  unfold tX at hg
  split at hg
  · rename_i ty x hx
    split at hg
    · rename_i a' ha;obtain⟨v,h1,h2,h3⟩:=qJ hg hr (aA he ha);exact⟨v,h1,h2,λ w' hw'=>by simp[execOp,hx,h3 w' hw']⟩
    · cases hg
  · split at hg
    · rename_i a' ha
      cases hg
      obtain⟨v,h1,h2⟩:=qL ha he;exact⟨v,h1,λ f hf=>(by cases hf),λ w' _=>h2 w'⟩
    · cases hg
def hJ(P:Program)(w0 w:World)(ρ:Names)(s:Sem Value)(a:AV)(h' : AH):Prop :=
  ∃ v w' ρ',s.run P w=.ok v w'/\Ext ρ ρ'/\bQ w0 w' ρ' h'/\rv ρ' a=some v
def one:AV->Bool
  | .agg _=>false
  | .tup _=>false
  | _=>true
theorem wI{ρ:Names}{a:AV}{v:Value}(h1:one a=true)(h:rv ρ a=some v):v.oneCell' = true:=by
  cases a with
  | agg cs=>cases h1
  | tup cs=>cases h1
  | int k n=>cases aU h; rfl
  | bool b=>cases bL h; rfl
  | str l=>cases bW h; rfl
  | nilp=>cases h; rfl
  | nils=>cases h; rfl
  | nili=>cases h; rfl
  | nilf=>cases h; rfl
  | ptr i o=>obtain⟨L,hL,rfl⟩:=bV h; rfl
  | sli i o l z=>obtain⟨L,hL,_,_,rfl⟩:=bw h; rfl
  | iface T x =>
    simp only[rv,Option.map_eq_some_iff] at h;obtain⟨u,_,rfl⟩:=h;rfl
  | fn f x y =>
    simp only[rv] at h
    split at h
    · cases h; rfl
    · cases h
  | yld i =>
    simp only[rv,Option.map_eq_some_iff] at h;obtain⟨u,_,rfl⟩:=h;rfl
def kz:List AV->Bool
  | []=>true
  | a :: l=>cond (one a) (kz l) false
theorem gU{ρ:Names}:∀ {l:List AV} {vs:List Value},kz l=true->bz ρ l=some vs->∀ v∈vs,v.oneCell' = true
  | [],_,_,h=>by cases h; simp
  | a :: l,vs,h1,h=>by
    obtain⟨v,us,rfl,g1,g2⟩:=aq h;unfold kz at h1
    cases ha:one a with
    | false=>rw[ha] at h1; cases h1
    | true =>
      rw[ha] at h1;intro u hu;rcases List.mem_cons.1 hu with rfl | hu
      · exact wI ha g1
      · exact gU h1 g2 u hu
def pO(P:Program)(ty:TypeId)(p a:AV)(h:AH):Option AH:=match p,bu P ty with
  | .ptr i o,some sz=>match h.get i with
    | some (some ao)=>cond (Nat.beq (aT a).length sz&&Nat.ble (Nat.add o sz) ao.cells.length&&kz (aT a)&&not ao.ro) (some (h.put i (some ⟨ao.T,setAt ao.cells o (aT a),ao.ro⟩))) none
    | _=>none
  | _,_=>none
theorem tZ{P:Program}{ty:TypeId}{p a:AV}{h h' : AH}(hg:pO P ty p a h=some h'){w0 w:World}{ρ:Names}(hr:bQ w0 w ρ h){vp va:Value}(hp:rv ρ p=some vp)(ha:rv ρ a=some va) :
    ∃ w',(Instr.storeAt ty vp va).run P w=.ok () w'/\bQ w0 w' ρ h':=by
  unfold pO at hg
  split at hg
  · rename_i i o sz hsz
    split at hg
    · rename_i ao hi
      cases hb:(Nat.beq (aT a).length sz&&Nat.ble (Nat.add o sz) ao.cells.length&&kz (aT a)&&not ao.ro) with
      | false=>rw[hb] at hg; cases hg
      | true =>
        rw[hb] at hg
        cases hg
        simp only[Bool.and_eq_true] at hb;obtain⟨⟨⟨h1,h2⟩,h3⟩,hro⟩:=hb;have hro:ao.ro=false:=by cases hq:ao.ro with
          | false=>rfl
          | true=>rw[hq] at hro; cases hro
        have h1:=beq_iff.1 h1;have h2:o+sz<=ao.cells.length:=Nat.le_of_ble_eq_true h2;obtain⟨L,hL,rfl⟩:=bV hp;obtain⟨L1,cur,vs,hl⟩:=hr.live i ao hi;obtain rfl:L=L1:=Option.some.inj (hL.symm.trans hl.at_);obtain⟨fz,hblk,hfz⟩:=hl.blk;obtain rfl:=hfz hro;have hc:=cK ha;have hcl:=aF hc;have hvl:=aF hl.val;have hone:=gU h3 hc;have hcs:va.cells.toList.length=sz:=by rw[hcl,h1]
        have hcur:vs.length<=cur.toList.length:=by rw[<- hl.here]; simp; omega
        have hfit:o+0+va.cells.toList.length<=cur.size:=by simp at hcur; omega
        refine⟨_,?_,hr.rewrite hi hL (w':=w.setRow L.b (setAt cur.toList o va.cells.toList).toArray) (cells:=setAt ao.cells o (aT a)) (cur':=(setAt cur.toList o va.cells.toList).toArray) (vs':=setAt vs o va.cells.toList) ?_ ?_ (dL o hl.val hc) ?_ ?_⟩
        · have hno : ¬ va.cells.size≠sz:=by simp at hcs; simp[hcs]
          simp only[Instr.storeAt,Instr.sureAddr,storeVar,Sem.run_bind,Sem.run_pure,Result.andThen_ok,aP hsz,if_neg hno];rw[run_storeCells_at (P:=P) L.b o ao.T va.cells.toList 0 cur w hblk hfit hone];rw[fR _ _ _ (by simpa using hfit)]
          simp
        · exact⟨by simp[World.setRow],λ k _ hn=>setRow_other w L.b k _ (by simpa using hn),⟨rfl,rfl,rfl⟩⟩
        · exact setRow_heap w L.b cur _ ao.T _ hblk
        · rw[br,dY _ _ _ _ (by omega)];rw[hl.here]
        · simp only[List.size_toArray,br];simpa using hl.room
    · cases hg
  · cases hg
def lQ(T:TypeId)(a:AV)(h:AH)(n:Nat):Option (AV×AH):=match h.get n with
  | none=>some (.ptr n 0,h.put n (some ⟨T,aT a,false⟩))
  | some _=>none
theorem oC{P:Program}{T:TypeId}{a r:AV}{h h' : AH}{n:Nat}(hg:lQ T a h n=some (r,h')){w0 w:World}{ρ:Names}(hr:bQ w0 w ρ h){va:Value}(ha:rv ρ a=some va) :
    hJ P w0 w ρ (do pure (.pointer (some (<- newVar T va)))) r h':=by
  unfold lQ at hg
  split at hg
  · rename_i hn
    cases hg
    have hc:=cK ha;have:=hr.alloc hn (T:=T) hc (esz:=va.cells.toList.length) (tot:=1) (by simp) (by simp[maxLen]);refine⟨_,_,_,?_,Ext.eI (aR hr hn),this,by simp only[rv,eI,if_true,Option.map_some]; rfl⟩;simp[newVar,newRow,newObj];rfl
  · cases hg
def fA{α:Type}:Nat->List α->List α
  | 0,_=>[]
  | n+1,l=>l++fA n l
theorem eF{α:Type}(l:List α):∀ n,(fA n l).length=n*l.length
  | 0=>by simp[fA]
  | n+1=>by simp[fA,eF l n,Nat.add_mul]; omega
theorem mP{α:Type}[Inhabited α](l:List α):∀ (n i:Nat),i<n*l.length->(fA n l)[i]? = some (l.toArray[i%l.length]!)
  | 0,i,h=>by simp at h
  | n+1,i,h=>by
    unfold fA
    by_cases hi:i<l.length
    · rw[List.getElem?_append_left hi,Nat.mod_eq_of_lt hi];simp[hi]
    · rw[List.getElem?_append_right (by omega)];have hn:(n+1)*l.length=n*l.length+l.length:=by rw[Nat.add_mul,Nat.one_mul]
      rw[hn] at h;rw[mP l n (i-l.length) (by omega)];have:i%l.length=(i-l.length)%l.length:=Nat.mod_eq_sub_mod (by omega);rw[this]
theorem jL(z:Array Value)(n:Nat):(fA n z.toList)=(madeCells z (n*z.size)).toList:=by
  apply List.ext_getElem?;intro i
  by_cases hi:i<n*z.size
  · rw[mP z.toList n i (by simpa using hi)];simp[madeCells,hi]
  · have h1:(fA n z.toList).length<=i:=by rw[eF]; simpa using hi
    have h2:(madeCells z (n*z.size)).toList.length<=i:=by simpa[size_madeCells] using hi
    rw[List.getElem?_eq_none h1,List.getElem?_eq_none h2]
theorem iR{ρ:Names}{l:List AV}{vs:List Value}(h:bz ρ l=some vs):∀ n,bz ρ (fA n l)=some (fA n vs)
  | 0=>rfl
  | n+1=>dr h (iR h n)
def iw(P:Program)(t:TypeId):Option (TypeId×Nat×Nat×List AV):=match P.underlying t with
  | some (.slice e)=>match P.info? e,gG P e with
    | some i,some z=>cond (Nat.beq (aT z).length i.size&&Nat.ble 1 i.size) (some (e,i.size,i.bytes,aT z)) none
    | _,_=>none
  | _=>none
structure vG (P:Program) (t e:TypeId) (sz by_:Nat) (zs:List AV):Prop where
  slT:∃ z,qi P t e z sz by_/\∀ ρ,bz ρ zs=some z.cells.toList
theorem er{P:Program}{t e:TypeId}{sz by_:Nat}{zs:List AV}(h:iw P t=some (e,sz,by_,zs)):vG P t e sz by_ zs:=by
  unfold iw at h
  split at h
  · rename_i e' hu
    split at h
    · rename_i i z hi hz
      cases hb:(Nat.beq (aT z).length i.size&&Nat.ble 1 i.size) with
      | false=>rw[hb] at h; cases h
      | true =>
        rw[hb] at h
        cases h
        simp only[Bool.and_eq_true] at hb;have h1:=beq_iff.1 hb.1;have h2:=Nat.le_of_ble_eq_true hb.2;obtain⟨v,hv,⟨i',hi',hz'⟩,_⟩:=fT hz (λ _=>none);obtain rfl:i=i':=Option.some.inj (hi.symm.trans hi');have hlen:=aF (cK hv);refine⟨v,⟨hu,⟨i,hi,hz',rfl,rfl⟩,by rw[<- h1,<- hlen]; simp,h2⟩,λ ρ=>?_⟩;obtain⟨v2,hv2,⟨i2,hi2,hz2⟩,_⟩:=fT hz ρ;obtain rfl:i=i2:=Option.some.inj (hi.symm.trans hi2);obtain rfl:v=v2:=Option.some.inj (hz'.symm.trans hz2);exact cK hv2
    · cases h
  · cases h
def qD(P:Program)(ty:TypeId)(len:Nat)(ps:List (Nat×AV))(h:AH)(n:Nat):Option (AV×AH):=match iw P ty,h.get n with
  | some (e,sz,_,zs),none=>match gw (λ i=>some (Nat.mul i sz,sz)) (fA len zs) ps with
    | some cells=>cond (Nat.ble (Nat.mul len sz) 16777216) (some (.sli n 0 len sz,h.put n (some ⟨e,cells,false⟩))) none
    | none=>none
  | _,_=>none
theorem tJ{P:Program}{ty:TypeId}{len n:Nat}{ps:List (Nat×AV)}{qs:Array (Nat×Value)}{h h' : AH}{r:AV}(hg:qD P ty len ps h n=some (r,h')){w0 w:World}{ρ:Names}(hr:bQ w0 w ρ h)(hp:iN ρ ps qs.toList) :
    hJ P w0 w ρ (Instr.buildSlice ty len qs) r h':=by
  unfold qD at hg
  split at hg
  · rename_i e sz by_ zs he hn
    split at hg
    · rename_i cells hf
      cases hb:Nat.ble (Nat.mul len sz) 16777216 with
      | false=>rw[hb] at hg; cases hg
      | true =>
        rw[hb] at hg
        cases hg
        have hle:len*sz<=16777216:=Nat.le_of_ble_eq_true hb;obtain⟨z,hT,hzs⟩:=(er he).slT;obtain⟨i,hi,hz,hs,hby⟩:=hT.i;have hzl:z.cells.toList.length=sz:=by simpa using hT.zc
        obtain⟨us,h1,h2⟩:=fE hf (iR (hzs ρ) len) hp;have hlen:us.length=len*sz:=by
          have a1:=aF h1;have:∀ {ps:List (Nat×AV)} {c res:List AV},gw (λ i=>some (Nat.mul i sz,sz)) c ps=some res->res.length=c.length:=by
            intro ps
            induction ps with
            | nil=>intro c res hh; cases hh; rfl
            | cons p ps ih =>
              intro c res hh;obtain⟨j,v⟩:=p;simp only[gw] at hh
              cases hb2:(Nat.beq (aT v).length sz&&Nat.ble (Nat.add (Nat.mul j sz) (aT v).length) c.length) with
              | false=>rw[hb2] at hh; cases hh
              | true=>rw[hb2] at hh; rw[ih hh,br]
          have a2:=this hf;have a3:=aF (hzs ρ);rw[a1,a2,eF,<- a3,hzl]
        have hal:=hr.alloc hn (T:=e) h1 (esz:=sz) (tot:=len) hlen.symm (by unfold maxLen; have:len<=len*sz:=Nat.le_mul_of_pos_right _ hT.pos; omega);refine⟨.slice (some ⟨w.heap.size,0,none⟩) len len,_,_,?_,Ext.eI (aR hr hn),hal,?_⟩
        · have hsz:bu P e=some sz:=by simp[bu,hi,hs]
          have hno : ¬ (len*sz>2 ^ 24):=by simpa using hle
          have hzv:∀ w,(zeroValue e).run P w=.ok z w:=λ w=>by simp[zeroValue,typeInfo,hi,hz]
          have hfill:∀ zz:Array Value,(len*sz=0\/zz=z.cells)->Instr.fill (λ i=>some (i*sz,sz)) ((Array.range (len*sz)).map (zz[· % zz.size]!)) qs.toList=some us.toArray:=by
            intro zz hzz;have hm:(Array.range (len*sz)).map (zz[· % zz.size]!)=(fA len z.cells.toList).toArray:=by
              rcases hzz with h0 | rfl
              · have hl0:len=0:=by
                  rcases Nat.mul_eq_zero.1 h0 with h | h
                  · exact h
                  · have:=hT.pos; omega
                subst hl0;simp[fA]
              · have hrm:=jL z.cells len;have hzz:z.cells.size=sz:=hT.zc;rw[hrm,Array.toArray_toList];unfold madeCells;rw[hzz]
            rw[hm];exact h2
          have hnew:∀ c:Array Value,(newRow e c).run P w=.ok (⟨w.heap.size,0,none⟩:Addr) (w.alloc (.cells c e)):=λ c=>by simp[newRow,newObj]; rfl
          by_cases h0:len*sz=0
          · have h5:=hfill #[] (.inl h0);simp only[Instr.buildSlice,Sem.run_bind,ag hT.u,aP hsz,Result.andThen_ok,if_neg hno,if_pos h0,Sem.run_pure,h5,hnew]
          · have h5:=hfill z.cells (.inr rfl);simp only[Instr.buildSlice,Sem.run_bind,ag hT.u,aP hsz,Result.andThen_ok,if_neg hno,if_neg h0,Sem.run_pure,hzv,h5,hnew]
        · simp[rv,eI]
    · cases hg
  · cases hg
def wh(P:Program)(ty:TypeId)(l c:AV)(h:AH)(n:Nat):Option (AV×AH):=match l,c,iw P ty,h.get n with
  | .int _ (.ofNat l),.int _ (.ofNat c),some (e,sz,by_,zs),none =>
    cond (Nat.ble l c&&Nat.ble (Nat.mul by_ c) 281474976710656&&Nat.ble c 9223372036854775807) (some (.sli n 0 l sz,h.put n (some ⟨e,fA c zs,false⟩))) none
  | _,_,_,_=>none
theorem tT{P:Program}{ty:TypeId}{l c r:AV}{h h' : AH}{n:Nat}(hg:wh P ty l c h n=some (r,h')){w0 w:World}{ρ:Names}(hr:bQ w0 w ρ h){vl vc:Value}(hl:rv ρ l=some vl)(hc:rv ρ c=some vc) :
    hJ P w0 w ρ (Instr.makeSlice ty vl vc) r h':=by
  unfold wh at hg
  split at hg
  · rename_i k l k' c e sz by_ zs he hn
    cases hb:(Nat.ble l c&&Nat.ble (Nat.mul by_ c) 281474976710656&&Nat.ble c 9223372036854775807) with
    | false=>rw[hb] at hg; cases hg
    | true =>
      rw[hb] at hg
      cases hg
      cases aU hl; cases aU hc
      simp only[Bool.and_eq_true] at hb;obtain⟨⟨h1,h2⟩,h3⟩:=hb;have h1:=Nat.le_of_ble_eq_true h1;have h2:by_*c<=281474976710656:=Nat.le_of_ble_eq_true h2;have h3:=Nat.le_of_ble_eq_true h3;obtain⟨z,hT,hzs⟩:=(er he).slT;obtain⟨i,hi,hz,hs,hby⟩:=hT.i;have hrun:=run_make (P:=P) w ty e i z hT.u hi hz k k' (l:Int) (c:Int) (by omega) (by omega) (by rw[hby,<- Int.natCast_mul]; exact Int.ofNat_le.2 h2) (by omega);have hzl:z.cells.size=sz:=hT.zc;have hcells:bz ρ (fA c zs)=some (madeCells z.cells (c*i.size)).toList:=by
        rw[hs,<- hzl,<- jL];exact iR (hzs ρ) c
      have hal:=hr.alloc hn (T:=e) hcells (esz:=sz) (tot:=c) (by simp[size_madeCells,hs]) h3;refine⟨_,_,_,hrun,Ext.eI (aR hr hn),by simpa using hal,?_⟩;simp[rv,eI,h1]
  · cases hg
def tC(P:Program)(tys:List TypeId)(s x:AV)(h:AH)(n:Nat):Option (AV×AH):=match tys with
  | [t,t']=>cond (Nat.beq t t') (match iw P t with
    | some (e,sz,by_,_)=>match x with
      | .nils=>match s with
        | .nils=>some (.nils,h)
        | .sli i o l z=>some (.sli i o l z,h)
        | _=>none
      | .sli j o m z=>match bf h j (Nat.mul o z) (Nat.mul m z),h.get n with
        | some news,none=>cond (Nat.beq z sz&&kz news&&Nat.ble 1 m) (match s with
          | .nils=>cond (Nat.ble (Nat.mul m by_) 140737488355328&&Nat.ble m 9223372036854775807) (some (.sli n 0 m sz,h.put n (some ⟨e,news,false⟩))) none
          | .sli i 0 l z'=>match bf h i 0 (Nat.mul l z'),h.get i with
            | some olds,some (some ao)=>cond (Nat.beq z' sz&&not ao.ro&&Nat.beq ao.T e&&Nat.ble (Nat.mul (Nat.add l m) by_) 140737488355328&&Nat.ble (Nat.add l m) 9223372036854775807)
                (some (.sli n 0 (Nat.add l m) sz,(h.put i none).put n (some ⟨e,olds++news,false⟩))) none
            | _,_=>none
          | _=>none) none
        | _,_=>none
      | _=>none
    | none=>none) none
  | _=>none
theorem lq{P:Program}{w:World}{t ty e:TypeId}{z:Value}{sz by_:Nat}(hT:qi P t e z sz by_){base:OA}{n c:Nat}(hn:n<=c):(Builtin.append_ #[t,t] ty #[.slice base n c,.slice none 0 0]).run P w=.ok (.slice base n c) w:=by
  obtain⟨i,hi,hz,hs,hby⟩:=hT.i;have hsz:bu P e=some sz:=by simp[bu,hi,hs]
  have hni:∀ w,(underlying t).run P w=.ok (.slice e) w:=ag hT.u
  cases base with
  | none=>simp[Builtin.append_,hni,aP hsz,Builtin.lenOf,hn,Builtin.firstCells]
  | some a=>simp[Builtin.append_,hni,aP hsz,Builtin.lenOf,hn,Builtin.firstCells,storeCells]
theorem tD{P:Program}{tys:Array TypeId}{dst:TypeId}{s x r:AV}{h h' : AH}{n:Nat}(hg:tC P tys.toList s x h n=some (r,h')){w0 w:World}{ρ:Names}(hr:bQ w0 w ρ h){vs vx:Value}(hs:rv ρ s=some vs)(hx:rv ρ x=some vx) :
    hJ P w0 w ρ (Builtin.append_ tys dst #[vs,vx]) r h':=by
  unfold tC at hg
  split at hg
  · rename_i t t' htys
    cases ht:Nat.beq t t' with
    | false=>rw[ht] at hg; cases hg
    | true =>
      rw[ht] at hg;obtain rfl:=beq_iff.1 ht;have htys' : tys = #[t,t]:=by rw[<- htys]
      subst htys';simp only[cond_true] at hg
      split at hg
      · rename_i e sz by_ zs he;obtain⟨z0,hT,hzs⟩:=(er he).slT
        split at hg
        · cases hx
          split at hg
          · cases hg; cases hs
            exact⟨_,w,ρ,lq hT (Nat.le_refl _),Ext.refl _,hr,rfl⟩
          · cases hg
            obtain⟨L,hL,hle,hz,rfl⟩:=bw hs;exact⟨_,w,ρ,lq hT (by omega),Ext.refl _,hr,hs⟩
          · cases hg
        · rename_i j o m z
          split at hg
          · rename_i news hnews hn
            cases hb:(Nat.beq z sz&&kz news&&Nat.ble 1 m) with
            | false=>rw[hb] at hg; cases hg
            | true =>
              rw[hb] at hg;simp only[cond_true] at hg;simp only[Bool.and_eq_true] at hb;obtain⟨⟨hz1,hones⟩,hm1⟩:=hb;obtain rfl:=beq_iff.1 hz1;have hm1:=Nat.le_of_ble_eq_true hm1;obtain⟨Lx,hLx,_,_,rfl⟩:=bw hx;obtain⟨Lx',us,hLx',hus,hul,hat⟩:=b7 hr hnews;obtain rfl:Lx=Lx':=Option.some.inj (hLx.symm.trans hLx');have hul:us.length=m*z:=hul;have hat:aa w ⟨Lx.b,o*z,none⟩ 0 us:=hat;have hnews' : ∀ j u,us[j]? = some u->w.cell? ((⟨Lx.b,o*z,none⟩:Addr).add j)=some u:=by
                have:∀ (l:List Value) (i:Nat),aa w ⟨Lx.b,o*z,none⟩ i l->∀ j u,l[j]? = some u->w.cell? ((⟨Lx.b,o*z,none⟩:Addr).add (i+j))=some u:=by
                  intro l
                  induction l with
                  | nil=>intro i _ j u hj; simp at hj
                  | cons a l ih =>
                    intro i hc j u hj
                    cases j with
                    | zero=>simp at hj; subst hj; exact hc.1
                    | succ j =>
                      have:=ih (i+1) hc.2 j u (by simpa using hj);rw[show i+(j+1)=i+1+j by omega];exact this
                intro j u hj;have:=this us 0 hat j u hj;simpa using this
              have hone:=gU hones hus
              split at hg
              · cases hb2:(Nat.ble (Nat.mul m by_) 140737488355328&&Nat.ble m 9223372036854775807) with
                | false=>rw[hb2] at hg; cases hg
                | true =>
                  rw[hb2] at hg
                  cases hg; cases hs
                  simp only[Bool.and_eq_true] at hb2;have g1:m*by_<=140737488355328:=Nat.le_of_ble_eq_true hb2.1;have g2:m<=9223372036854775807:=Nat.le_of_ble_eq_true hb2.2;have own:w.ownsRow 0 e z (.slice none 0 0) 0 []:=⟨by simp,.inl ⟨rfl,rfl⟩⟩;obtain⟨v',w',hrun,hown,hchg,hnxt⟩:=ie (P:=P) (ty:=dst) (c:=Lx.tot-o) hT own hul hnews' hone (by simpa using g1) (by simpa using g2) (K:=λ v' w'=>w'.ownsRow 0 e z v' (0+m) ([]++us)/\an w w' []/\xe w (.slice none 0 0) v') (λ v' w' h1 h2 h3=>⟨h1,h2,h3⟩);rcases hown.2 with⟨_,h0⟩ | ⟨g,cap,cur,rfl,_,hgg,hnc,hcm,hcs,htake⟩
                  · omega
                  · have hge:w.heap.size<=g:=(hnxt g rfl).resolve_left (λ h=>by cases h);simp only[Nat.zero_add,List.nil_append] at hnc htake hrun;have hul2:us.length=m*z:=hul;have hext:=Ext.eI (L:=⟨g,z,cap⟩) (aR hr hn);have:=hr.new hn (L:=⟨g,z,cap⟩) (T:=e) (cells:=news) (cur:=cur) (vs:=us) (ro:=false) hchg hgg (λ _=>rfl) hge (aY hext hus) (by rw[hul2]; exact htake) hcs.symm hcm;exact⟨_,w',_,hrun,hext,this,by simp[rv,eI,hnc]⟩
              · rename_i i l z'
                split at hg
                · rename_i olds ao holds hi
                  cases hb2:(Nat.beq z' z&&not ao.ro&&Nat.beq ao.T e&&Nat.ble (Nat.mul (Nat.add l m) by_) 140737488355328&&Nat.ble (Nat.add l m) 9223372036854775807) with
                  | false=>rw[hb2] at hg; cases hg
                  | true =>
                    rw[hb2] at hg
                    cases hg
                    simp only[Bool.and_eq_true] at hb2;obtain⟨⟨⟨⟨k1,hro⟩,k2⟩,k3⟩,k4⟩:=hb2;have hro:ao.ro=false:=by cases hq:ao.ro with
                      | false=>rfl
                      | true=>rw[hq] at hro; cases hro
                    obtain rfl:=beq_iff.1 k1;have k2:=beq_iff.1 k2;have g1:(l+m)*by_<=140737488355328:=Nat.le_of_ble_eq_true k3;have g2:l+m<=9223372036854775807:=Nat.le_of_ble_eq_true k4;obtain⟨L,hL,hle,hez,rfl⟩:=bw hs;obtain⟨L1,cur0,vs0,hl⟩:=hr.live i ao hi;obtain rfl:L=L1:=Option.some.inj (hL.symm.trans hl.at_);obtain⟨fz,hblk,hfz⟩:=hl.blk;obtain rfl:=hfz hro;have hold:olds=(ao.cells.drop 0).take (l*z')/\0+l*z'<=ao.cells.length:=by
                      unfold bf at holds;simp only[hi] at holds
                      cases hb3:Nat.ble (Nat.add 0 (Nat.mul l z')) ao.cells.length with
                      | false=>rw[hb3] at holds; cases holds
                      | true=>rw[hb3] at holds; cases holds; exact⟨rfl,Nat.le_of_ble_eq_true hb3⟩
                    have hvl:=aF hl.val;have hvo:bz ρ olds=some (vs0.take (l*z')):=by rw[hold.1]; simpa using eG (l*z') hl.val
                    have own:w.ownsRow 0 e z' (.slice (some ⟨L.b,0,none⟩) l L.tot) l (vs0.take (l*z')):=by
                      refine⟨by simp; omega,.inr ⟨L.b,L.tot,cur0,rfl,Nat.zero_le _,by rw[<- k2]; exact hblk,by omega,hl.most,by rw[<- hl.room,hez],?_⟩⟩;rw[<- hl.here,List.take_take]
                      congr 1
                      omega
                    obtain⟨v',w',hrun,hown,hchg,hnxt⟩:=ie (P:=P) (ty:=dst) (c:=Lx.tot-o) hT own hul hnews' hone g1 g2 (K:=λ v' w'=>w'.ownsRow 0 e z' v' (l+m) (vs0.take (l*z')++us)/\an w w' [L.b]/\xe w (.slice (some ⟨L.b,0,none⟩) l L.tot) v') (λ v' w' h1 h2 h3=>⟨h1,h2,h3⟩);rcases hown.2 with⟨_,h0⟩ | ⟨g,cap,cur,rfl,_,hgg,hnc,hcm,hcs,htake⟩
                    · omega
                    · have hge:g=L.b\/w.heap.size<=g:=(hnxt g rfl).imp (λ h=>by simp[Value.ownBlock] at h; exact h.symm) id;have hst:=hr.si i;have hdead:∀ (j:Nat) (ao' : AO) (L' : Loc),(h.put i none).get j=some (some ao')->ρ j=some L'->L'.b≠L.b:=λ j ao' L' hj hL'=>by
                        rw[aL] at hj
                        split at hj
                        · cases hj
                        · rename_i hji;exact hr.inj j i ao' ao L' L hji hj hi hL' hL
                      have hq:=hst.kM hchg (λ f hf=>by
                        simp at hf; subst hf;exact⟨hl.new,hdead⟩)
                      have hni:n≠i:=λ e=>by rw[e,hi] at hn; cases hn
                      have hn' : (h.put i none).get n=none:=by rw[aL,if_neg hni]; exact hn
                      have hext:=Ext.eI (L:=⟨g,z',cap⟩) (aR hr hn);have hul2:us.length=m*z':=hul;have hnm:=hq.name hn' (ro:=false) (L:=⟨g,z',cap⟩) (T:=e) (cells:=olds++news) (cur:=cur) (vs:=vs0.take (l*z')++us)
                        (by rcases hge with rfl | hge
                            · exact hl.new
                            · exact Nat.le_trans hr.au.size hge) hgg (λ _=>rfl)
                        (λ j ao' L' hj hL'=>by
                          rcases hge with rfl | hge
                          · exact hdead j ao' L' hj hL'
                          · have:=hst.below hj hL';show L'.b≠g;omega)
                        (dr (aY hext hvo) (aY hext hus)) (by
                          have:(vs0.take (l*z')++us).length=(l+m)*z':=by rw[hown.1]
                          rw[this]; exact htake) hcs.symm hcm
                      refine⟨_,w',_,by simpa using hrun,hext,hnm,?_⟩;simp[rv,eI,hnc]
                · cases hg
              · cases hg
          · cases hg
        · cases hg
      · cases hg
  · cases hg
def yE:List AV->Option (List UInt8)
  | []=>some []
  | .int .u8 (.ofNat n) :: l=>match yE l with
    | some m=>some (UInt8.ofNat n :: m)
    | none=>none
  | _=>none
theorem so{ρ:Names}:∀ {l:List AV} {m:List UInt8} {vs:List Value},yE l=some m->bz ρ l=some vs->∃ xs:List Int,vs=xs.map (Value.int .u8)/\m=xs.map λ n=>UInt8.ofNat n.toNat
  | [],m,vs,h,hv=>by cases h; cases hv; exact⟨[],rfl,rfl⟩
  | a :: l,m,vs,h,hv=>by
    obtain⟨v,us,rfl,h1,h2⟩:=aq hv;unfold yE at h
    split at h
    · rename_i heq; cases heq
    · rename_i n l' heq
      cases heq
      split at h
      · rename_i m' hm
        cases h
        obtain⟨xs,rfl,rfl⟩:=so hm h2
        cases aU h1
        exact⟨(n:Int) :: xs,rfl,rfl⟩
      · cases h
    · cases h
def wm(P:Program)(src dst:TypeId)(a:AV)(h:AH):Option AV:=match P.underlying src,P.underlying dst with
  | some (.slice e),some .string=>match P.underlying e,a with
    | some (.int .u8),.nils=>some (.str [])
    | some (.int .u8),.sli i o m 1=>match bf h i o m with
      | some az=>match yE az with
        | some l=>some (.str l)
        | none=>none
      | none=>none
    | _,_=>none
  | _,_=>none
theorem uc{P:Program}{src dst:TypeId}{a r:AV}{h:AH}(hg:wm P src dst a h=some r){w0 w:World}{ρ:Names}(hr:bQ w0 w ρ h){va:Value}(ha:rv ρ a=some va) :
    hJ P w0 w ρ (convert src dst va) r h:=by
  unfold wm at hg
  split at hg
  · rename_i e hs hd
    split at hg
    · rename_i he
      cases hg; cases ha
      exact⟨_,w,ρ,run_convert_bytes_nil (P:=P) w src e hs he 0 0 dst hd,Ext.refl _,hr,rfl⟩
    · rename_i i o m he
      split at hg
      · rename_i az haz
        split at hg
        · rename_i l hl
          cases hg
          obtain⟨L,hL,_,_,rfl⟩:=bw ha;obtain⟨L',us,hL',hus,hul,hat⟩:=b7 hr haz;obtain rfl:L=L':=Option.some.inj (hL.symm.trans hL');obtain⟨xs,rfl,rfl⟩:=so hl hus;have hcell:∀ i,i<m->w.cell? ⟨L.b,o+i,none⟩=some (.int .u8 (xs.getD i 0)):=by
            intro i hi;have key:∀ (l:List Value) (k:Nat),aa w ⟨L.b,o,none⟩ k l->∀ j u,l[j]? = some u->w.cell? ((⟨L.b,o,none⟩:Addr).add (k+j))=some u:=by
              intro l
              induction l with
              | nil=>intro k _ j u hj; simp at hj
              | cons a l ih =>
                intro k hc j u hj
                cases j with
                | zero=>simp at hj; subst hj; exact hc.1
                | succ j =>
                  have:=ih (k+1) hc.2 j u (by simpa using hj);rw[show k+(j+1)=k+1+j by omega];exact this
            have hlt:i<xs.length:=by simp at hul; omega
            have:=key _ 0 hat i (.int .u8 xs[i]) (by simp[hlt]);rw[cD] at this;simp only[Nat.zero_add] at this;rw[this];simp[hlt]
          have hrun:=run_convert_bytes_arg (P:=P) w src e hs he L.b o m (L.tot-o) xs (by simpa using hul) hcell dst hd;refine⟨.string (strOfNums xs),w,ρ,by simpa using hrun,Ext.refl _,hr,rfl⟩
        · cases hg
      · cases hg
    · cases hg
  · cases hg
def ep:List UInt8->List AV
  | []=>[]
  | b :: l=>.int .u8 (.ofNat b.toNat) :: ep l
theorem eS(ρ:Names):∀ l:List UInt8,bz ρ (ep l)=some (Lib.byteCells l)
  | []=>rfl
  | _ :: l=>bN rfl (eS ρ l)
theorem fG{P:Program}{w:World}{t u ty e:TypeId}{z:Value}(hT:qi P t e z 1 1)(hz:z=.int .u8 0)(hu:P.underlying u=some .string){v:Value}{n:Nat}{xs:List Value}(own:w.ownsRow 0 e 1 v n xs){s:ByteArray}(hb:n+s.size<=140737488355328){K:KP}(k:∀ v' w',w'.ownsRow 0 e 1 v' (n+s.size) (xs++Lib.strCells s)->an w w' v.ownBlock.toList->xe w v v'->K v' w') :
    iT P (Builtin.append_ #[t,u] ty #[v,.string s]) w K:=by
  obtain⟨i,hi,hz',hs,hby⟩:=hT.i;subst hz;have hml:n+s.size<=maxLen:=by unfold maxLen; omega
  obtain⟨v',w',hr,ho,hg,_⟩:=Lib.run_append_own_string (P:=P) w 0 t u ty e i hT.u hu hi hz' hs hby v n xs own s hml hb (Nat.zero_le _);refine⟨v',w',hr,k v' w' ho (an.grown hg) ?_⟩;rcases own.2 with⟨rfl,rfl⟩ | ⟨g,cap,cur,rfl,_,hgg,hnc,hcm,hcs,htake⟩
  · have own' : w.ownsRow w.heap.size e 1 (.slice none 0 0) 0 xs:=⟨own.1,.inl ⟨rfl,rfl⟩⟩;obtain⟨v2,w2,hr2,ho2,_⟩:=Lib.run_append_own_string (P:=P) w w.heap.size t u ty e i hT.u hu hi hz' hs hby _ 0 xs own' s hml hb (Nat.le_refl _);rw[hr] at hr2
    cases hr2
    exact λ j hj=>.inr (ho2.lt j hj).1
  · by_cases hroom:n+s.size<=cap
    · have hr2:=Lib.run_append_room_string (P:=P) w t u ty e i hT.u hu hi hs g n cap cur hgg s hroom (by omega);rw[hr] at hr2
      cases hr2
      exact λ j hj=>.inl hj
    · have holds:∀ j u,xs[j]? = some u->w.cell? ((⟨g,0,none⟩:Addr).add j)=some u:=own.cells (g:=g) rfl;have hr2:=Lib.run_append_grow_string (P:=P) w t u ty e i (.int .u8 0) hT.u hu hi hz' ⟨g,0,none⟩ n cap xs (by rw[hs]; exact own.1) holds s (by omega) (by omega) (by rw[hby]; exact growslice_fits (by omega) (by omega));rw[hr] at hr2
      cases hr2
      intro j hj;simp[Value.ownBlock] at hj;exact .inr (by omega)
def oI(P:Program)(e:TypeId):Bool:=match P.info? e with
  | some i=>match i.zero with
    | some (.int .u8 (.ofNat 0))=>true
    | _=>false
  | none=>false
theorem qR{P:Program}{e:TypeId}(h:oI P e=true):∃ i,P.info? e=some i/\i.zero=some (.int .u8 0):=by
  unfold oI at h
  split at h
  · rename_i i hi
    split at h
    · rename_i hz;exact⟨i,hi,hz⟩
    · cases h
  · cases h
def tE(P:Program)(tys:List TypeId)(s:AV)(x:List UInt8)(h:AH)(n:Nat):Option (AV×AH):=match tys with
  | [t,u]=>match P.underlying u,iw P t,h.get n with
    | some .string,some (e,sz,by_,_),none=>cond (Nat.beq sz 1&&Nat.beq by_ 1&&oI P e) (match s,x with
      | .nils,[]=>some (.nils,h)
      | .nils,b :: l=>cond (Nat.ble (b :: l).length 140737488355328) (some (.sli n 0 (b :: l).length 1,h.put n (some ⟨e,ep (b :: l),false⟩))) none
      | .sli i o l z,[]=>some (.sli i o l z,h)
      | .sli i 0 l z,b :: x=>match bf h i 0 (Nat.mul l z),h.get i with
        | some olds,some (some ao)=>cond (Nat.beq z 1&&not ao.ro&&Nat.beq ao.T e&&Nat.ble (Nat.add l (b :: x).length) 140737488355328) (some (.sli n 0 (Nat.add l (b :: x).length) 1,(h.put i none).put n (some ⟨e,olds++ep (b :: x),false⟩))) none
        | _,_=>none
      | _,_=>none) none
    | _,_,_=>none
  | _=>none
theorem eH(x:List UInt8):Lib.strCells ⟨x.toArray⟩=Lib.byteCells x:=by simp[Lib.strCells,Lib.byteCells]
theorem fF{P:Program}{w:World}{t u ty e:TypeId}{z:Value}{sz by_:Nat}(hT:qi P t e z sz by_)(hu:P.underlying u=some .string){base:OA}{n c:Nat}(hn:n<=c):(Builtin.append_ #[t,u] ty #[.slice base n c,.string ⟨#[]⟩]).run P w=.ok (.slice base n c) w:=by
  obtain⟨i,hi,hz,hs,hby⟩:=hT.i;have hsz:bu P e=some sz:=by simp[bu,hi,hs]
  have h0:(⟨#[]⟩:ByteArray).size=0:=rfl;have hf:=Lib.run_firstCells_string (P:=P) w sz ⟨#[]⟩;rw[h0] at hf;have hc:(Lib.strCells ⟨#[]⟩).toArray = #[]:=rfl;rw[hc] at hf
  cases base with
  | none=>simp[Builtin.append_,ag hT.u,ag hu,aP hsz,Builtin.lenOf,hn,h0,hf]
  | some a=>simp[Builtin.append_,ag hT.u,ag hu,aP hsz,Builtin.lenOf,hn,h0,hf,storeCells]
theorem tF{P:Program}{tys:Array TypeId}{dst:TypeId}{s r:AV}{x:List UInt8}{h h' : AH}{n:Nat}(hg:tE P tys.toList s x h n=some (r,h')){w0 w:World}{ρ:Names}(hr:bQ w0 w ρ h){vs:Value}(hs:rv ρ s=some vs) :
    hJ P w0 w ρ (Builtin.append_ tys dst #[vs,.string ⟨x.toArray⟩]) r h':=by
  unfold tE at hg
  split at hg
  · rename_i t u htys;have htys' : tys = #[t,u]:=by rw[<- htys]
    subst htys'
    split at hg
    · rename_i e sz by_ zs hu he hn
      cases hb:(Nat.beq sz 1&&Nat.beq by_ 1&&oI P e) with
      | false=>rw[hb] at hg; cases hg
      | true =>
        rw[hb] at hg;simp only[cond_true] at hg;simp only[Bool.and_eq_true] at hb;obtain⟨⟨q1,q2⟩,q3⟩:=hb;obtain rfl:=beq_iff.1 q1;obtain rfl:=beq_iff.1 q2;obtain⟨z0,hT,hzs⟩:=(er he).slT;have hz0:z0=.int .u8 0:=by
          obtain⟨i,hi,hz,_⟩:=hT.i;obtain⟨i',hi',hz'⟩:=qR q3;obtain rfl:i=i':=Option.some.inj (hi.symm.trans hi');exact Option.some.inj (hz.symm.trans hz')
        split at hg
        · cases hg; cases hs
          exact⟨_,w,ρ,fF hT hu (Nat.le_refl _),Ext.refl _,hr,rfl⟩
        · rename_i b l
          cases hb2:Nat.ble (b :: l).length 140737488355328 with
          | false=>rw[hb2] at hg; cases hg
          | true =>
            rw[hb2] at hg
            cases hg; cases hs
            have g1:=Nat.le_of_ble_eq_true hb2;have own:w.ownsRow 0 e 1 (.slice none 0 0) 0 []:=⟨by simp,.inl ⟨rfl,rfl⟩⟩;have hsz:(⟨(b :: l).toArray⟩:ByteArray).size=(b :: l).length:=by simp[ByteArray.size]
            obtain⟨v',w',hrun,hown,hchg,hnxt⟩:=fG (P:=P) (ty:=dst) hT hz0 hu own (s:=⟨(b :: l).toArray⟩) (by rw[hsz]; omega) (K:=λ v' w'=>w'.ownsRow 0 e 1 v' (0+(⟨(b :: l).toArray⟩:ByteArray).size) ([]++Lib.strCells ⟨(b :: l).toArray⟩)/\an w w' []/\xe w (.slice none 0 0) v') (λ v' w' h1 h2 h3=>⟨h1,h2,h3⟩);rw[hsz,eH] at hown;rcases hown.2 with⟨_,h0⟩ | ⟨g,cap,cur,rfl,_,hgg,hnc,hcm,hcs,htake⟩
            · simp at h0
            · have hge:w.heap.size<=g:=(hnxt g rfl).resolve_left (λ h=>by cases h);simp only[Nat.zero_add,List.nil_append] at hnc htake hrun;have hext:=Ext.eI (L:=⟨g,1,cap⟩) (aR hr hn);have:=hr.new hn (L:=⟨g,1,cap⟩) (T:=e) (cells:=ep (b :: l)) (cur:=cur) (vs:=Lib.byteCells (b :: l)) (ro:=false) hchg hgg (λ _=>rfl) hge (eS _ _) (by rw[Lib.byteCells_length]; simpa using htake) hcs.symm hcm;exact⟨_,w',_,hrun,hext,this,by simp[rv,eI]; simpa using hnc⟩
        · cases hg
          obtain⟨L,hL,hle,hz,rfl⟩:=bw hs;exact⟨_,w,ρ,fF hT hu (by omega),Ext.refl _,hr,hs⟩
        · rename_i i l z' b x
          split at hg
          · rename_i olds ao holds hi
            cases hb2:(Nat.beq z' 1&&not ao.ro&&Nat.beq ao.T e&&Nat.ble (Nat.add l (b :: x).length) 140737488355328) with
            | false=>rw[hb2] at hg; cases hg
            | true =>
              rw[hb2] at hg
              cases hg
              simp only[Bool.and_eq_true] at hb2;obtain⟨⟨⟨k1,hro⟩,k2⟩,k3⟩:=hb2;have hro:ao.ro=false:=by cases hq:ao.ro with
                | false=>rfl
                | true=>rw[hq] at hro; cases hro
              obtain rfl:=beq_iff.1 k1;have k2:=beq_iff.1 k2;have g1:l+(b :: x).length<=140737488355328:=Nat.le_of_ble_eq_true k3;obtain⟨L,hL,hle,hez,rfl⟩:=bw hs;obtain⟨L1,cur0,vs0,hl⟩:=hr.live i ao hi;obtain rfl:L=L1:=Option.some.inj (hL.symm.trans hl.at_);obtain⟨fz,hblk,hfz⟩:=hl.blk;obtain rfl:=hfz hro;have hold:olds=(ao.cells.drop 0).take (l*1)/\0+l*1<=ao.cells.length:=by
                unfold bf at holds;simp only[hi] at holds
                cases hb3:Nat.ble (Nat.add 0 (Nat.mul l 1)) ao.cells.length with
                | false=>rw[hb3] at holds; cases holds
                | true=>rw[hb3] at holds; cases holds; exact⟨rfl,Nat.le_of_ble_eq_true hb3⟩
              have hvl:=aF hl.val;have hvo:bz ρ olds=some (vs0.take (l*1)):=by rw[hold.1]; simpa using eG (l*1) hl.val
              have own:w.ownsRow 0 e 1 (.slice (some ⟨L.b,0,none⟩) l L.tot) l (vs0.take (l*1)):=by
                refine⟨by simp; omega,.inr ⟨L.b,L.tot,cur0,rfl,Nat.zero_le _,by rw[<- k2]; exact hblk,by omega,hl.most,by rw[<- hl.room,hez],?_⟩⟩;rw[<- hl.here,List.take_take]
                congr 1
                omega
              have hsz:(⟨(b :: x).toArray⟩:ByteArray).size=(b :: x).length:=by simp[ByteArray.size]
              obtain⟨v',w',hrun,hown,hchg,hnxt⟩:=fG (P:=P) (ty:=dst) hT hz0 hu own (s:=⟨(b :: x).toArray⟩) (by rw[hsz]; exact g1) (K:=λ v' w'=>w'.ownsRow 0 e 1 v' (l+(⟨(b :: x).toArray⟩:ByteArray).size) (vs0.take (l*1)++Lib.strCells ⟨(b :: x).toArray⟩)/\an w w' [L.b]/\xe w (.slice (some ⟨L.b,0,none⟩) l L.tot) v') (λ v' w' h1 h2 h3=>⟨h1,h2,h3⟩);rw[hsz,eH] at hown;rcases hown.2 with⟨_,h0⟩ | ⟨g,cap,cur,rfl,_,hgg,hnc,hcm,hcs,htake⟩
              · simp at h0
              · have hge:g=L.b\/w.heap.size<=g:=(hnxt g rfl).imp (λ h=>by simp[Value.ownBlock] at h; exact h.symm) id;have hst:=hr.si i;have hdead:∀ (j:Nat) (ao' : AO) (L' : Loc),(h.put i none).get j=some (some ao')->ρ j=some L'->L'.b≠L.b:=λ j ao' L' hj hL'=>by
                  rw[aL] at hj
                  split at hj
                  · cases hj
                  · rename_i hji;exact hr.inj j i ao' ao L' L hji hj hi hL' hL
                have hq:=hst.kM hchg (λ f hf=>by
                  simp at hf; subst hf;exact⟨hl.new,hdead⟩)
                have hni:n≠i:=λ e=>by rw[e,hi] at hn; cases hn
                have hn' : (h.put i none).get n=none:=by rw[aL,if_neg hni]; exact hn
                have hext:=Ext.eI (L:=⟨g,1,cap⟩) (aR hr hn);have hnm:=hq.name hn' (ro:=false) (L:=⟨g,1,cap⟩) (T:=e) (cells:=olds++ep (b :: x)) (cur:=cur) (vs:=vs0.take (l*1)++Lib.byteCells (b :: x))
                  (by rcases hge with rfl | hge
                      · exact hl.new
                      · exact Nat.le_trans hr.au.size hge) hgg (λ _=>rfl)
                  (λ j ao' L' hj hL'=>by
                    rcases hge with rfl | hge
                    · exact hdead j ao' L' hj hL'
                    · have:=hst.below hj hL';show L'.b≠g;omega)
                  (dr (aY hext hvo) (eS _ _)) (by
                    have:(vs0.take (l*1)++Lib.byteCells (b :: x)).length=(l+(b :: x).length)*1:=by rw[hown.1]
                    rw[this]; exact htake) hcs.symm hcm
                refine⟨_,w',_,by simpa using hrun,hext,hnm,?_⟩;simp only[rv,eI,if_true,Option.bind_some];rw[if_pos]
                · simp
                · refine⟨?_,trivial⟩;show 0+(l+(b :: x).length)<=cap;omega
          · cases hg
        · cases hg
    · cases hg
  · cases hg
def v8(P:Program)(t:TypeId)(d s:AV)(h:AH):Option (AV×AH):=match d,s with
  | .nils,.nils=>some (.int .i64 (.ofNat 0),h)
  | .nils,.sli _ _ _ _=>some (.int .i64 (.ofNat 0),h)
  | .sli _ _ _ _,.nils=>some (.int .i64 (.ofNat 0),h)
  | .sli i o l z,.sli j p m y=>match iw P t,h.get i,bf h j (Nat.mul p y) (Nat.mul (cond (Nat.ble m l) m l) y) with
    | some (_,sz,_,_),some (some ao),some news=>cond (Nat.beq z sz&&Nat.beq y sz&&not ao.ro&&kz news&&Nat.ble (Nat.add (Nat.mul o z) news.length) ao.cells.length)
        (some (.int .i64 (.ofNat (cond (Nat.ble m l) m l)),h.put i (some ⟨ao.T,setAt ao.cells (Nat.mul o z) news,ao.ro⟩))) none
    | _,_,_=>none
  | _,_=>none
theorem ct{w:World}{a:Addr}:∀ (l:List Value) (k:Nat),aa w a k l->∀ j u,l[j]? = some u->w.cell? (a.add (k+j))=some u
  | [],_,_,j,u,hj=>by simp at hj
  | x :: l,k,hc,j,u,hj=>by
    cases j with
    | zero=>simp at hj; subst hj; exact hc.1
    | succ j =>
      have:=ct l (k+1) hc.2 j u (by simpa using hj);rw[show k+(j+1)=k+1+j by omega];exact this
theorem tK{P:Program}{tys:Array TypeId}{t dst:TypeId}{d s r:AV}{h h' : AH}(hg:v8 P t d s h=some (r,h'))(ht:tys[0]? = some t)(hsl:∃ e,P.underlying t=some (.slice e)/\∃ n,bu P e=some n){w0 w:World}{ρ:Names}(hr:bQ w0 w ρ h){vd vs:Value}(hd:rv ρ d=some vd)(hs:rv ρ s=some vs):hJ P w0 w ρ (Builtin.copy_ tys dst #[vd,vs]) r h':=by
  obtain⟨e,hu,en,hen⟩:=hsl;have zero:∀ {vd vs:Value},(∃ b n c,vd=.slice b n c)->(∃ b n c,vs=.slice b n c)->(vd=.slice none 0 0\/vs=.slice none 0 0)->(Builtin.copy_ tys dst #[vd,vs]).run P w=.ok (.int .i64 0) w:=by
    rintro vd vs ⟨b,n,c,rfl⟩ ⟨b',n',c',rfl⟩ hz;have hmin:Nat.min n' n=0:=by rcases hz with hz | hz<;>cases hz<;>simp
    have hl0:∀ a:Addr,(loadCells a 0).run P w=.ok #[] w:=λ a=>by simp[loadCells,loadCellsFrom]
    cases b<;>cases b' <;> simp[Builtin.copy_,ht,ag hu,Builtin.lenOf,aP hen,hmin,Builtin.firstCells,hl0,storeCells,goInt]
  unfold v8 at hg
  split at hg
  · cases hg; cases hd; cases hs
    exact⟨_,w,ρ,zero ⟨_,_,_,rfl⟩ ⟨_,_,_,rfl⟩ (.inl rfl),Ext.refl _,hr,rfl⟩
  · cases hg; cases hd
    obtain⟨L,_,_,_,rfl⟩:=bw hs;exact⟨_,w,ρ,zero ⟨_,_,_,rfl⟩ ⟨_,_,_,rfl⟩ (.inl rfl),Ext.refl _,hr,rfl⟩
  · cases hg; cases hs
    obtain⟨L,_,_,_,rfl⟩:=bw hd;exact⟨_,w,ρ,zero ⟨_,_,_,rfl⟩ ⟨_,_,_,rfl⟩ (.inr rfl),Ext.refl _,hr,rfl⟩
  · rename_i i o l z j p m y
    split at hg
    · rename_i e1 sz by_ zs ao news he hi hnews;generalize hk:cond (Nat.ble m l) m l=k at hg hnews;have hkmin:Nat.min m l=k:=by
        rw[<- hk];show min m l=_
        cases hb:Nat.ble m l with
        | true=>simp[Nat.min_eq_left (Nat.le_of_ble_eq_true hb)]
        | false =>
          have : ¬ m<=l:=λ h=>by rw[Nat.ble_eq_true_of_le h] at hb; cases hb
          simp[Nat.min_eq_right (Nat.le_of_not_le this)]
      cases hb:(Nat.beq z sz&&Nat.beq y sz&&not ao.ro&&kz news&&Nat.ble (Nat.add (Nat.mul o z) news.length) ao.cells.length) with
      | false=>rw[hb] at hg; cases hg
      | true =>
        rw[hb] at hg
        cases hg
        simp only[Bool.and_eq_true] at hb;obtain⟨⟨⟨⟨q1,q2⟩,q3⟩,q4⟩,q5⟩:=hb;obtain rfl:=beq_iff.1 q1;have q2:=beq_iff.1 q2;subst q2;have hro:ao.ro=false:=by cases hq:ao.ro with
          | false=>rfl
          | true=>rw[hq] at q3; cases q3
        have q5:o*y+news.length<=ao.cells.length:=Nat.le_of_ble_eq_true q5;obtain⟨z0,hT,hzs⟩:=(er he).slT;obtain⟨i0,hi0,hz0,hs0,hby0⟩:=hT.i;obtain⟨L,hL,hle,hez,rfl⟩:=bw hd;obtain⟨Lx,hLx,hlex,hezx,rfl⟩:=bw hs;obtain⟨L1,cur,vs,hl⟩:=hr.live i ao hi;obtain rfl:L=L1:=Option.some.inj (hL.symm.trans hl.at_);obtain⟨fz,hblk,hfz⟩:=hl.blk;obtain rfl:=hfz hro;obtain⟨Lx',us,hLx',hus,hul,hat⟩:=b7 hr hnews;obtain rfl:Lx=Lx':=Option.some.inj (hLx.symm.trans hLx');have hul:us.length=k*y:=hul;have hat:aa w ⟨Lx.b,p*y,none⟩ 0 us:=hat;have hvl:=aF hl.val;have hnl:=aF hus;have hone:=gU q4 hus;have hcur:vs.length<=cur.toList.length:=by rw[<- hl.here]; simp; omega
        have hfit:o*y+0+us.length<=cur.size:=by simp at hcur; omega
        have hsz:bu P e1=some y:=by simp[bu,hi0,hs0]
        have hload:(loadCells ⟨Lx.b,p*y,none⟩ (k*y)).run P w=.ok us.toArray w:=by
          rw[<- hul];have:=eU (P:=P) us 0 #[] hat;simpa[loadCells] using this
        refine⟨.int .i64 k,_,ρ,?_,Ext.refl _,hr.rewrite hi hL (w':=w.setRow L.b (setAt cur.toList (o*y) us).toArray) (cells:=setAt ao.cells (o*y) news) (cur':=(setAt cur.toList (o*y) us).toArray) (vs':=setAt vs (o*y) us) ?_ ?_ (dL (o*y) hl.val hus) ?_ ?_,rfl⟩
        · simp only[Builtin.copy_,ht,ag hT.u,Sem.run_bind,Result.andThen_ok,Builtin.lenOf,Sem.run_pure,hkmin,aP hsz,Builtin.firstCells,hload,List.getElem?_toArray,List.getElem?_cons_zero,List.getElem?_cons_succ];have hst:=run_storeCells_at P L.b (o*y) ao.T us 0 cur w hblk hfit hone;simp only[hst,Result.andThen_ok,goInt];rw[fR _ _ _ (by simpa using hfit)]
          simp
        · exact⟨by simp[World.setRow],λ k _ hn=>setRow_other w L.b k _ (by simpa using hn),⟨rfl,rfl,rfl⟩⟩
        · exact setRow_heap w L.b cur _ ao.T _ hblk
        · rw[br,dY _ _ _ _ (by omega)];rw[hl.here]
        · simp only[List.size_toArray,br];simpa using hl.room
    · cases hg
  · cases hg
def uQ:List AV->Option (List UInt8)
  | []=>some []
  | .int .u8 (.ofNat n) :: l=>match uQ l with
    | some m=>cond (Nat.ble n 255) (some (UInt8.ofNat n :: m)) none
    | none=>none
  | _=>none
theorem pe{ρ:Names}:∀ {l:List AV} {m:List UInt8} {vs:List Value},uQ l=some m->bz ρ l=some vs->vs=Lib.byteCells m
  | [],m,vs,h,hv=>by cases h; cases hv; rfl
  | a :: l,m,vs,h,hv=>by
    obtain⟨v,us,rfl,h1,h2⟩:=aq hv;unfold uQ at h
    split at h
    · rename_i heq; cases heq
    · rename_i n l' heq
      cases heq
      split at h
      · rename_i m' hm
        cases hb:Nat.ble n 255 with
        | false=>rw[hb] at h; cases h
        | true =>
          rw[hb] at h
          cases h
          have:=Nat.le_of_ble_eq_true hb
          cases aU h1
          rw[pe hm h2];have e:(UInt8.ofNat n).toNat=n:=by simp; omega
          simp[Lib.byteCells,e]
      · cases h
    · cases h
def wq(a:AV):Option AV:=match a with
  | .nils=>some .nilp
  | .sli i o (_+1) z=>some (.ptr i (Nat.mul o z))
  | _=>none
theorem ue{P:Program}{ρ:Names}{tys:Array TypeId}{ty:TypeId}{a r:AV}{v:Value}(hg:wq a=some r)(ha:rv ρ a=some v):b5 P ρ (Builtin.unsafeSliceData_ tys ty #[v]) r:=by
  unfold wq at hg
  split at hg
  · cases hg; cases ha
    exact⟨_,rfl,λ w=>Lib.run_unsafeSliceData_nil w tys ty 0 0⟩
  · rename_i i o l z
    cases hg
    obtain⟨L,hL,hle,_,rfl⟩:=bw ha;exact⟨_,by simp only[rv,hL,Option.map_some]; rfl,λ w=>Lib.run_unsafeSliceData_row w tys ty _ _ _ (by omega)⟩
  · cases hg
def wu(P:Program)(tys:List TypeId)(p m:AV)(h:AH):Option (AV×AH):=match tys,m with
  | [_,_],.int .i64 (.ofNat 0)=>match p with
    | .nilp=>some (.str [],h)
    | .ptr _ _=>some (.str [],h)
    | _=>none
  | [pt,_],.int .i64 (.ofNat (k+1))=>match p,P.underlying pt with
    | .ptr i 0,some (.pointer e)=>match bf h i 0 (Nat.succ k),h.get i with
      | some az,some (some ao)=>match uQ az with
        | some l=>cond (Nat.beq ao.T e&&Nat.beq (P.cellsOf e) 1&&Nat.ble (Nat.succ k) 9223372036854775807) (some (.str l,h.put i none)) none
        | none=>none
      | _,_=>none
    | _,_=>none
  | _,_=>none
theorem an.freeze(w:World)(b o n:Nat):an w (w.freeze ⟨b,o,none⟩ n) [b]:=by
  unfold World.freeze
  split
  · exact an.refl _ _
  · exact⟨by simp,λ k _ hk=>by
      simp only[Array.getElem?_modify];rw[if_neg (by simpa using λ e=>hk (by simp[e]))],⟨rfl,rfl,rfl⟩⟩
theorem uf{P:Program}{tys:Array TypeId}{ty:TypeId}{p m r:AV}{h h' : AH}(hg:wu P tys.toList p m h=some (r,h')){w0 w:World}{ρ:Names}(hr:bQ w0 w ρ h){vp vm:Value}(hp:rv ρ p=some vp)(hm:rv ρ m=some vm) :
    hJ P w0 w ρ (Builtin.unsafeString_ tys ty #[vp,vm]) r h':=by
  unfold wu at hg
  split at hg
  · rename_i pt it htys;have htys' : tys = #[pt,it]:=by rw[<- htys]
    subst htys'
    cases aU hm
    split at hg
    · cases hg; cases hp
      exact⟨_,w,ρ,Lib.run_unsafeString_none w pt it ty none,Ext.refl _,hr,rfl⟩
    · cases hg
      obtain⟨L,_,rfl⟩:=bV hp;exact⟨_,w,ρ,Lib.run_unsafeString_none w pt it ty _,Ext.refl _,hr,rfl⟩
    · cases hg
  · rename_i pt it k htys;have htys' : tys = #[pt,it]:=by rw[<- htys]
    subst htys'
    cases aU hm
    split at hg
    · rename_i i e hpt
      split at hg
      · rename_i az ao haz hi
        split at hg
        · rename_i l hl
          cases hb:(Nat.beq ao.T e&&Nat.beq (P.cellsOf e) 1&&Nat.ble (Nat.succ k) 9223372036854775807) with
          | false=>rw[hb] at hg; cases hg
          | true =>
            rw[hb] at hg
            cases hg
            simp only[Bool.and_eq_true] at hb;obtain⟨⟨q1,q2⟩,q3⟩:=hb;have q1:=beq_iff.1 q1;have q2:=beq_iff.1 q2;have q3:=Nat.le_of_ble_eq_true q3;obtain⟨L,hL,rfl⟩:=bV hp;obtain⟨L1,cur,vs,hlv⟩:=hr.live i ao hi;obtain rfl:L=L1:=Option.some.inj (hL.symm.trans hlv.at_);obtain⟨fz,hblk,_⟩:=hlv.blk;obtain⟨L',us,hL',hus,hul,hat⟩:=b7 hr haz;obtain rfl:L=L':=Option.some.inj (hL.symm.trans hL');have hbc:=pe hl hus;subst hbc;have hll:l.length=k+1:=by rw[<- Lib.byteCells_length,hul]
            have hcell:∀ j x,l[j]? = some x->w.cell? ((⟨L.b,0,none⟩:Addr).add j)=some (.int .u8 x.toNat):=λ j x hj=>by
              have:=ct _ 0 hat j (.int .u8 x.toNat) (by simp[Lib.byteCells,hj]);simpa using this
            have hsh:w.shape? L.b=some (e,cur.size):=by simp[World.shape?,hblk,q1]
            have hlen:l.length<=cur.size:=by
              have hc:=ct _ 0 hat k (.int .u8 (l.getD k 0).toNat) (by
                have hk:k<l.length:=by omega
                simp[Lib.byteCells,hk])
              rw[cD,Nat.zero_add,cP,hblk,b9] at hc;have:=(Array.getElem?_eq_some_iff.1 hc).1;omega
            have hrun:=Lib.run_unsafeString_row (P:=P) w pt it ty e hpt q2 L.b cur.size hsh l (by intro h0; rw[h0] at hll; simp at hll) hlen (by omega) hcell;rw[hll] at hrun;have hst:=hr.si i;refine⟨_,_,ρ,hrun,Ext.refl _,hst.kM (an.freeze w L.b 0 (k+1)) (λ f hf=>?_),rfl⟩;simp at hf; subst hf;refine⟨hlv.new,λ j ao' L' hj hL'=>?_⟩;rw[aL] at hj
            split at hj
            · cases hj
            · rename_i hji;exact hr.inj j i ao' ao L' L hji hj hi hL' hL
        · cases hg
      · cases hg
    · cases hg
  · cases hg
def v7(P:Program)(src dst:TypeId)(l:List UInt8)(h:AH)(n:Nat):Option (AV×AH):=match P.underlying src,P.underlying dst,h.get n with
  | some .string,some (.slice e),none=>match P.underlying e with
    | some (.int .u8)=>cond (Nat.ble l.length 4294967296) (some (.sli n 0 l.length 1,h.put n (some ⟨e,ep l,true⟩))) none
    | _=>none
  | _,_,_=>none
theorem tI{P:Program}{src dst:TypeId}{l:List UInt8}{r:AV}{h h' : AH}{n:Nat}(hg:v7 P src dst l h n=some (r,h')){w0 w:World}{ρ:Names}(hr:bQ w0 w ρ h) :
    hJ P w0 w ρ (convert src dst (.string ⟨l.toArray⟩)) r h':=by
  unfold v7 at hg
  split at hg
  · rename_i e hs hd hn
    split at hg
    · rename_i he
      cases hb:Nat.ble l.length 4294967296 with
      | false=>rw[hb] at hg; cases hg
      | true =>
        rw[hb] at hg
        cases hg
        have hle:=Nat.le_of_ble_eq_true hb;have hsz:(⟨l.toArray⟩:ByteArray).size=l.length:=by simp[ByteArray.size]
        have hge:=grownCap_ge w (⟨l.toArray⟩:ByteArray).size 0 e;have hrun:=Lib.run_convert_string_bytes (P:=P) w src dst e ⟨l.toArray⟩ hs hd he;have hcs:(Lib.bytesCells w e ⟨l.toArray⟩).size=grownCap w (⟨l.toArray⟩:ByteArray).size 0 e:=by
          simp only[Lib.bytesCells,Array.size_append,Array.size_map,Array.size_replicate];have e1:l.toArray.size=l.length:=by simp
          have e2:(⟨l.toArray⟩:ByteArray).data.size=l.length:=by simp
          omega
        have hchg:an w (Lib.bytesWorld w e ⟨l.toArray⟩) []:=⟨by rw[Lib.bytesWorld_size]; omega,λ j hj _=>Lib.bytesWorld_at_old w e _ j hj,by
          unfold Lib.bytesWorld World.freeze
          split<;>exact⟨rfl,rfl,rfl⟩⟩
        have hext:=Ext.eI (L:=⟨w.heap.size,1,grownCap w (⟨l.toArray⟩:ByteArray).size 0 e⟩) (aR hr hn);have hnew:=hr.new hn (ro:=true) (T:=e) (L:=⟨w.heap.size,1,grownCap w (⟨l.toArray⟩:ByteArray).size 0 e⟩) (cells:=ep l) (vs:=Lib.byteCells l) hchg (Lib.bytesWorld_at_new w e ⟨l.toArray⟩) (λ h=>by cases h) (Nat.le_refl _) (eS _ _)
          (by
            simp only[Lib.bytesCells,Array.toList_append];have e1:((⟨l.toArray⟩:ByteArray).data.map λ b=>Value.int .u8 b.toNat).toList=Lib.byteCells l:=by simp[Lib.byteCells]
            rw[e1,List.take_left]) (by rw[Nat.mul_one,hcs]) (grownCap_le_maxLen w _ 0 e (by rw[hsz]; unfold maxLen; omega))
        refine⟨_,_,_,hrun,hext,hnew,?_⟩;simp only[rv,eI,if_true,Option.bind_some];rw[if_pos]
        · simp[hsz]
        · exact⟨by show 0+l.length<=_; omega,trivial⟩
    · cases hg
  · cases hg
def y9(P:Program)(src dst:TypeId)(a:AV)(h:AH):Option AV:=match a with
  | .ptr i 0=>match h.get i with
    | some (some ao)=>match P.underlying src,P.underlying dst with
      | some (.pointer t),some .unsafePointer=>match P.info? t,ao.cells with
        | some j,_ :: _=>cond (Nat.beq j.size 0) none (some (.ptr i 0))
        | _,_=>none
      | some .unsafePointer,some (.pointer u)=>match P.info? u with
        | some j=>cond (Nat.beq ao.T u&&Nat.ble 1 j.size&&Nat.ble j.size ao.cells.length) (some (.ptr i 0)) none
        | none=>none
      | _,_=>none
    | _=>none
  | _=>none
theorem l9{P:Program}{e:TypeId}{c:Nat}(hc:P.cellsOf e=c)(h0:0<c)(count:Nat)(hn:1<=count):liesAt P P.depth e count 0 e 1=true:=by
  have hd:P.depth=(2*(P.types.size+Made.depth)+1)+1:=rfl;rw[hd];simp only[liesAt,Bool.or_eq_true]
  left
  rw[hd];have h1:c≠0:=by omega
  simp[rowAt,hc,h1,hn,sameLayout]
theorem wo{P:Program}{src dst:TypeId}{a r:AV}{h:AH}(hg:y9 P src dst a h=some r){w0 w:World}{ρ:Names}(hr:bQ w0 w ρ h){va:Value}(ha:rv ρ a=some va):hJ P w0 w ρ (convert src dst va) r h:=by
  unfold y9 at hg
  split at hg
  · rename_i i
    split at hg
    · rename_i ao hi;obtain⟨L,hL,rfl⟩:=bV ha;obtain⟨L1,cur,vs,hlv⟩:=hr.live i ao hi;obtain rfl:L=L1:=Option.some.inj (hL.symm.trans hlv.at_);obtain⟨fz,hblk,_⟩:=hlv.blk;have hvl:=aF hlv.val;have hcur:vs.length<=cur.size:=by
        have:vs.length<=cur.toList.length:=by rw[<- hlv.here]; simp; omega
        simpa using this
      have hsh:w.shape? L.b=some (ao.T,cur.size):=by simp[World.shape?,hblk]
      split at hg
      · rename_i t hs hd
        split at hg
        · rename_i j c cs hj hcs
          cases hb:Nat.beq j.size 0 with
          | true=>rw[hb] at hg; cases hg
          | false =>
            rw[hb] at hg
            cases hg
            have hj0:j.size≠0:=λ e=>by rw[e] at hb; cases hb
            exact⟨_,w,ρ,Lib.run_to_unsafe w ⟨L.b,0,none⟩ hs hd hj hj0 hsh (by show 0<cur.size; rw[hcs] at hvl; simp at hvl; omega),Ext.refl _,hr,ha⟩
        · cases hg
      · rename_i u hs hd
        split at hg
        · rename_i j hj
          cases hb:(Nat.beq ao.T u&&Nat.ble 1 j.size&&Nat.ble j.size ao.cells.length) with
          | false=>rw[hb] at hg; cases hg
          | true =>
            rw[hb] at hg
            cases hg
            simp only[Bool.and_eq_true] at hb;obtain⟨⟨q1,q2⟩,q3⟩:=hb;have q1:=beq_iff.1 q1;have q2:=Nat.le_of_ble_eq_true q2;have q3:=Nat.le_of_ble_eq_true q3;rw[q1] at hsh;have hco:P.cellsOf u=j.size:=by simp[Program.cellsOf,hj]
            exact⟨_,w,ρ,Lib.run_from_unsafe w ⟨L.b,0,none⟩ hs hd hj hsh (by
              show liesAt P P.depth u (cur.size / P.cellsOf u) 0 u 1=true;refine l9 hco q2 _ ?_;rw[hco,Nat.le_div_iff_mul_le q2];omega),Ext.refl _,hr,ha⟩
        · cases hg
      · cases hg
    · cases hg
  · cases hg
def vH(P:Program)(f:FuncId)(e:Array Value->Sem Value):Prop :=
  ∃ fn,P.funcs[f]? = some fn/\(fn.name== "runtime.NumGoroutine")=false/\fn.body.isNone=true/\Extern.findNext fn=none/\Extern.find fn=some e
structure XT where
  noEsc:Nat
  idx:Nat
  cnt:Nat
  mnz:Nat
  mps:Array TypeId
  mt:TypeId
  me:TypeId
def we(x:XT):List AV->AH->Nat->FuncId->Option (AV×AH×Nat):=λ args h n f =>
  cond (Nat.beq f x.noEsc) (match args with
    | [a]=>some (a,h,n)
    | _=>none)
  (cond (Nat.beq f x.idx) (match args with
    | [.str l,.int .u8 c]=>some (j9 .i64 (Lib.indexByte l c.toNat.toUInt8),h,n)
    | _=>none)
  (cond (Nat.beq f x.cnt) (match args with
    | [.str l,.int .u8 c]=>some (j9 .i64 (.ofNat (Lib.countByte l c.toNat.toUInt8)),h,n)
    | _=>none)
  (cond (Nat.beq f x.mnz) (match args,h.get n with
    | [.int .i64 (.ofNat m)],none=>cond (Nat.ble m 281474976710656) (some (.sli n 0 m 1,h.put n (some ⟨x.me,[],false⟩),Nat.succ n)) none
    | _,_=>none) none)))
structure XT.OK (P:Program) (x:XT):Prop where
  noEsc:vH P x.noEsc Extern.AbiNoEscape.same
  idx:vH P x.idx Extern.BytealgIndexByte.indexByte
  cnt:vH P x.cnt Extern.BytealgCount.count
  mnz:vH P x.mnz (Extern.BytealgMakeNoZero.makeNoZero x.mps #[x.mt])
  me:P.underlying x.mt=some (.slice x.me)
theorem vH.run{P:Program}{f:FuncId}{e:Array Value->Sem Value}(h:vH P f e){args:Array Value}{w w' : World}{v:Value}(hr:(e args).run P w=.ok v w'):(callFunc f args).run P w=.ok (.value v) w':=by
  obtain⟨fn,h1,h2,h3,h4,h5⟩:=h;rw[run_callFunc_extern h1 h2 h3 h4 h5,hr];rfl
theorem tN{P:Program}{x:XT}(hx:x.OK P){f:FuncId}{args:List AV}{h h' : AH}{n n' : Nat}{a:AV}(hg:we x args h n f=some (a,h',n')){w0 w:World}{ρ:Names}{vs:List Value}(hr:bQ w0 w ρ h)(hv:bz ρ args=some vs) :
    ∃ v w' ρ',(callFunc f vs.toArray).run P w=.ok (.value v) w'/\Ext ρ ρ'/\bQ w0 w' ρ' h'/\rv ρ' a=some v:=by
  unfold we at hg
  cases h1:Nat.beq f x.noEsc with
  | true =>
    have:=beq_iff.1 h1;subst this;rw[h1] at hg;simp only[cond_true] at hg
    split at hg
    · rename_i a
      cases hg
      obtain⟨v,us,rfl,k1,k2⟩:=aq hv
      cases k2
      exact⟨v,w,ρ,hx.noEsc.run (Lib.run_noEscape w v),Ext.refl _,hr,k1⟩
    · cases hg
  | false =>
    rw[h1] at hg;simp only[cond_false] at hg
    cases h2:Nat.beq f x.idx with
    | true =>
      have:=beq_iff.1 h2;subst this;rw[h2] at hg;simp only[cond_true] at hg
      split at hg
      · rename_i l c
        cases hg
        obtain⟨v,us,rfl,k1,k2⟩:=aq hv;obtain⟨v2,us2,rfl,k3,k4⟩:=aq k2
        cases k4
        cases bW k1; cases aU k3
        exact⟨_,w,ρ,hx.idx.run (Lib.run_indexByteString _ c w),Ext.refl _,hr,by rw[bM]; rfl⟩
      · cases hg
    | false =>
      rw[h2] at hg;simp only[cond_false] at hg
      cases h3:Nat.beq f x.cnt with
      | true =>
        have:=beq_iff.1 h3;subst this;rw[h3] at hg;simp only[cond_true] at hg
        split at hg
        · rename_i l c
          cases hg
          obtain⟨v,us,rfl,k1,k2⟩:=aq hv;obtain⟨v2,us2,rfl,k3,k4⟩:=aq k2
          cases k4
          cases bW k1; cases aU k3
          exact⟨_,w,ρ,hx.cnt.run (Lib.run_countString _ c w),Ext.refl _,hr,by rw[bM]; rfl⟩
        · cases hg
      | false =>
        rw[h3] at hg;simp only[cond_false] at hg
        cases h4:Nat.beq f x.mnz with
        | false=>rw[h4] at hg; cases hg
        | true =>
          have:=beq_iff.1 h4;subst this;rw[h4] at hg;simp only[cond_true] at hg
          split at hg
          · rename_i m hn
            cases hb:Nat.ble m 281474976710656 with
            | false=>rw[hb] at hg; cases hg
            | true =>
              rw[hb] at hg
              cases hg
              have hle:=Nat.le_of_ble_eq_true hb;obtain⟨v,us,rfl,k1,k2⟩:=aq hv
              cases k2
              cases aU k1
              obtain⟨cs,hrun,hcs,hcm⟩:=Lib.run_makeNoZero (P:=P) w x.mps x.mt x.me hx.me m hle;have hchg:an w (w.drew.drew.alloc (.cells cs x.me)) []:=((an.drew w []).trans (an.drew w.drew []) (by simp)).trans (an.new w.drew.drew _ []) (by simp);have hext:=Ext.eI (L:=⟨w.heap.size,1,cs.size⟩) (aR hr hn);have hnew:=hr.new hn (ro:=false) (T:=x.me) (L:=⟨w.heap.size,1,cs.size⟩) (cells:=[]) (vs:=[]) (cur:=cs) (fz:=(0,0)) hchg (by
                have:=eA w.drew.drew (.cells cs x.me) w.heap.size;rw[this]
                simp) (λ _=>rfl) (Nat.le_refl _) rfl rfl (by simp) (hcm (by unfold maxLen; omega))
              refine⟨_,_,_,hx.mnz.run hrun,hext,hnew,?_⟩;simp only[rv,eI,if_true,Option.bind_some];rw[if_pos]
              · simp
              · exact⟨by show 0+m<=cs.size; omega,trivial⟩
          · cases hg
end Go.Gx
