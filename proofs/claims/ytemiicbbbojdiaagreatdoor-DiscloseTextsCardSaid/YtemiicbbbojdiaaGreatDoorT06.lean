import Derived.ScopeJumps
import Derived.LoopNIn
import Derived.Test.YtemiicbbbojdiaaGreatDoorT05
set_option linter.unusedVariables false
set_option maxRecDepth 100000
noncomputable section
namespace Go.Gx
open Go Go.Vc
mutual
def ek:AV->AV->Bool
  | .int k n,.int k' m=>cond (lK k k') (qk n m) false
  | .bool a,.bool b=>cond a b (not b)
  | .str l,.str m=>ko l m
  | .nilp,.nilp=>true
  | .ptr i o,.ptr j p=>cond (Nat.beq i j) (Nat.beq o p) false
  | .nils,.nils=>true
  | .sli i o l z,.sli i' o' l' z'=>cond (Nat.beq i i') (cond (Nat.beq o o') (cond (Nat.beq l l') (Nat.beq z z') false) false) false
  | .nili,.nili=>true
  | .iface T v,.iface T' v'=>cond (Nat.beq T T') (ek v v') false
  | .nilf,.nilf=>true
  | .fn f x y,.fn f' x' y'=>cond (Nat.beq f f') (cond (ig x x') (ig y y') false) false
  | .yld i,.yld j=>Nat.beq i j
  | .agg cs,.agg cs'=>ig cs cs'
  | .tup cs,.tup cs'=>ig cs cs'
  | _,_=>false
def ig:List AV->List AV->Bool
  | [],[]=>true
  | a :: l,b :: m=>cond (ek a b) (ig l m) false
  | _,_=>false
end
theorem bZ{a b:Bool}(h:cond a b false=true):a=true/\b=true:=by cases a<;>simp_all
mutual
theorem jU:∀ {a b:AV},ek a b=true->a=b
  | .int k n,b,h=>by
    cases b<;>simp only[ek] at h<;>try cases h
    obtain⟨h1,h2⟩:=bZ h;rw[gi] at h2;rw[cV h1,eq_of_beq h2]
  | .bool x,b,h=>by
    cases b<;>simp only[ek] at h<;>try cases h
    rename_i y
    cases x<;>cases y<;>first | rfl | cases h
  | .str l,b,h=>by
    cases b<;>simp only[ek] at h<;>try cases h
    rw[dV] at h;rw[eq_of_beq h]
  | .nilp,b,h=>by cases b<;>simp only[ek] at h<;>first | rfl | cases h
  | .nils,b,h=>by cases b<;>simp only[ek] at h<;>first | rfl | cases h
  | .nili,b,h=>by cases b<;>simp only[ek] at h<;>first | rfl | cases h
  | .nilf,b,h=>by cases b<;>simp only[ek] at h<;>first | rfl | cases h
  | .ptr i o,b,h=>by
    cases b<;>simp only[ek] at h<;>try cases h
    obtain⟨h1,h2⟩:=bZ h;rw[beq_iff.1 h1,beq_iff.1 h2]
  | .sli i o l z,b,h=>by
    cases b<;>simp only[ek] at h<;>try cases h
    obtain⟨h1,h⟩:=bZ h;obtain⟨h2,h⟩:=bZ h;obtain⟨h3,h4⟩:=bZ h;rw[beq_iff.1 h1,beq_iff.1 h2,beq_iff.1 h3,beq_iff.1 h4]
  | .iface T v,b,h=>by
    cases b<;>simp only[ek] at h<;>try cases h
    obtain⟨h1,h2⟩:=bZ h;rw[beq_iff.1 h1,jU h2]
  | .fn f x y,b,h=>by
    cases b<;>simp only[ek] at h<;>try cases h
    obtain⟨h1,h⟩:=bZ h;obtain⟨h2,h3⟩:=bZ h;rw[beq_iff.1 h1,dQ h2,dQ h3]
  | .yld i,b,h=>by
    cases b<;>simp only[ek] at h<;>try cases h
    rw[beq_iff.1 h]
  | .agg cs,b,h=>by
    cases b<;>simp only[ek] at h<;>try cases h
    rw[dQ h]
  | .tup cs,b,h=>by
    cases b<;>simp only[ek] at h<;>try cases h
    rw[dQ h]
theorem dQ:∀ {l m:List AV},ig l m=true->l=m
  | [],[],_=>rfl
  | [],_ :: _,h=>by simp[ig] at h
  | _ :: _,[],h=>by simp[ig] at h
  | a :: l,b :: m,h=>by
    simp only[ig] at h;obtain⟨h1,h2⟩:=bZ h;rw[jU h1,dQ h2]
end
def nq{α:Type}(f:α->α->Bool):List (Nat×α)->List (Nat×α)->Bool
  | [],[]=>true
  | a :: l,b :: m=>cond (Nat.beq a.1 b.1) (cond (f a.2 b.2) (nq f l m) false) false
  | _,_=>false
theorem oo{α:Type}{f:α->α->Bool}(hf:∀ {a b},f a b=true->a=b):∀ {l m:List (Nat×α)},nq f l m=true->l=m
  | [],[],_=>rfl
  | [],_ :: _,h=>by simp[nq] at h
  | _ :: _,[],h=>by simp[nq] at h
  | (i,a) :: l,(j,b) :: m,h=>by
    simp only[nq] at h;obtain⟨h1,h⟩:=bZ h;obtain⟨h2,h3⟩:=bZ h;rw[beq_iff.1 h1,hf h2,oo hf h3]
def Tr.beq{α:Type}(f:α->α->Bool):Tr α->Tr α->Bool
  | .leaf l,.leaf m=>nq f l m
  | .node a b,.node c d=>cond (Tr.beq f a c) (Tr.beq f b d) false
  | _,_=>false
theorem Tr.beq_eq{α:Type}{f:α->α->Bool}(hf:∀ {a b},f a b=true->a=b):∀ {t u:Tr α},Tr.beq f t u=true->t=u
  | .leaf l,.leaf m,h=>by rw[oo hf (show nq f l m=true from h)]
  | .leaf _,.node _ _,h=>by simp[Tr.beq] at h
  | .node _ _,.leaf _,h=>by simp[Tr.beq] at h
  | .node a b,.node c d,h=>by
    simp only[Tr.beq] at h;obtain⟨h1,h2⟩:=bZ h;rw[Tr.beq_eq hf h1,Tr.beq_eq hf h2]
def qn:Option AO->Option AO->Bool
  | none,none=>true
  | some a,some b=>cond (Nat.beq a.T b.T) (cond (ig a.cells b.cells) (cond a.ro b.ro (not b.ro)) false) false
  | _,_=>false
theorem sM:∀ {a b:Option AO},qn a b=true->a=b
  | none,none,_=>rfl
  | none,some _,h=>by simp[qn] at h
  | some _,none,h=>by simp[qn] at h
  | some ⟨T,c,r⟩,some ⟨T',c',r'⟩,h=>by
    simp only[qn] at h;obtain⟨h1,h2⟩:=bZ h;obtain⟨h2,h3⟩:=bZ h2;have:r=r':=by cases r<;>cases r' <;> first | rfl | cases h3
    rw[beq_iff.1 h1,dQ h2,this]
structure AD where
  f:FuncId
  cap:List AV
  args:List AV
def dv(ρ:Names)(d:AD):Option Deferred:=match bz ρ d.cap,bz ρ d.args with
  | some c,some a=>some { target:=.fn (.func d.f) c.toArray,args:=a.toArray }
  | _,_=>none
def kX(ρ:Names):List AD->Option (List Deferred)
  | []=>some []
  | d :: l=>match dv ρ d,kX ρ l with
    | some x,some xs=>some (x :: xs)
    | _,_=>none
theorem tw{ρ σ:Names}(hx:Ext ρ σ){d:AD}{x:Deferred}(h:dv ρ d=some x):dv σ d=some x:=by
  unfold dv at h ⊢
  split at h
  · rename_i c a h1 h2;rw[aY hx h1,aY hx h2]; exact h
  · cases h
theorem fJ{ρ σ:Names}(hx:Ext ρ σ):∀ {l:List AD} {xs:List Deferred},kX ρ l=some xs->kX σ l=some xs
  | [],_,h=>h
  | d :: l,xs,h=>by
    simp only[kX] at h ⊢
    split at h
    · rename_i x xs' h1 h2;rw[tw hx h1,fJ hx h2]; exact h
    · cases h
theorem ot{ρ:Names}:∀ {l m:List AD} {xs ys:List Deferred},kX ρ l=some xs->kX ρ m=some ys->kX ρ (l++m)=some (xs++ys)
  | [],_,_,_,h,k=>by cases h; exact k
  | d :: l,m,xs,ys,h,k=>by
    simp only[kX] at h
    split at h
    · rename_i x xs' h1 h2
      cases h
      simp only[List.cons_append,kX,h1,ot h2 k]
    · cases h
abbrev aB:=FuncId->List AV->AH->Nat->Option (AV×AH×Nat)
def cA(P:Program)(w0:World)(call:aB):Prop:=∀ (f:FuncId) (args:List AV) (h:AH) (n:Nat) (a:AV) (h' : AH) (n' : Nat),call f args h n=some (a,h',n') ->
  ∀ (ρ:Names) (w:World) (vs:List Value) (R:Ending->World->Prop),bQ w0 w ρ h->bz ρ args=some vs->(∀ (ρ' : Names) (w' : World) (v:Value),Ext ρ ρ'->bQ w0 w' ρ' h'->rv ρ' a=some v->R (.returned v) w')->Calls P f vs.toArray w R
def hU(P:Program)(w0:World)(ext:aB):Prop:=∀ (f:FuncId) (args:List AV) (h:AH) (n:Nat) (a:AV) (h' : AH) (n' : Nat),ext f args h n=some (a,h',n') ->
  ∀ (ρ:Names) (w:World) (vs:List Value),bQ w0 w ρ h->bz ρ args=some vs ->
    ∃ v w' ρ',(callFunc f vs.toArray).run P w=.ok (.value v) w'/\Ext ρ ρ'/\bQ w0 w' ρ' h'/\rv ρ' a=some v
abbrev GO:=Option (AV×List AD×AH×Nat)
def qj(n:Nat):Option (AV×AH)->GO
  | some (a,h)=>some (a,[],h,n)
  | none=>none
def um(P:Program)(t:TypeId):Bool:=match P.underlying t with
  | some (.slice e)=>(bu P e).isSome
  | _=>false
theorem uo{P:Program}{t:TypeId}(h:um P t=true):∃ e,P.underlying t=some (.slice e)/\∃ n,bu P e=some n:=by
  unfold um at h
  split at h
  · rename_i e hu;exact⟨e,hu,Option.isSome_iff_exists.1 h⟩
  · cases h
def nh(P:Program)(call ext:aB)(o:Oper)(e:Tr AV)(h:AH)(n:Nat):GO:=match o.op with
  | .store ty x v=>match bJ e x,bJ e v with
    | some p,some a=>match pO P ty p a h with
      | some h'=>some (.tup [],[],h',n)
      | none=>none
    | _,_=>none
  | .alloc T=>match gG P T with
    | some z=>qj (Nat.succ n) (lQ T z h n)
    | none=>none
  | .box T x=>match bJ e x with
    | some a=>qj (Nat.succ n) (lQ T a h n)
    | none=>none
  | .buildSlice ty len ps=>match gI e ps.toList with
    | some az=>qj (Nat.succ n) (qD P ty len az h n)
    | none=>none
  | .makeSlice ty l c=>match bJ e l,bJ e c with
    | some a,some b=>qj (Nat.succ n) (wh P ty a b h n)
    | _,_=>none
  | .convert src dst x=>match ni P o e with
    | some a=>some (a,[],h,n)
    | none=>match bJ e x with
      | some a=>match wm P src dst a h with
        | some r=>some (r,[],h,n)
        | none=>match y9 P src dst a h with
          | some r=>some (r,[],h,n)
          | none=>match a with
            | .str l=>qj (Nat.succ n) (v7 P src dst l h n)
            | _=>none
      | none=>none
  | .call { callee:=.builtin .copy,args:=args,argTypes:=tys }=>match dB e args.toList,tys[0]? with
    | some [d,s],some t=>cond (um P t) (qj n (v8 P t d s h)) none
    | _,_=>none
  | .call { callee:=.builtin .unsafeSliceData,args:=args,argTypes:=_ }=>match dB e args.toList with
    | some [s]=>match wq s with
      | some r=>some (r,[],h,n)
      | none=>none
    | _=>none
  | .call { callee:=.builtin .unsafeString,args:=args,argTypes:=tys }=>match dB e args.toList with
    | some [p,m]=>qj n (wu P tys.toList p m h)
    | _=>none
  | .call { callee:=.builtin .append,args:=args,argTypes:=tys }=>match dB e args.toList with
    | some [s,x]=>match x with
      | .str l=>qj (Nat.succ n) (tE P tys.toList s l h n)
      | x=>qj (Nat.succ n) (tC P tys.toList s x h n)
    | _=>none
  | .call { callee:=.value f,args:=args,argTypes:=_ }=>match bJ e f,dB e args.toList with
    | some (.fn g xs ys),some az=>match cond (bx P g) (call g (xs++az++ys) h n) (ext g (xs++az++ys) h n) with
      | some (r,h',n')=>some (r,[],h',n')
      | none=>none
    | _,_=>none
  | .defer { callee:=.value f,args:=args,argTypes:=_ }=>match bJ e f,dB e args.toList with
    | some (.fn g xs ys),some az=>some (.tup [],[⟨g,ys,xs++az⟩],h,n)
    | _,_=>none
  | _=>match tX P o e h with
    | some (a,_)=>some (a,[],h,n)
    | none=>none
theorem vz{ρ:Names}{f:FuncId}{x y:List AV}{v:Value}(h:rv ρ (.fn f x y)=some v):∃ xs ys,bz ρ x=some xs/\bz ρ y=some ys/\v=.func (.func f) xs.toArray ys.toArray:=by
  simp only[rv] at h
  split at h
  · rename_i xs ys h1 h2
    cases h; exact⟨xs,ys,h1,h2,rfl⟩
  · cases h
theorem qK{P:Program}{w0:World}{call ext:aB}(hcall:cA P w0 call)(hext:hU P w0 ext){o:Oper}{e:Tr AV}{h h' : AH}{n n' : Nat}{a:AV}{ds:List AD}(hg:nh P call ext o e h n=some (a,ds,h',n')){w:World}{ρ:Names}(hr:bQ w0 w ρ h){t:Tm}(he:bE ρ e t){K:Value->List Deferred->World->Prop}(k:∀ (ρ' : Names) (v:Value) (nd:List Deferred) (w' : World),Ext ρ ρ'->bQ w0 w' ρ' h'->rv ρ' a=some v->kX ρ' ds=some nd->K v nd w'):qh P o t w K:=by
  have fin:∀ {s:Sem Value},execOp (ev t) o=(do pure (.value (<- s)):Sem Next)->ds=[]->hJ P w0 w ρ s a h'->qh P o t w K:=λ {s} hs hd hw=>by
    obtain⟨v,w',ρ',h1,h2,h3,h4⟩:=hw;refine⟨.value v,w',by rw[hs]; simp only[Sem.run_bind,h1,Result.andThen_ok,Sem.run_pure],?_⟩;subst hd;exact k ρ' v [] w' h2 h3 h4 rfl
  have rd:(∃ T,tX P o e h=some (a,T))->ds=[]->h' = h->qh P o t w K:=λ ⟨T,hT⟩ hd hh=>by
    obtain⟨v,h1,h2,h3⟩:=qM hT hr he;subst hd hh;exact⟨.value v,w,h3 w h2,k ρ v [] w (Ext.refl _) hr h1 rfl⟩
  have goO_ok:∀ {x:Option (AV×AH)} {m:Nat},qj m x=some (a,ds,h',n')->x=some (a,h')/\ds=[]:=λ {x m} hx=>by
    unfold qj at hx
    split at hx
    · cases hx; exact⟨rfl,rfl⟩
    · cases hx
  unfold nh at hg
  split at hg
  · rename_i ty x v hx
    split at hg
    · rename_i p b hp hb
      split at hg
      · rename_i h2 hs
        cases hg
        obtain⟨w',hrun,hr'⟩:=tZ hs hr (aA he hp) (aA he hb);exact⟨.skip,w',by simp[execOp,hx,hrun],k ρ undef [] w' (Ext.refl _) hr' rfl rfl⟩
      · cases hg
    · cases hg
  · rename_i T hx
    split at hg
    · rename_i z hz;obtain⟨hn,rfl⟩:=goO_ok hg;obtain⟨v,hv,_,hrun⟩:=fT hz ρ;obtain⟨u,w',ρ',h1,h2,h3,h4⟩:=oC (P:=P) hn hr hv;refine fin (s:=Instr.alloc T true (.tuple #[])) (by simp[execOp,hx]) rfl ⟨u,w',ρ',?_,h2,h3,h4⟩;simp only[Instr.alloc,Sem.run_bind,hrun,Result.andThen_ok];simpa only[Sem.run_bind] using h1
    · cases hg
  · rename_i T x hx
    split at hg
    · rename_i b hb;obtain⟨hn,rfl⟩:=goO_ok hg;exact fin (s:=Instr.box T (ev t x)) (by simp[execOp,hx]) rfl (oC (P:=P) hn hr (aA he hb))
    · cases hg
  · rename_i ty len ps hx
    split at hg
    · rename_i az haz;obtain⟨hn,rfl⟩:=goO_ok hg;refine fin (s:=Instr.buildSlice ty len (ps.map λ (i,x)=>(i,ev t x))) (by simp[execOp,hx]) rfl (tJ hn hr ?_);simpa using jQ he haz
    · cases hg
  · rename_i ty l c hx
    split at hg
    · rename_i a1 b1 ha hb;obtain⟨hn,rfl⟩:=goO_ok hg;exact fin (s:=Instr.makeSlice ty (ev t l) (ev t c)) (by simp[execOp,hx]) rfl (tT hn hr (aA he ha) (aA he hb))
    · cases hg
  · rename_i src dst x hx
    split at hg
    · rename_i b hb
      cases hg
      obtain⟨v,h1,h2⟩:=qL hb he;exact⟨.value v,w,h2 w,k ρ v [] w (Ext.refl _) hr h1 rfl⟩
    · split at hg
      · rename_i b hb
        split at hg
        · rename_i r hr2
          cases hg
          exact fin (s:=convert src dst (ev t x)) (by simp[execOp,hx]) rfl (uc hr2 hr (aA he hb))
        · split at hg
          · rename_i r hr2
            cases hg
            exact fin (s:=convert src dst (ev t x)) (by simp[execOp,hx]) rfl (wo hr2 hr (aA he hb))
          · split at hg
            · rename_i l;obtain⟨hn,rfl⟩:=goO_ok hg;exact fin (s:=convert src dst (ev t x)) (by simp[execOp,hx]) rfl (by rw[bW (aA he hb)]; exact tI hn hr)
            · cases hg
      · cases hg
  · rename_i args tys hx
    split at hg
    · rename_i d s ty hds ht
      cases hsl:um P ty with
      | false=>rw[hsl] at hg; cases hg
      | true =>
        rw[hsl] at hg;obtain⟨hn,rfl⟩:=goO_ok hg;have hv:=bS he hds;obtain⟨vs,us,hm,h1,h2⟩:=aq hv;obtain⟨vx,us',rfl,h3,h4⟩:=aq h2
        cases h4
        have hargs:args.map (ev t) = #[vs,vx]:=Array.ext' (by rw[Array.toList_map,hm]);refine fin (s:=Builtin.copy_ tys o.type #[vs,vx]) ?_ rfl (tK hn ht (uo hsl) hr h1 h3);simp[execOp,hx,resolve,invoke,builtin,hargs]
    · cases hg
  · rename_i args tys hx
    split at hg
    · rename_i s hs
      split at hg
      · rename_i r hr2
        cases hg
        have hv:=bS he hs;obtain⟨vs,us,hm,h1,h2⟩:=aq hv
        cases h2
        have hargs:args.map (ev t) = #[vs]:=Array.ext' (by rw[Array.toList_map,hm]);obtain⟨v,k1,k2⟩:=ue (P:=P) (tys:=tys) (ty:=o.type) hr2 h1;refine fin (s:=Builtin.unsafeSliceData_ tys o.type #[vs]) ?_ rfl ⟨v,w,ρ,k2 w,Ext.refl _,hr,k1⟩;simp[execOp,hx,resolve,invoke,builtin,hargs]
      · cases hg
    · cases hg
  · rename_i args tys hx
    split at hg
    · rename_i p m hpm;obtain⟨hn,rfl⟩:=goO_ok hg;have hv:=bS he hpm;obtain⟨vs,us,hm,h1,h2⟩:=aq hv;obtain⟨vx,us',rfl,h3,h4⟩:=aq h2
      cases h4
      have hargs:args.map (ev t) = #[vs,vx]:=Array.ext' (by rw[Array.toList_map,hm]);refine fin (s:=Builtin.unsafeString_ tys o.type #[vs,vx]) ?_ rfl (uf hn hr h1 h3);simp[execOp,hx,resolve,invoke,builtin,hargs]
    · cases hg
  · rename_i args tys hx
    split at hg
    · rename_i s x hs;have hv:=bS he hs;obtain⟨vs,us,hm,h1,h2⟩:=aq hv;obtain⟨vx,us',rfl,h3,h4⟩:=aq h2
      cases h4
      have hargs:args.map (ev t) = #[vs,vx]:=Array.ext' (by rw[Array.toList_map,hm]);have hex:execOp (ev t) o=(do pure (.value (<- Builtin.append_ tys o.type #[vs,vx])):Sem Next):=by simp[execOp,hx,resolve,invoke,builtin,hargs]
      split at hg
      · rename_i l;obtain⟨hn,rfl⟩:=goO_ok hg;exact fin hex rfl (by rw[bW h3]; exact tF hn hr h1)
      · obtain⟨hn,rfl⟩:=goO_ok hg;exact fin hex rfl (tD hn hr h1 h3)
    · cases hg
  · rename_i f args tys hx
    split at hg
    · rename_i g xs ys az hf haz;obtain⟨vxs,vys,h1,h2,h3⟩:=vz (aA he hf);have h4:=bS he haz;have hall:=dr (dr h1 h4) h2;have hargs:args.map (ev t)=(args.toList.map (ev t)).toArray:=Array.ext' (by rw[Array.toList_map]);have hex:∀ w,(execOp (ev t) o).run P w=(callFunc g (vxs++args.toList.map (ev t)++vys).toArray).run P w:=λ w=>by
        have:(vxs++args.toList.map (ev t)++vys).toArray=vxs.toArray++args.map (ev t)++vys.toArray:=by rw[hargs]; simp
        rw[this];simp only[execOp,hx,resolve,h3,Deferred.ofValue,Sem.run_bind,Sem.run_pure,Result.andThen_ok,invoke]
      split at hg
      · rename_i r h2' n2 hc
        cases hg
        cases hen:bx P g with
        | true =>
          rw[hen] at hc;refine⟨.enter g (vxs++args.toList.map (ev t)++vys).toArray,w,by rw[hex w]; exact cU hen _ w,?_⟩;exact hcall g _ h n a h' n' hc ρ w _ _ hr hall λ ρ' w' v hx hr' hv=>⟨v,rfl,k ρ' v [] w' hx hr' hv rfl⟩
        | false =>
          rw[hen] at hc;obtain⟨v,w',ρ',g1,g2,g3,g4⟩:=hext g _ h n a h' n' hc ρ w _ hr hall;exact⟨.value v,w',by rw[hex w]; exact g1,k ρ' v [] w' g2 g3 g4 rfl⟩
      · cases hg
    · cases hg
  · rename_i f args tys hx
    split at hg
    · rename_i g xs ys az hf haz
      cases hg
      obtain⟨vxs,vys,h1,h2,h3⟩:=vz (aA he hf);have h4:=bS he haz;have hargs:args.map (ev t)=(args.toList.map (ev t)).toArray:=Array.ext' (by rw[Array.toList_map]);refine⟨.defer { target:=.fn (.func g) vys.toArray,args:=(vxs++args.toList.map (ev t)).toArray },w,?_,?_⟩
      · simp[execOp,hx,resolve,h3,Deferred.ofValue]
      · refine k ρ undef _ w (Ext.refl _) hr rfl ?_;simp only[kX,dv,h2,dr h1 h4]
    · cases hg
  · split at hg
    · rename_i b T hb
      cases hg
      exact rd ⟨_,hb⟩ rfl rfl
    · cases hg
def dU(ops:Array Oper)(e:Tr AV)(o:Oper):Option Bool:=match o.guard with
  | none=>some true
  | some (j,pol)=>match (ops[j]?).bind (·.dst) with
    | none=>none
    | some d=>match e.get d with
      | some (.bool b)=>some (cond pol b (not b))
      | some (.tup [])=>some false
      | _=>none
theorem cL{ops:Array Oper}{e:Tr AV}{o:Oper}{g:Bool}(h:dU ops e o=some g){ρ:Names}{t:Tm}(he:bE ρ e t){A B:Tm->Prop}(hA:g=true->A t)(hB:g=false->B t):gd ops t o A B:=by
  unfold dU at h;unfold gd
  split at h
  · rename_i hg
    cases h
    rw[hg];exact hA rfl
  · rename_i j pol hg;rw[hg];simp only
    split at h
    · cases h
    · rename_i d hd;rw[hd];simp only
      split at h
      · rename_i b hb;have hv:=bL (he _ _ hb);rw[hv];have hs:=vE t d _ hv (by simp[undef]);simp only
        cases pol<;>cases b<;>simp only[cond] at h ⊢ <;> rw[hs]<;>cases h
        · exact hA rfl
        · exact hB rfl
        · exact hB rfl
        · exact hA rfl
      · rename_i hb
        cases h
        obtain⟨vs,hvs,hv⟩:=n8 (he _ _ hb);rw[hv];exact hB rfl
      · cases h
inductive GS where
  | no
  | ok (e:Tr AV) (d:List AD) (h:AH) (n:Nat)
structure fV (w0:World) (N:Nat) (ρ:Names) (e:Tr AV) (d:List AD) (h:AH) (t:Tm) (dd:List Deferred) (w:World):Prop where
  rep:bQ w0 w ρ h
  env:bE ρ e t
  len:t.length=N
  dfs:kX ρ d=some dd
def jq(w0:World)(N:Nat)(ρ:Names)(e:Tr AV)(d:List AD)(h:AH)(t:Tm)(dd:List Deferred)(w:World):Prop:=∃ ρ',Ext ρ ρ'/\fV w0 N ρ' e d h t dd w
theorem jq.trans{w0:World}{N:Nat}{ρ σ:Names}{e:Tr AV}{d:List AD}{h:AH}{t:Tm}{dd:List Deferred}{w:World}(hx:Ext ρ σ)(k:jq w0 N σ e d h t dd w):jq w0 N ρ e d h t dd w :=
  let ⟨τ,h1,h2⟩:=k
  ⟨τ,hx.trans h1,h2⟩
def fh(P:Program)(call ext:aB)(N:Nat)(ops:Array Oper):List Oper->Tr AV->List AD->AH->Nat->GS
  | [],e,d,h,n=>.ok e d h n
  | o :: rest,e,d,h,n=>match dU ops e o with
    | some true=>match nh P call ext o e h n with
      | some (a,ds,h',n')=>match gJ N e o.dst a with
        | some e'=>fh P call ext N ops rest e' (ds++d) h' n'
        | none=>.no
      | none=>.no
    | some false=>match gJ N e o.dst (.tup []) with
      | some e'=>fh P call ext N ops rest e' d h n
      | none=>.no
    | none=>.no
theorem fL{P:Program}{w0:World}{call ext:aB}(hcall:cA P w0 call)(hext:hU P w0 ext){N:Nat}{ops:Array Oper}:∀ {l:List Oper} {e e' : Tr AV} {d d' : List AD} {h h' : AH} {n n' : Nat},
    fh P call ext N ops l e d h n=.ok e' d' h' n'->∀ {ρ:Names} {t:Tm} {dd:List Deferred} {w:World},fV w0 N ρ e d h t dd w->fN P ops l t dd w (λ t dd w=>jq w0 N ρ e' d' h' t dd w)
  | [],e,e',d,d',h,h',n,n',hg,ρ,t,dd,w,hs=>by
    simp only[fh] at hg
    cases hg
    exact⟨ρ,Ext.refl _,hs⟩
  | o :: rest,e,e',d,d',h,h',n,n',hg,ρ,t,dd,w,hs=>by
    simp only[fh] at hg
    split at hg
    · rename_i hgd
      split at hg
      · rename_i a ds h2 n2 ho
        split at hg
        · rename_i e2 hp;refine cL hgd hs.env (λ _=>?_) (λ h=>by cases h);refine qK hcall hext ho hs.rep hs.env λ ρ' v nd w' hx hr hv hd=>?_;obtain⟨h1,h2⟩:=eP hp hs.len (hs.env.mono hx) hv;have:=fL hcall hext hg (ρ:=ρ') (t:=pt t o.dst v) (dd:=nd++dd) (w:=w') ⟨hr,h1,h2,ot hd (fJ hx hs.dfs)⟩;have e1:∀ {l:List Oper} {t:Tm} {dd:List Deferred} {w:World} {K K' : Tm->List Deferred->World->Prop},(∀ t dd w,K t dd w->K' t dd w)->fN P ops l t dd w K->fN P ops l t dd w K':=by
            intro l
            induction l with
            | nil=>intro t dd w K K' hk h; exact hk _ _ _ h
            | cons o l ih =>
              intro t dd w K K' hk h;simp only[fN] at h ⊢;unfold gd at h ⊢;have hO:∀ (t:Tm),qh P o t w (λ v nd w'=>fN P ops l (pt t o.dst v) (nd++dd) w' K)->qh P o t w (λ v nd w'=>fN P ops l (pt t o.dst v) (nd++dd) w' K'):=λ t ⟨n,w',hr,hn⟩=>by
                refine⟨n,w',hr,?_⟩
                cases n<;>simp only[mg] at hn ⊢
                · exact ih hk hn
                · exact ih hk hn
                · exact Calls.mono hn λ e w'' ⟨v,h1,h2⟩=>⟨v,h1,ih hk h2⟩
                · exact RoundIn.mono hn λ e w'' ⟨v,h1,h2⟩=>⟨v,h1,ih hk h2⟩
                · exact ih hk hn
              split
              · rename_i hq; simp only[hq] at h; exact hO _ h
              · rename_i j pol hq;simp only[hq] at h
                split
                · rename_i hq2; simp only[hq2] at h; exact ih hk h
                · rename_i d hq2;simp only[hq2] at h
                  split
                  · rename_i b hq3;simp only[hq3] at h
                    cases pol<;>cases b<;>simp only[cond] at h ⊢ <;> first | exact hO _ h | exact ih hk h
                  · rename_i hq3
                    split at h
                    · rename_i b hq4; exact absurd hq4 (hq3 b)
                    · exact ih hk h
          exact e1 (λ t dd w h=>h.trans hx) this
        · cases hg
      · cases hg
    · rename_i hgd
      split at hg
      · rename_i e2 hp;refine cL hgd hs.env (λ h=>by cases h) (λ _=>?_);obtain⟨h1,h2⟩:=eP hp hs.len hs.env (v:=undef) rfl;exact fL hcall hext hg (ρ:=ρ) ⟨hs.rep,h1,h2,hs.dfs⟩
      · cases hg
    · cases hg
abbrev dA:=List (Nat×List nk)
def iF(h:AH):List nk->Bool
  | []=>true
  | d :: l=>match bf h d.i d.o d.vs.length with
    | some az=>cond (ig az d.vs) (iF h l) false
    | none=>false
def gm(h:AH):dA->Bool
  | []=>true
  | p :: l=>cond (iF h p.2) (gm h l) false
def iu(ops:Array Oper)(j:Nat)(pend:dA):dA:=pend.filter λ p=>!dep ops ops.size j p.1
def gY(ρ:Names)(ds:List nk)(T:List (World->Prop)):Prop:=∃ ρ0,Ext ρ0 ρ/\T=ds.map (dR ρ0)/\∀ d∈ds,∃ L vs,ρ0 d.i=some L/\bz ρ0 d.vs=some vs
theorem gY.mono{ρ σ:Names}(hx:Ext ρ σ){ds:List nk}{T:List (World->Prop)}(h:gY ρ ds T):gY σ ds T :=
  let ⟨ρ0,h1,h2,h3⟩:=h
  ⟨ρ0,h1.trans hx,h2,h3⟩
theorem iG{h:AH}:∀ {l:List nk},iF h l=true->∀ d∈l,bf h d.i d.o d.vs.length=some d.vs
  | [],_,d,hd=>by cases hd
  | x :: l,hk,d,hd=>by
    simp only[iF] at hk
    split at hk
    · rename_i az haz;obtain⟨h1,h2⟩:=bZ hk;have:=dQ h1;subst this;rcases List.mem_cons.1 hd with rfl | hd
      · exact haz
      · exact iG h2 d hd
    · cases hk
theorem gY.holds{w0 w:World}{ρ:Names}{h:AH}(hr:bQ w0 w ρ h){ds:List nk}{T:List (World->Prop)}(hd:gY ρ ds T)(hk:iF h ds=true):holds T w:=by
  obtain⟨ρ0,hx,rfl,hw⟩:=hd;intro f hf;obtain⟨d,hd,rfl⟩:=List.mem_map.1 hf;obtain⟨L,vs,h1,h2⟩:=hw d hd;obtain⟨L',vs',g1,g2,_,g4⟩:=b7 hr (iG hk d hd);obtain rfl:L=L':=Option.some.inj ((hx _ _ h1).symm.trans g1);obtain rfl:vs=vs':=Option.some.inj ((aY hx h2).symm.trans g2);exact⟨L,vs,h1,h2,g4⟩
inductive ei (ρ:Names):dA->dx->Prop
  | nil:ei ρ [] []
  | cons {i:Nat} {ds:List nk} {T:List (World->Prop)} {l:dA} {m:dx}:gY ρ ds T->ei ρ l m->ei ρ ((i,ds) :: l) ((i,T) :: m)
theorem ei.mono{ρ σ:Names}(hx:Ext ρ σ){l:dA}{m:dx}(h:ei ρ l m):ei σ l m:=by
  induction h with
  | nil=>exact .nil
  | cons h _ ih=>exact .cons (h.mono hx) ih
theorem ei.drop{ρ:Names}{l:dA}{m:dx}(h:ei ρ l m)(ops:Array Oper)(j:Nat):ei ρ (iu ops j l) (Vc.drop ops j m):=by
  induction h with
  | nil=>exact .nil
  | cons h _ ih =>
    rename_i i ds T l m _;unfold iu Vc.drop at ih ⊢;simp only[List.filter_cons]
    split
    · exact .cons h ih
    · exact ih
theorem ei.holds{w0 w:World}{ρ:Names}{h:AH}(hr:bQ w0 w ρ h){l:dA}{m:dx}(hp:ei ρ l m)(hk:gm h l=true):∀ p∈m,holds p.2 w:=by
  induction hp with
  | nil=>intro p hp; cases hp
  | cons h' _ ih =>
    simp only[gm] at hk;obtain⟨h1,h2⟩:=bZ hk;intro p hp;rcases List.mem_cons.1 hp with rfl | hp
    · exact h'.holds hr h1
    · exact ih h2 p hp
theorem om:∀ {T:List (World->Prop)} {w:World} {R:Prop},holds T w->R->sH T w R
  | [],_,_,_,h=>h
  | f :: _,_,_,hT,h=>⟨hT f (List.mem_cons_self ..),om (λ g hg=>hT g (List.mem_cons_of_mem _ hg)) h⟩
theorem jT:∀ {ps:dx} {w:World} {R:Prop},(∀ p∈ps,holds p.2 w)->R->jh ps w R
  | [],_,_,_,h=>h
  | p :: _,_,_,hp,h=>om (hp p (List.mem_cons_self ..)) (jT (λ q hq=>hp q (List.mem_cons_of_mem _ hq)) h)
theorem jS:∀ {l:List Prop},(∀ p∈l,p)->ql l
  | [],_=>trivial
  | [p],h=>h p (List.mem_cons_self ..)
  | p :: _ :: _,h=>⟨h p (List.mem_cons_self ..),jS λ r hr=>h r (List.mem_cons_of_mem _ hr)⟩
def sN:GS->GS->Bool
  | .ok e _ h _,.ok e' _ h' _=>cond (Tr.beq ek e e') (Tr.beq qn h h') false
  | _,_=>false
def e9(s:GS):List GS->Bool
  | []=>true
  | x :: l=>cond (sN s x) (e9 s l) false
def iE(P:Program)(call ext:aB)(N:Nat)(ops:Array Oper)(listed:Array Bool)(pend:dA)(e:Tr AV)(h:AH)(nm n:Nat)(multi:Bool)(i:Nat)(next:Array Bool->dA->Tr AV->AH->Nat->GS):GS:=match ops[i]? with
  | none=>.no
  | some o=>match dU ops e o with
    | some true=>match nh P call ext o e h nm with
      | some (a,[],h',n')=>cond (gm h' (iu ops i pend)) (match gJ N e o.dst a with
        | some e'=>next (listed.setIfInBounds i true) (iu ops i pend) e' h' (cond multi n n')
        | none=>.no) .no
      | _=>.no
    | some false=>match gJ N e o.dst (.tup []) with
      | some e'=>next (listed.setIfInBounds i true) (iu ops i pend) e' h n
      | none=>.no
    | none=>.no
def iI(c0 i:Nat):Nat:=Nat.add (Nat.mul (Nat.add (Nat.mul c0 256) (Nat.succ i)) 16777216) (Nat.mod c0 64)
def bH(P:Program)(call ext:aB)(N:Nat)(ops:Array Oper)(multi:Bool)(c0:Nat):Nat->Array Bool->dA->Tr AV->AH->Nat->GS
  | 0,listed,_,e,h,n=>cond (Region.ready .any ops listed).isEmpty (.ok e [] h n) .no
  | k+1,listed,pend,e,h,n=>match pick ops (Region.ready .any ops listed) with
    | some i=>match ops[i]? with
      | none=>.no
      | some o=>cond (Region.free .any ops listed i) (match dU ops e o with
        | some true=>match tX P o e h with
          | some (a,T)=>match gJ N e o.dst a with
            | some e'=>bH P call ext N ops multi c0 k (listed.setIfInBounds i true) ((i,T) :: pend) e' h n
            | none=>.no
          | none=>.no
        | some false=>match gJ N e o.dst (.tup []) with
          | some e'=>bH P call ext N ops multi c0 k (listed.setIfInBounds i true) pend e' h n
          | none=>.no
        | none=>.no) .no
    | none=>match Region.ready .any ops listed with
      | []=>.ok e [] h n
      | i :: is=>match iE P call ext N ops listed pend e h (cond multi (iI c0 i) n) n multi i (bH P call ext N ops multi c0 k) with
        | .no=>.no
        | s=>cond (e9 s (is.map λ j=>iE P call ext N ops listed pend e h (cond multi (iI c0 j) n) n multi j (bH P call ext N ops multi c0 k))) s .no
theorem cR{P:Program}{ops:Array Oper}{K K' : Tm->World->Prop}(hk:∀ t w,K t w->K' t w):∀ (n:Nat) (listed:Array Bool) (pend:dx) (t:Tm) (w:World),bT P ops n listed pend t w K->bT P ops n listed pend t w K'
  | 0,listed,pend,t,w,h=>by
    simp only[bT] at h ⊢;obtain⟨h1,h2⟩:=bY h;rw[h1]; exact hk _ _ h2
  | n+1,listed,pend,t,w,h=>by
    have gdm:∀ {o:Oper} {A A' B B' : Tm->Prop},(∀ t,A t->A' t)->(∀ t,B t->B' t)->gd ops t o A B->gd ops t o A' B':=λ {o A A' B B'} hA hB h=>by
      unfold gd at h ⊢
      split
      · rename_i hq; simp only[hq] at h; exact hA _ h
      · rename_i j pol hq;simp only[hq] at h
        split
        · rename_i hq2; simp only[hq2] at h; exact hB _ h
        · rename_i d hq2;simp only[hq2] at h
          split
          · rename_i b hq3;simp only[hq3] at h
            cases pol<;>cases b<;>simp only[cond] at h ⊢ <;> first | exact hA _ h | exact hB _ h
          · rename_i hq3
            split at h
            · rename_i b hq4; exact absurd hq4 (hq3 b)
            · exact hB _ h
    unfold bT at h ⊢
    split at h
    · rename_i i hi
      try simp only[hi]
      split at h
      · exact h.elim
      · rename_i o ho;obtain⟨h1,h2⟩:=bY h
        try simp only[ho]
        try simp only[h1,cond_true]
        exact gdm (λ t ⟨v,T,a,b,c⟩=>⟨v,T,cR hk n _ _ _ _ a,b,c⟩) (λ t h=>cR hk n _ _ _ _ h) h2
    · rename_i hi
      try simp only[hi]
      split at h
      · rename_i hr; try simp only[hr]
        exact hk _ _ h
      · rename_i i is hr
        try simp only[hr]
        refine jS λ p hp=>?_;obtain⟨j,hj,rfl⟩:=List.mem_map.1 hp;have:=eN h _ (List.mem_map.2 ⟨j,hj,rfl⟩)
        split at this
        · exact this.elim
        · rename_i o ho
          try simp only[ho]
          refine gdm (λ t ⟨nx,w',hr,hn⟩=>⟨nx,w',hr,?_⟩) (λ t h=>cR hk n _ _ _ _ h) this;have key:∀ (v:Value) (nd:List Deferred) (w' : World),(nd=[]/\jh (Vc.drop ops j pend) w' (bT P ops n (listed.setIfInBounds j true) (Vc.drop ops j pend) (pt t o.dst v) w' K))->(nd=[]/\jh (Vc.drop ops j pend) w' (bT P ops n (listed.setIfInBounds j true) (Vc.drop ops j pend) (pt t o.dst v) w' K')):=λ v nd w' ⟨a,b⟩=>by
            obtain⟨b1,b2⟩:=eO b;exact⟨a,jT b1 (cR hk n _ _ _ _ b2)⟩
          cases nx<;>simp only[mg] at hn ⊢
          · exact⟨trivial,(key _ [] _ ⟨rfl,hn.2⟩).2⟩
          · exact⟨trivial,(key _ [] _ ⟨rfl,hn.2⟩).2⟩
          · exact Calls.mono hn λ e w'' ⟨v,h1,h2⟩=>⟨v,h1,trivial,(key _ [] _ ⟨rfl,h2.2⟩).2⟩
          · exact RoundIn.mono hn λ e w'' ⟨v,h1,h2⟩=>⟨v,h1,trivial,(key _ [] _ ⟨rfl,h2.2⟩).2⟩
          · first | exact key _ _ _ hn | exact hn.elim | (cases hn.1)
theorem gD{s:GS}:∀ {l:List GS},e9 s l=true->∀ x∈l,sN s x=true
  | [],_,x,hx=>by cases hx
  | a :: l,h,x,hx=>by
    simp only[e9] at h;obtain⟨h1,h2⟩:=bZ h;rcases List.mem_cons.1 hx with rfl | hx
    · exact h1
    · exact gD h2 x hx
def Ends(w0:World)(N:Nat)(ρ:Names)(e:Tr AV)(h:AH)(t:Tm)(w:World):Prop:=∃ ρ',Ext ρ ρ'/\bQ w0 w ρ' h/\bE ρ' e t/\t.length=N
theorem ew{P:Program}{w0:World}{call ext:aB}(hcall:cA P w0 call)(hext:hU P w0 ext){N:Nat}{ops:Array Oper}{multi:Bool}{c0:Nat}:∀ (k:Nat) {listed:Array Bool} {pa:dA} {e e' : Tr AV} {d' : List AD} {h h' : AH} {n n' : Nat},
    bH P call ext N ops multi c0 k listed pa e h n=.ok e' d' h' n'->∀ {ρ:Names} {t:Tm} {w:World} {pend:dx},bQ w0 w ρ h->bE ρ e t->t.length=N->ei ρ pa pend ->
    d' = []/\bT P ops k listed pend t w (λ t w=>Ends w0 N ρ e' h' t w)
  | 0,listed,pa,e,e',d',h,h',n,n',hg,ρ,t,w,pend,hr,he,hN,hp=>by
    simp only[bH] at hg
    cases hb:(Region.ready .any ops listed).isEmpty with
    | false=>rw[hb] at hg; cases hg
    | true =>
      rw[hb] at hg
      cases hg
      refine⟨rfl,?_⟩;simp only[bT,hb,cond_true];exact⟨ρ,Ext.refl _,hr,he,hN⟩
  | k+1,listed,pa,e,e',d',h,h',n,n',hg,ρ,t,w,pend,hr,he,hN,hp=>by
    have way:∀ {i:Nat} {nm:Nat} {s:GS} {e1:Tr AV} {d1:List AD} {h1:AH} {n1:Nat},iE P call ext N ops listed pa e h nm n multi i (bH P call ext N ops multi c0 k)=s->s=.ok e1 d1 h1 n1 ->
        d1=[]/\(match ops[i]? with
          | none=>False
          | some o=>gd ops t o
            (λ t=>qh P o t w λ v nd w'=>nd=[]/\jh (Vc.drop ops i pend) w' (bT P ops k (listed.setIfInBounds i true) (Vc.drop ops i pend) (pt t o.dst v) w' (λ t w=>Ends w0 N ρ e1 h1 t w))) (λ t=>bT P ops k (listed.setIfInBounds i true) (Vc.drop ops i pend) (pt t o.dst undef) w (λ t w=>Ends w0 N ρ e1 h1 t w))):=by
      intro i nm s e1 d1 h1 n1 hs hs';subst hs';unfold iE at hs
      split at hs
      · cases hs
      · rename_i o ho
        try simp only
        split at hs
        · rename_i hgd
          split at hs
          · rename_i a h2 n2 hop
            cases hkp:gm h2 (iu ops i pa) with
            | false=>rw[hkp] at hs; cases hs
            | true =>
              rw[hkp] at hs;simp only[cond_true] at hs
              split at hs
              · rename_i e2 hput;have hd1:d1=[]:=by
                  obtain⟨v0,hv0⟩:∃ x:Nat,x=x:=⟨0,rfl⟩;have aux:∀ (k:Nat) {listed:Array Bool} {pa:dA} {e e' : Tr AV} {d' : List AD} {h h' : AH} {n n' : Nat},bH P call ext N ops multi c0 k listed pa e h n=.ok e' d' h' n'->d' = []:=by
                    intro k
                    induction k with
                    | zero =>
                      intro listed pa e e' d' h h' n n' hg;simp only[bH] at hg
                      cases hb:(Region.ready .any ops listed).isEmpty with
                      | false=>rw[hb] at hg; cases hg
                      | true=>rw[hb] at hg; cases hg; rfl
                    | succ k ih =>
                      intro listed pa e e' d' h h' n n' hg;have hw:∀ {i nm:Nat} {e1:Tr AV} {d1:List AD} {h1:AH} {n1:Nat},iE P call ext N ops listed pa e h nm n multi i (bH P call ext N ops multi c0 k)=.ok e1 d1 h1 n1->d1=[]:=by
                        intro i nm e1 d1 h1 n1 hs;unfold iE at hs
                        split at hs
                        · cases hs
                        · split at hs
                          · split at hs
                            · rename_i a h2 n2 _
                              cases hkp:gm h2 (iu ops i pa) with
                              | false=>rw[hkp] at hs; cases hs
                              | true =>
                                rw[hkp] at hs;simp only[cond_true] at hs
                                split at hs
                                · exact ih hs
                                · cases hs
                            · cases hs
                          · split at hs
                            · exact ih hs
                            · cases hs
                          · cases hs
                      simp only[bH] at hg
                      split at hg
                      · rename_i i hi
                        split at hg
                        · cases hg
                        · rename_i o ho
                          cases hf:Region.free .any ops listed i with
                          | false=>rw[hf] at hg; cases hg
                          | true =>
                            rw[hf] at hg;simp only[cond_true] at hg
                            split at hg
                            · split at hg
                              · split at hg
                                · exact ih hg
                                · cases hg
                              · cases hg
                            · split at hg
                              · exact ih hg
                              · cases hg
                            · cases hg
                      · split at hg
                        · cases hg; rfl
                        · rename_i i is _
                          split at hg
                          · cases hg
                          · rename_i s hne hs
                            cases hsm:e9 (iE P call ext N ops listed pa e h (cond multi (iI c0 i) n) n multi i (bH P call ext N ops multi c0 k)) (is.map λ j=>iE P call ext N ops listed pa e h (cond multi (iI c0 j) n) n multi j (bH P call ext N ops multi c0 k)) with
                            | false=>rw[hsm] at hg; cases hg
                            | true=>rw[hsm] at hg; exact hw hg
                  exact aux k hs
                refine⟨hd1,cL hgd he (λ _=>?_) (λ h=>by cases h)⟩;refine qK hcall hext hop hr he λ ρ' v nd w' hx hr' hv hnd=>?_
                cases hnd
                obtain⟨g1,g2⟩:=eP hput hN (he.mono hx) hv;have hp':=(hp.mono hx).drop ops i;obtain⟨_,hk2⟩:=ew hcall hext k hs (ρ:=ρ') hr' g1 g2 hp';exact⟨rfl,jT (hp'.holds hr' hkp) (cR (λ t w ⟨ρ2,a,b⟩=>⟨ρ2,hx.trans a,b⟩) _ _ _ _ _ hk2)⟩
              · cases hs
          · cases hs
        · rename_i hgd
          split at hs
          · rename_i e2 hput;obtain⟨g1,g2⟩:=eP hput hN he (v:=undef) rfl;obtain⟨hd1,hk2⟩:=ew hcall hext k hs (ρ:=ρ) hr g1 g2 (hp.drop ops i);exact⟨hd1,cL hgd he (λ h=>by cases h) (λ _=>hk2)⟩
          · cases hs
        · cases hs
    simp only[bH] at hg;unfold bT
    split at hg
    · rename_i i hi
      try simp only[hi]
      split at hg
      · cases hg
      · rename_i o ho
        try simp only[ho]
        cases hf:Region.free .any ops listed i with
        | false=>rw[hf] at hg; cases hg
        | true =>
          rw[hf] at hg;simp only[cond_true] at hg ⊢
          split at hg
          · rename_i hgd
            split at hg
            · rename_i a T hrd
              split at hg
              · rename_i e2 hput;obtain⟨v,g1,g2,g3⟩:=qM hrd hr he;obtain⟨a1,a2⟩:=eP hput hN he g1;have hdr:gY ρ T (T.map (dR ρ)):=⟨ρ,Ext.refl _,rfl,λ d hd=>by
                  obtain⟨L,vs,b1,b2,_⟩:=g2 _ (List.mem_map.2 ⟨d,hd,rfl⟩);exact⟨L,vs,b1,b2⟩⟩
                obtain⟨hd1,hk2⟩:=ew hcall hext k hg (ρ:=ρ) hr a1 a2 (.cons hdr hp);exact⟨hd1,cL hgd he (λ _=>⟨v,_,hk2,g2,g3⟩) (λ h=>by cases h)⟩
              · cases hg
            · cases hg
          · rename_i hgd
            split at hg
            · rename_i e2 hput;obtain⟨a1,a2⟩:=eP hput hN he (v:=undef) rfl;obtain⟨hd1,hk2⟩:=ew hcall hext k hg (ρ:=ρ) hr a1 a2 hp;exact⟨hd1,cL hgd he (λ h=>by cases h) (λ _=>hk2)⟩
            · cases hg
          · cases hg
    · rename_i hi
      try simp only[hi]
      split at hg
      · rename_i hrd
        cases hg
        try simp only[hrd]
        exact⟨trivial,ρ,Ext.refl _,hr,he,hN⟩
      · rename_i i is hrd
        try simp only[hrd]
        split at hg
        · cases hg
        · rename_i hne
          cases hsm:e9 (iE P call ext N ops listed pa e h (cond multi (iI c0 i) n) n multi i (bH P call ext N ops multi c0 k)) (is.map λ j=>iE P call ext N ops listed pa e h (cond multi (iI c0 j) n) n multi j (bH P call ext N ops multi c0 k)) with
          | false=>rw[hsm] at hg; cases hg
          | true =>
            rw[hsm] at hg;simp only[cond_true] at hg;obtain⟨hd1,hw1⟩:=way rfl hg;refine⟨hd1,jS λ p hp'=>?_⟩;obtain⟨j,hj,rfl⟩:=List.mem_map.1 hp';rcases List.mem_cons.1 hj with rfl | hj
            · exact hw1
            · have hb:=gD hsm _ (List.mem_map.2 ⟨j,hj,rfl⟩);rw[hg] at hb;generalize hgj:iE P call ext N ops listed pa e h (cond multi (iI c0 j) n) n multi j (bH P call ext N ops multi c0 k)=sj at hb
              cases sj with
              | no=>simp[sN] at hb
              | ok ej dj hj' nj =>
                simp only[sN] at hb;obtain⟨b1,b2⟩:=bZ hb;have e1:=Tr.beq_eq (λ h=>jU h) b1;have e2:=Tr.beq_eq (λ h=>sM h) b2;subst e1 e2;exact(way hgj rfl).2
inductive GE where
  | normal
  | exit (i:Nat)
  | ret
  | goto (l:Nat)
def GE.ex:GE->Exit
  | .normal=>.normal
  | .exit i=>.exit i
  | .ret=>.ret
  | .goto l=>.goto l
inductive GR where
  | no
  | ok (x:GE) (e:Tr AV) (d:List AD) (h:AH) (n:Nat)
def GS.uR:GS->GR
  | .no=>.no
  | .ok e d h n=>.ok .normal e d h n
def GS.zI(d0:List AD)(m:Bool):GS->GR
  | .no=>.no
  | .ok e _ h n=>.ok .normal e d0 h (cond m (Nat.succ n) n)
def gh(run:Code->Tr AV->List AD->AH->Nat->GR)(c:Code):Nat->Code->Tr AV->List AD->AH->Nat->GR
  | 0,_,_,_,_,_=>.no
  | k+1,cur,e,d,h,n=>match run cur e d h n with
    | .ok (.goto l) e d h n=>match findLabel c l with
      | some rest=>gh run c k rest e d h n
      | none=>.no
    | r=>r
def gy(run:Tr AV->List AD->AH->Nat->GR):Nat->Tr AV->List AD->AH->Nat->GR
  | 0,_,_,_,_=>.no
  | k+1,e,d,h,n=>match run e d h n with
    | .ok .normal e d h n=>gy run k e d h n
    | r=>r
def fy(ops:Array Oper):Bool :=
  let ws:=(List.range ops.size).filter λ i=>match ops[i]? with
    | some o=>!wv o.op
    | none=>false
  ws.any λ i=>ws.any λ j=>Nat.ble (Nat.succ i) j&&!dep ops ops.size j i&&!dep ops ops.size i j
def iB(P:Program)(call ext:aB)(N:Nat):Nat->Code->Tr AV->List AD->AH->Nat->GR
  | 0,_,_,_,_,_=>.no
  | f+1,c,e,d,h,n=>match c with
    | .skip=>.ok .normal e d h n
    | .label _=>.ok .normal e d h n
    | .region _ ops draw=>match draw with
      | false=>(fh P call ext N ops ops.toList e d h n).uR
      | true=>cond (and (P.follows .mixedOrders) (and (Region.noSelect ops) (bh ops.toList)))
        ((bH P call ext N ops (fy ops) n ops.size (Array.replicate ops.size false) [] e h n).zI d (fy ops)) .no
    | .seq a b=>match iB P call ext N f a e d h n with
      | .ok .normal e d h n=>iB P call ext N f b e d h n
      | r=>r
    | .cond c a b=>match bJ e c with
      | some (.bool x)=>cond x (iB P call ext N f a e d h n) (iB P call ext N f b e d h n)
      | _=>.no
    | .block id c=>match iB P call ext N f c e d h n with
      | .ok (.exit i) e d h n=>cond (Nat.beq i id) (.ok .normal e d h n) (.ok (.exit i) e d h n)
      | r=>r
    | .loop c=>gy (iB P call ext N f c) f e d h n
    | .exit i=>.ok (.exit i) e d h n
    | .ret=>.ok .ret e d h n
    | .goto l=>.ok (.goto l) e d h n
    | .scope c=>gh (iB P call ext N f) c f c e d h n
    | _=>.no
def Out(w0:World)(N:Nat)(ρ:Names)(x:GE)(e:Tr AV)(d:List AD)(h:AH)(ex:Exit)(a:Act)(w:World):Prop :=
  x.ex=ex/\∃ t dd,a=bO t dd/\jq w0 N ρ e d h t dd w
theorem Out.mk{w0:World}{N:Nat}{ρ:Names}{x:GE}{e:Tr AV}{d:List AD}{h:AH}{t:Tm}{dd:List Deferred}{w:World}(k:fV w0 N ρ e d h t dd w):Out w0 N ρ x e d h x.ex (bO t dd) w :=
  ⟨rfl,t,dd,rfl,ρ,Ext.refl _,k⟩
theorem Out.trans{w0:World}{N:Nat}{ρ σ:Names}{x:GE}{e:Tr AV}{d:List AD}{h:AH}{ex:Exit}{a:Act}{w:World}(hx:Ext ρ σ)(k:Out w0 N σ x e d h ex a w):Out w0 N ρ x e d h ex a w:=by
  obtain⟨h1,t,dd,h2,h3⟩:=k;exact⟨h1,t,dd,h2,h3.trans hx⟩
theorem yw{P:Program}{c:Code}{Q:Exit->Act->World->Prop}{a:Act}{w:World}:c.wpIn (FW none) 0 P Q a w<->c.wp P Q a w:=wpIn_wide
theorem eg{P:Program}{c:Code}{Q:Exit->Act->World->Prop}{a:Act}{w:World}(h:∀ (b:Frame) (k:List Item) (cs:List Frame),∃ e a' w',Q e a' w'/\Arrives P (lone (b.at a (.code c :: .inScope c :: k)) cs w) b k cs e a' w'):(Code.scope c).wp P Q a w:=λ b k cs=>by
  obtain⟨e,a',w',hq,harr⟩:=h b k cs;exact⟨e,a',w',hq,.of_steps (.one step_scope) harr⟩
def bR(P:Program)(c cur:Code)(Q:Exit->Act->World->Prop)(a:Act)(w:World):Prop :=
  ∀ (b:Frame) (k:List Item) (cs:List Frame),∃ e a' w',Q e a' w'/\Arrives P (lone (b.at a (.code cur :: .inScope c :: k)) cs w) b k cs e a' w'
theorem fB{P:Program}{c cur:Code}{Q:Exit->Act->World->Prop}{a:Act}{w:World}(h:cur.wp P (λ e a' w'=>(∀ l,e=.goto l->∃ rest,findLabel c l=some rest/\bR P c rest Q a' w')/\((∀ l,e≠.goto l)->Q e a' w')) a w):bR P c cur Q a w:=by
  intro b k cs;obtain⟨e,a₁,w₁,hq,harr⟩:=h b (.inScope c :: k) cs
  cases e with
  | normal=>exact⟨.normal,a₁,w₁,hq.2 (by simp),Steps.trans harr (.one step_inScope)⟩
  | exit id=>exact⟨.exit id,a₁,w₁,hq.2 (by simp),λ k' hk=>harr k' (by simp[exitTo,hk])⟩
  | goto l =>
    obtain⟨rest,hf,hs⟩:=hq.1 l rfl;have hg:gotoIn l (.inScope c :: k)=some (.code rest :: .inScope c :: k):=by simp[gotoIn,hf]
    obtain⟨e₂,a₂,w₂,hq₂,harr₂⟩:=hs b k cs;exact⟨e₂,a₂,w₂,hq₂,.of_steps (harr _ hg) harr₂⟩
  | ret=>exact⟨_,a₁,w₁,hq.2 (by simp),harr⟩
  | panic ch=>exact⟨_,a₁,w₁,hq.2 (by simp),harr⟩
  | outgrown=>exact⟨_,a₁,w₁,hq.2 (by simp),harr⟩
theorem sF{a b:Bool}(h:and a b=true):a=true/\b=true:=by cases a<;>simp_all
def cm(P:Program)(w0:World)(N:Nat)(f:Tr AV->List AD->AH->Nat->GR)(c:Code):Prop:=∀ {e e' : Tr AV} {d d' : List AD} {h h' : AH} {n n' : Nat} {x:GE},
    f e d h n=.ok x e' d' h' n'->∀ {ρ:Names} {t:Tm} {dd:List Deferred} {w:World},fV w0 N ρ e d h t dd w->c.wpIn (FW none) 0 P (Out w0 N ρ x e' d' h') (bO t dd) w
theorem qb{P:Program}{w0:World}{call ext:aB}(hcall:cA P w0 call)(hext:hU P w0 ext){N id:Nat}{ops:Array Oper} :
    cm P w0 N (λ e d h n=>(fh P call ext N ops ops.toList e d h n).uR) (.region id ops false):=by
  intro e e' d d' h h' n n' x hg ρ t dd w hs;simp only at hg;generalize hr:fh P call ext N ops ops.toList e d h n=r at hg
  cases r with
  | no=>cases hg
  | ok e1 d1 h1 n1 =>
    cases hg
    refine wpIn_region_list (gV (ro:=none) ops.toList t dd w _ (.inl rfl) ?_ (fL hcall hext hr hs));exact λ t d w k=>⟨rfl,t,d,rfl,k⟩
theorem tv{P:Program}{w0:World}{call ext:aB}(hcall:cA P w0 call)(hext:hU P w0 ext){N id:Nat}{ops:Array Oper} :
    cm P w0 N (λ e d h n=>cond (and (P.follows .mixedOrders) (and (Region.noSelect ops) (bh ops.toList))) ((bH P call ext N ops (fy ops) n ops.size (Array.replicate ops.size false) [] e h n).zI d (fy ops)) .no) (.region id ops true):=by
  intro e e' d d' h h' n n' x hg ρ t dd w hs;simp only at hg;generalize hm:fy ops=m at hg
  cases hc:(and (P.follows .mixedOrders) (and (Region.noSelect ops) (bh ops.toList))) with
  | false=>rw[hc] at hg; cases hg
  | true =>
    rw[hc] at hg;simp only[cond_true] at hg;obtain⟨c1,c2⟩:=sF hc;obtain⟨c2,c3⟩:=sF c2;generalize hr:bH P call ext N ops m n ops.size (Array.replicate ops.size false) [] e h n=r at hg
    cases r with
    | no=>cases hg
    | ok e1 d1 h1 n1 =>
      cases hg
      have hnd:∀ (j:Nat) (o:Oper),ops[j]? = some o->bp o.op=true:=λ j o ho=>by
        have:=List.all_eq_true.1 c3 o (by simpa using Array.mem_of_getElem? ho);exact this
      obtain⟨_,hk⟩:=ew hcall hext _ hr (w:=w.drew) (hs.rep.quiet (an.drew w [])) hs.env hs.len .nil;refine wpIn_region_any c1 (fD _ _ [] _ _ ?_);refine fI (ro:=none) (dd:=dd) (K:=λ t w=>Ends w0 N ρ e' h' t w) hnd c2 (λ c a w h=>by cases h.1) ?_ _ _ [] t _ ?_ (λ p hp=>by cases hp) hk
      · rintro t w ⟨ρ',k1,k2,k3,k4⟩;exact⟨rfl,t,dd,rfl,ρ',k1,k2,k3,k4,fJ k1 hs.dfs⟩
      · intro j o _ hj;rcases Nat.lt_or_ge j ops.size with h | h<;>simp[h] at hj
theorem wQ{P:Program}{w0:World}{N:Nat}{fa fb:Tr AV->List AD->AH->Nat->GR}{a b:Code}(ha:cm P w0 N fa a)(hb:cm P w0 N fb b) :
    cm P w0 N (λ e d h n=>match fa e d h n with
      | .ok .normal e d h n=>fb e d h n
      | r=>r) (.seq a b):=by
  intro e e' d d' h h' n n' x hg ρ t dd w hs;refine wpIn_seq ?_;simp only at hg
  split at hg
  · rename_i e1 d1 h1 n1 hfa;refine wpIn_mono (ha hfa hs) λ ex a' w' ⟨k1,t',dd',k2,ρ',k3,k4⟩=>?_;subst k1 k2;exact wpIn_mono (hb hg k4) λ ex a' w' k=>k.trans k3
  · rename_i hne;refine wpIn_mono (ha hg hs) λ ex a' w' k=>?_;obtain⟨k1,k2⟩:=k
    cases x with
    | normal=>exact absurd hg (hne _ _ _ _)
    | _=>subst k1; exact⟨rfl,k2⟩
theorem tn{P:Program}{w0:World}{N:Nat}{fa fb:Tr AV->List AD->AH->Nat->GR}{c:Operand}{a b:Code}(ha:cm P w0 N fa a)(hb:cm P w0 N fb b) :
    cm P w0 N (λ e d h n=>match bJ e c with
      | some (.bool x)=>cond x (fa e d h n) (fb e d h n)
      | _=>.no) (.cond c a b):=by
  intro e e' d d' h h' n n' x hg ρ t dd w hs;simp only at hg
  split at hg
  · rename_i x hx;have hv:ev t c=.bool x:=bL (aA hs.env hx);refine wpIn_cond (t:=x) (by rw[bU]; exact hv) ?_
    cases x with
    | true=>exact ha hg hs
    | false=>exact hb hg hs
  · cases hg
theorem qo{P:Program}{w0:World}{N id:Nat}{fc:Tr AV->List AD->AH->Nat->GR}{c:Code}(hc:cm P w0 N fc c) :
    cm P w0 N (λ e d h n=>match fc e d h n with
      | .ok (.exit i) e d h n=>cond (Nat.beq i id) (.ok .normal e d h n) (.ok (.exit i) e d h n)
      | r=>r) (.block id c):=by
  intro e e' d d' h h' n n' x hg ρ t dd w hs;refine wpIn_block ?_;simp only at hg
  split at hg
  · rename_i i e1 d1 h1 n1 hfc;refine wpIn_mono (hc hfc hs) λ ex a' w' ⟨k1,k2⟩=>?_;subst k1;show Exit.inBlock id _ (.exit i) a' w';simp only[Exit.inBlock]
    cases hb:Nat.beq i id with
    | true =>
      rw[hb] at hg
      cases hg
      rw[if_pos (Nat.eq_of_beq_eq_true hb)];exact⟨rfl,k2⟩
    | false =>
      rw[hb] at hg
      cases hg
      rw[if_neg (λ e=>by rw[e,Nat.beq_refl] at hb; cases hb)];exact⟨rfl,k2⟩
  · rename_i hne;refine wpIn_mono (hc hg hs) λ ex a' w' ⟨k1,k2⟩=>?_
    cases x with
    | exit i=>exact absurd hg (hne _ _ _ _ _)
    | _=>subst k1; exact⟨rfl,k2⟩
theorem uv{P:Program}{w0:World}{N f:Nat}{fc:Tr AV->List AD->AH->Nat->GR}{c:Code}(hc:cm P w0 N fc c):cm P w0 N (gy fc f) (.loop c):=by
  intro e e' d d' h h' n n' x hg ρ t dd w hs;refine wpIn_loop_rounds f ?_;have key:∀ (k:Nat) {e:Tr AV} {d:List AD} {h:AH} {n:Nat} {ρ:Names} {t:Tm} {dd:List Deferred} {w:World},gy fc k e d h n=.ok x e' d' h' n' ->
      fV w0 N ρ e d h t dd w->∀ {Q:Exit->Act->World->Prop},(∀ ex a w,Out w0 N ρ x e' d' h' ex a w->Q ex a w)->Code.roundsIn (FW none) 0 P c Q k (bO t dd) w:=by
    intro k
    induction k with
    | zero=>intro e d h n ρ t dd w hg; cases hg
    | succ k ih =>
      intro e d h n ρ t dd w hg hs Q hQ;simp only[gy] at hg
      split at hg
      · rename_i e1 d1 h1 n1 hfc;refine wpIn_mono (hc hfc hs) λ ex a' w' ⟨k1,t',dd',k2,ρ',k3,k4⟩=>?_;subst k1 k2;exact ih hg k4 λ ex a w k=>hQ _ _ _ (k.trans k3)
      · rename_i hne;refine wpIn_mono (hc hg hs) λ ex a' w' ⟨k1,k2⟩=>?_
        cases x with
        | normal=>exact absurd hg (hne _ _ _ _)
        | _=>subst k1; exact hQ _ _ _ ⟨rfl,k2⟩
  exact key f hg hs λ _ _ _ k=>k
theorem rW{P:Program}{w0:World}{N k:Nat}{run:Code->Tr AV->List AD->AH->Nat->GR}(hrun:∀ c,cm P w0 N (run c) c)(c:Code):cm P w0 N (gh run c k c) (.scope c):=by
  intro e e' d d' h h' n n' x hg ρ t dd w hs;refine yw.2 (eg ?_);have key:∀ (k:Nat) (cur:Code) {e:Tr AV} {d:List AD} {h:AH} {n:Nat} {ρ:Names} {t:Tm} {dd:List Deferred} {w:World},gh run c k cur e d h n=.ok x e' d' h' n' ->
      fV w0 N ρ e d h t dd w->bR P c cur (Out w0 N ρ x e' d' h') (bO t dd) w:=by
    intro k
    induction k with
    | zero=>intro cur e d h n ρ t dd w hg; cases hg
    | succ k ih =>
      intro cur e d h n ρ t dd w hg hs;simp only[gh] at hg;refine fB (yw.1 ?_)
      split at hg
      · rename_i l e1 d1 h1 n1 hc;refine wpIn_mono (hrun cur hc hs) λ ex a' w' ⟨k1,t',dd',k2,ρ',k3,k4⟩=>?_;subst k1 k2
        split at hg
        · rename_i rest hf;refine⟨λ l' hl=>?_,λ hn=>absurd rfl (hn l)⟩
          cases hl
          refine⟨rest,hf,λ b k cs=>?_⟩;obtain⟨e2,a2,w2,g1,g2⟩:=ih rest hg k4 b k cs;exact⟨e2,a2,w2,g1.trans k3,g2⟩
        · cases hg
      · rename_i hne;refine wpIn_mono (hrun cur hg hs) λ ex a' w' ⟨k1,k2⟩=>?_;subst k1;refine⟨λ l hl=>?_,λ _=>⟨rfl,k2⟩⟩
        cases x with
        | goto l'=>exact absurd hg (hne _ _ _ _ _)
        | _=>cases hl
  exact key k c hg hs
def jj(P:Program)(e:Tr AV)(h:AH):List ResultVar->Option (List AV)
  | []=>some []
  | .tmp s :: rs=>match e.get s,jj P e h rs with
    | some a,some l=>some (a :: l)
    | _,_=>none
  | .cell a ty :: rs=>match e.get a with
    | some p=>match wg P ty p h,jj P e h rs with
      | some (v,_),some l=>some (v :: l)
      | _,_=>none
    | none=>none
def ud:List AV->AV
  | [a]=>a
  | l=>.tup l
theorem kg{P:Program}{e:Tr AV}{h:AH}{w0 w:World}{ρ:Names}(hr:bQ w0 w ρ h){t:Tm}(he:bE ρ e t):∀ {rs:List ResultVar} {l:List AV},jj P e h rs=some l ->
    ∃ vs,bz ρ l=some vs/\(rs.mapM (jn t)).run P w=.ok vs w
  | [],l,hg=>by cases hg; exact⟨[],rfl,by simp⟩
  | .tmp s :: rs,l,hg=>by
    simp only[jj] at hg
    split at hg
    · rename_i a l' h1 h2
      cases hg
      obtain⟨vs,h3,h4⟩:=kg hr he h2;exact⟨_,bN (he s a h1) h3,by simp only[List.mapM_cons,jn,Sem.run_bind,Sem.run_pure,Result.andThen_ok,h4,iD]⟩
    · cases hg
  | .cell a ty :: rs,l,hg=>by
    simp only[jj] at hg
    split at hg
    · rename_i p hp
      split at hg
      · rename_i v ds l' h1 h2
        cases hg
        obtain⟨vs,h3,h4⟩:=kg hr he h2;have hpv:=he a p hp;obtain⟨u,k1,k2,k3⟩:=qJ h1 hr hpv;refine⟨_,bN k1 h3,?_⟩;have h6:=k3 w k2;have h5:(jn t (.cell a ty)).run P w=.ok u w:=by
          show(Sem.bind (asAddr (t.toArray.getD a undef)) λ p=>loadVar ty p).run P w=.ok u w;rw[Sem.run_bind',<- iD];generalize gt t a=x at h6 ⊢
          cases x with
          | pointer p=>cases p with
            | none=>simp[Instr.loadAt,Instr.sureAddr] at h6
            | some p=>simpa[Instr.loadAt,Instr.sureAddr,asAddr] using h6
          | _=>simp[Instr.loadAt,Instr.sureAddr] at h6
        rw[List.mapM_cons,Sem.run_bind,h5];simp only[Result.andThen_ok,Sem.run_bind,h4,Sem.run_pure]
      · cases hg
    · cases hg
theorem di{P:Program}{fn:Func}{e:Tr AV}{h:AH}{w0 w:World}{ρ:Names}(hr:bQ w0 w ρ h){t:Tm}(he:bE ρ e t){l:List AV}(hg:jj P e h fn.results.toList=some l) :
    ∃ v,rv ρ (ud l)=some v/\(results fn t.toArray).run P w=.ok v w:=by
  obtain⟨vs,h1,h2⟩:=kg hr he hg;have h3:results fn t.toArray=(do
      let vs <- fn.results.mapM (jn t)
      pure (if h:vs.size=1 then vs[0] else .tuple vs)):=by
    unfold results;have:(λ r=>match r with
        | .tmp i=>(pure (t.toArray.getD i undef):Sem Value)
        | .cell a i=>do loadVar i (<- asAddr (t.toArray.getD a undef)))=jn t:=by
      funext x; cases x<;>rfl
    rw[<- this];rfl
  have h4:(results fn t.toArray).run P w=.ok (if h:vs.toArray.size=1 then vs.toArray[0] else .tuple vs.toArray) w:=by
    rw[h3,Array.mapM_eq_mapM_toList];simp only[Sem.run_map,bind_pure_comp,h2,Result.andThen_ok]
  refine⟨_,?_,h4⟩
  match l,vs,h1 with
  | [],[],_=>rfl
  | [a],[v],h1 =>
    obtain⟨v',us,e,k1,k2⟩:=aq h1
    cases e
    exact k1
  | [],v :: vs,h1=>simp[bz] at h1
  | a :: l,[],h1=>obtain⟨_,_,e,_⟩:=aq h1; cases e
  | [a],v :: u :: vs,h1 =>
    obtain⟨v',us,e,k1,k2⟩:=aq h1;simp[bz] at k2;subst k2; cases e
  | a :: b :: l,[v],h1 =>
    obtain⟨v',us,e,k1,k2⟩:=aq h1
    cases e
    obtain⟨_,_,e,_⟩:=aq k2
    cases e
  | a :: b :: l,v :: u :: vs,h1 =>
    have : ¬ (v :: u :: vs).toArray.size=1:=by simp
    rw[dif_neg this];simp only[ud,rv,h1,Option.map_some]
def yy:List AV->Nat->Tr AV->Tr AV
  | [],_,e=>e
  | a :: l,i,e=>yy l (Nat.succ i) (e.put i a)
theorem qH{ρ:Names}{T:Tm}:∀ {l:List AV} {vs us:List Value} {i:Nat} {e:Tr AV},bz ρ l=some vs->T=us++vs++T.drop (i+l.length)->us.length=i->bE ρ e T->bE ρ (yy l i e) T
  | [],_,_,_,_,_,_,_,he=>he
  | a :: l,vs,us,i,e,h,hT,hl,he=>by
    obtain⟨v,vs',rfl,h1,h2⟩:=aq h;have hlen:i+(a :: l).length=i+1+l.length:=by rw[List.length_cons]; omega
    rw[hlen] at hT;have hT' : T=(us++[v])++vs'++T.drop (i+1+l.length):=by rw[List.append_assoc us [v] vs',List.singleton_append]; exact hT
    show bE ρ (yy l (i+1) (e.put i a)) T;refine qH (l:=l) (us:=us++[v]) (i:=i+1) h2 hT' (by simp[hl]) λ j b hj=>?_;rw[aL] at hj
    split at hj
    · rename_i e1;subst e1
      cases hj
      have:gt T j=v:=by
        rw[iD,hT,<- hl]
        simp
      rw[this]; exact h1
    · exact he j b hj
theorem lJ(ρ:Names)(t:Tm)(n:Nat):bE ρ (Tr.full n) t:=λ i a h=>by rw[ey] at h; cases h
def jA:GE->Bool
  | .normal=>true
  | .ret=>true
  | _=>false
def oB(P:Program)(body:FuncId->List AV->AH->Nat->Option (Tr AV×Func×AH×Nat)):List AD->AH->Nat->Option (AH×Nat)
  | [],h,n=>some (h,n)
  | d :: ds,h,n=>cond (bx P d.f) (match body d.f (d.args++d.cap) h n with
    | some (e,fn,h',n')=>match jj P e h' fn.results.toList with
      | some _=>oB P body ds h' n'
      | none=>none
    | none=>none) none
def xF(n:Nat):Nat:=cond (Nat.ble n 12) 2 (cond (Nat.ble n 40) 4 6)
abbrev eo:=Nat->Code->Tr AV->List AD->AH->Nat->GR
def oz(P:Program)(cd:eo)(f:FuncId)(args:List AV)(h:AH)(n:Nat):Option (GE×Tr AV×List AD×Func×AH×Nat) :=
  match P.funcs[f]? with
  | some fn=>match fn.body with
    | some c=>cond (Nat.ble args.length fn.ntmps) (match cd fn.ntmps c (yy args 0 (Tr.full (xF fn.ntmps))) [] h n with
      | .ok x e d h n=>some (x,e,d,fn,h,n)
      | .no=>none) none
    | none=>none
  | none=>none
def nw(P:Program)(cd:eo)(f:FuncId)(args:List AV)(h:AH)(n:Nat):Option (Tr AV×Func×AH×Nat):=match oz P cd f args h n with
  | some (x,e,[],fn,h,n)=>cond (jA x) (some (e,fn,h,n)) none
  | _=>none
def ny(P:Program)(cd:eo)(f:FuncId)(args:List AV)(h:AH)(n:Nat):Option (AV×AH×Nat):=match oz P cd f args h n with
  | some (x,e,d,fn,h,n)=>cond (jA x) (match oB P (nw P cd) d h n with
    | some (h,n)=>match jj P e h fn.results.toList with
      | some l=>some (ud l,h,n)
      | none=>none
    | none=>none) none
  | none=>none
def qE(P:Program)(mk:aB->eo)(k:Nat):aB:=Nat.rec (motive:=λ _=>aB) (λ _ _ _ _=>none) (λ _ ih=>ny P (mk ih)) k
theorem lO{P:Program}{w0:World}{cd:eo}(hcd:∀ N c,cm P w0 N (cd N c) c){f:FuncId}{args:List AV}{h h' : AH}{n n' : Nat}{x:GE}{e:Tr AV}{d:List AD}{fn:Func}(hg:oz P cd f args h n=some (x,e,d,fn,h',n')):P.funcs[f]? = some fn/\∃ c,fn.body=some c/\∀ {ρ:Names} {w:World} {vs:List Value},bQ w0 w ρ h->bz ρ args=some vs ->
      c.wpIn (FW none) 0 P (Out w0 fn.ntmps ρ x e d h') { tmps:=vs.toArray++Array.replicate (fn.ntmps-vs.toArray.size) undef,defers:=[] } w:=by
  unfold oz at hg
  split at hg
  · rename_i fn1 hf
    split at hg
    · rename_i c hc
      cases hb:Nat.ble args.length fn1.ntmps with
      | false=>rw[hb] at hg; cases hg
      | true =>
        rw[hb] at hg;simp only[cond_true] at hg
        split at hg
        · rename_i x1 e1 d1 h1 n1 hgc
          cases hg
          refine⟨hf,c,hc,λ {ρ w vs} hr hv=>?_⟩;have hle:=Nat.le_of_ble_eq_true hb;have hl:=aF hv;have e1:({ tmps:=vs.toArray++Array.replicate (fn.ntmps-vs.toArray.size) undef,defers:=[] }:Act)=bO (vs++List.replicate (fn.ntmps-vs.length) undef) []:=by simp[bO]
          rw[e1];refine hcd _ _ hgc ⟨hr,?_,by simp; omega,rfl⟩;refine qH (us:=[]) hv ?_ rfl (lJ _ _ _);have:List.drop (0+args.length) (vs++List.replicate (fn.ntmps-vs.length) undef)=List.replicate (fn.ntmps-vs.length) undef:=by
            rw[Nat.zero_add,<- hl,List.drop_left]
          rw[this]
          simp
        · cases hg
    · cases hg
  · cases hg
theorem iC{P:Program}{w0:World}{cd:eo}(hcd:∀ N c,cm P w0 N (cd N c) c){fn:Func}{t:Tm}{R:Ending->World->Prop}{h' : AH}{n' : Nat}:∀ {ds:List AD} {h:AH} {n:Nat} {ρ:Names} {w:World} {dd:List Deferred},
    oB P (nw P cd) ds h n=some (h',n')->bQ w0 w ρ h->kX ρ ds=some dd ->
    (∀ ρ' w',Ext ρ ρ'->bQ w0 w' ρ' h'->∃ v,(results fn t.toArray).run P w' = .ok v w'/\R (.returned v) w')->LeavesInM (FW none) 0 P fn t.toArray R dd .returning w
  | [],h,n,ρ,w,dd,hg,hr,hd,k=>by
    cases hg; cases hd
    exact k ρ w (Ext.refl _) hr
  | d :: ds,h,n,ρ,w,dd,hg,hr,hd,k=>by
    simp only[oB] at hg
    cases hen:bx P d.f with
    | false=>rw[hen] at hg; cases hg
    | true =>
      rw[hen] at hg;simp only[cond_true] at hg;simp only[kX] at hd
      split at hd
      · rename_i x xs hx hxs
        cases hd
        split at hg
        · rename_i e1 fn1 h1 n1 hb
          split at hg
          · rename_i l hl;unfold nw at hb
            split at hb
            · rename_i x0 e0 fn0 h0 n0 hb0
              cases hend:jA x0 with
              | false=>rw[hend] at hb; cases hb
              | true =>
                rw[hend] at hb
                cases hb
                obtain⟨hf,c,hc,hw⟩:=lO hcd hb0;unfold dv at hx
                split at hx
                · rename_i vc va hvc hva
                  cases hx
                  have hargs:=dr hva hvc;refine⟨by simp,.inr ⟨λ h=>(by cases h),Fn.func d.f,vc.toArray,d.f,(va++vc).toArray,rfl,?_,λ _ _=>trivial,?_⟩⟩
                  · have:(va++vc).toArray=va.toArray++vc.toArray:=by simp
                    rw[this];exact cU hen _ w
                  · refine CallsDIn.mono (callsDIn_of_wp (R:=λ e w'=>∃ v ρ',e=.returned v/\Ext ρ ρ'/\bQ w0 w' ρ' h1) hf hc trivial ?_) ?_
                    · refine wpIn_mono (hw hr hargs) λ ex a w' ⟨k1,t',dd',k2,ρ',k3,k4⟩=>?_;subst k1 k2;obtain⟨v,g1,g2⟩:=di (fn:=fn1) k4.rep k4.env hl;have hd0:dd' = []:=by have:=k4.dfs; simp[kX] at this; exact this
                      cases x0 with
                      | normal=>exact⟨hd0,v,g2,v,ρ',rfl,k3,k4.rep⟩
                      | ret=>exact⟨hd0,v,g2,v,ρ',rfl,k3,k4.rep⟩
                      | exit i=>cases hend
                      | goto l=>cases hend
                    · rintro ex u' w' ⟨rfl,v,ρ',rfl,k3,k4⟩;exact iC hcd hg k4 (fJ k3 hxs) λ ρ2 w2 x2 r2=>k ρ2 w2 (k3.trans x2) r2
                · cases hx
            · cases hb
          · cases hg
        · cases hg
      · cases hd
theorem lP{P:Program}{w0:World}{mk:aB->eo}(hmk:∀ call,cA P w0 call->∀ N c,cm P w0 N (mk call N c) c):∀ k,cA P w0 (qE P mk k)
  | 0,f,args,h,n,a,h',n',hg=>by cases hg
  | k+1,f,args,h,n,a,h',n',hg=>by
    intro ρ w vs R hr hv hR;have hcd:=hmk _ (lP hmk k);have hg:ny P (mk (qE P mk k)) f args h n=some (a,h',n'):=hg;unfold ny at hg
    split at hg
    · rename_i x e d fn h1 n1 hb
      cases hend:jA x with
      | false=>rw[hend] at hg; cases hg
      | true =>
        rw[hend] at hg;simp only[cond_true] at hg
        split at hg
        · rename_i h2 n2 hd
          split at hg
          · rename_i l hl
            cases hg
            obtain⟨hf,c,hc,hw⟩:=lO hcd hb;refine(callsIn_wide (n:=0)).1 (callsIn_of_wp_marks hf hc trivial ?_ rfl);refine wpIn_mono (hw hr hv) λ ex a w' ⟨k1,t',dd',k2,ρ',k3,k4⟩=>?_;subst k1 k2;have hlv:LeavesInM (FW none) 0 P fn t'.toArray R dd' .returning w':=iC hcd hd k4.rep k4.dfs λ ρ2 w2 x2 r2=>by
              obtain⟨v,g1,g2⟩:=di (fn:=fn) r2 (k4.env.mono x2) hl;exact⟨v,g2,hR ρ2 w2 v (k3.trans x2) r2 g1⟩
            cases x with
            | normal=>exact hlv
            | ret=>exact hlv
            | exit i=>cases hend
            | goto l=>cases hend
          · cases hg
        · cases hg
    · cases hg
theorem rP(w:World)(n:Nat):bQ w w (λ _=>none) (Tr.full n) :=
  ⟨an.refl _ _,λ _ _ h=>(by cases h),λ i ao h=>(by rw[ey] at h; cases h),λ i j ao ao' L L' _ h=>(by rw[ey] at h; cases h)⟩
end Go.Gx
