import Derived.Test.YtjpbdjhaajdepaaGreatDoorM35
set_option linter.unusedVariables false
set_option maxRecDepth 100000
noncomputable section
namespace Go.Gx
open Go Go.Vc
mutual
def nD:AV->AV->Bool
  | .int k n,.int k' m=>cond (Dp k k') (Jj n m) false
  | .bool a,.bool b=>cond a b (not b)
  | .str l,.str m=>BZ l m
  | .nilp,.nilp=>true
  | .ptr i o,.ptr j p=>cond (Nat.beq i j) (Nat.beq o p) false
  | .nils,.nils=>true
  | .sli i o l z,.sli i' o' l' z'=>cond (Nat.beq i i') (cond (Nat.beq o o') (cond (Nat.beq l l') (Nat.beq z z') false) false) false
  | .nili,.nili=>true
  | .iface T v,.iface T' v'=>cond (Nat.beq T T') (nD v v') false
  | .nilf,.nilf=>true
  | .fn f x y,.fn f' x' y'=>cond (Nat.beq f f') (cond (xN x x') (xN y y') false) false
  | .yld i,.yld j=>Nat.beq i j
  | .agg cs,.agg cs'=>xN cs cs'
  | .tup cs,.tup cs'=>xN cs cs'
  | _,_=>false
def xN:List AV->List AV->Bool
  | [],[]=>true
  | a :: l,b :: m=>cond (nD a b) (xN l m) false
  | _,_=>false
end
theorem gj{a b:Bool}(h:cond a b false=true):a=true/\b=true:=by cases a<;>simp_all
mutual
theorem Bt:∀ {a b:AV},nD a b=true->a=b
  | .int k n,b,h=>by
    cases b<;>simp only[nD] at h<;>try cases h
    obtain⟨h1,h2⟩:=gj h;rw[uK] at h2;rw[je h1,eq_of_beq h2]
  | .bool x,b,h=>by
    cases b<;>simp only[nD] at h<;>try cases h
    rename_i y
    cases x<;>cases y<;>first | rfl | cases h
  | .str l,b,h=>by
    cases b<;>simp only[nD] at h<;>try cases h
    rw[mB] at h;rw[eq_of_beq h]
  | .nilp,b,h=>by cases b<;>simp only[nD] at h<;>first | rfl | cases h
  | .nils,b,h=>by cases b<;>simp only[nD] at h<;>first | rfl | cases h
  | .nili,b,h=>by cases b<;>simp only[nD] at h<;>first | rfl | cases h
  | .nilf,b,h=>by cases b<;>simp only[nD] at h<;>first | rfl | cases h
  | .ptr i o,b,h=>by
    cases b<;>simp only[nD] at h<;>try cases h
    obtain⟨h1,h2⟩:=gj h;rw[beq_iff.1 h1,beq_iff.1 h2]
  | .sli i o l z,b,h=>by
    cases b<;>simp only[nD] at h<;>try cases h
    obtain⟨h1,h⟩:=gj h;obtain⟨h2,h⟩:=gj h;obtain⟨h3,h4⟩:=gj h;rw[beq_iff.1 h1,beq_iff.1 h2,beq_iff.1 h3,beq_iff.1 h4]
  | .iface T v,b,h=>by
    cases b<;>simp only[nD] at h<;>try cases h
    obtain⟨h1,h2⟩:=gj h;rw[beq_iff.1 h1,Bt h2]
  | .fn f x y,b,h=>by
    cases b<;>simp only[nD] at h<;>try cases h
    obtain⟨h1,h⟩:=gj h;obtain⟨h2,h3⟩:=gj h;rw[beq_iff.1 h1,lX h2,lX h3]
  | .yld i,b,h=>by
    cases b<;>simp only[nD] at h<;>try cases h
    rw[beq_iff.1 h]
  | .agg cs,b,h=>by
    cases b<;>simp only[nD] at h<;>try cases h
    rw[lX h]
  | .tup cs,b,h=>by
    cases b<;>simp only[nD] at h<;>try cases h
    rw[lX h]
theorem lX:∀ {l m:List AV},xN l m=true->l=m
  | [],[],_=>rfl
  | [],_ :: _,h=>by simp[xN] at h
  | _ :: _,[],h=>by simp[xN] at h
  | a :: l,b :: m,h=>by
    simp only[xN] at h;obtain⟨h1,h2⟩:=gj h;rw[Bt h1,lX h2]
end
def EZ{α:Type}(f:α->α->Bool):List (Nat×α)->List (Nat×α)->Bool
  | [],[]=>true
  | a :: l,b :: m=>cond (Nat.beq a.1 b.1) (cond (f a.2 b.2) (EZ f l m) false) false
  | _,_=>false
theorem Gl{α:Type}{f:α->α->Bool}(hf:∀ {a b},f a b=true->a=b):∀ {l m:List (Nat×α)},EZ f l m=true->l=m
  | [],[],_=>rfl
  | [],_ :: _,h=>by simp[EZ] at h
  | _ :: _,[],h=>by simp[EZ] at h
  | (i,a) :: l,(j,b) :: m,h=>by
    simp only[EZ] at h;obtain⟨h1,h⟩:=gj h;obtain⟨h2,h3⟩:=gj h;rw[beq_iff.1 h1,hf h2,Gl hf h3]
def Tr.beq{α:Type}(f:α->α->Bool):Tr α->Tr α->Bool
  | .leaf l,.leaf m=>EZ f l m
  | .node a b,.node c d=>cond (Tr.beq f a c) (Tr.beq f b d) false
  | _,_=>false
theorem Tr.beq_eq{α:Type}{f:α->α->Bool}(hf:∀ {a b},f a b=true->a=b):∀ {t u:Tr α},Tr.beq f t u=true->t=u
  | .leaf l,.leaf m,h=>by rw[Gl hf (show EZ f l m=true from h)]
  | .leaf _,.node _ _,h=>by simp[Tr.beq] at h
  | .node _ _,.leaf _,h=>by simp[Tr.beq] at h
  | .node a b,.node c d,h=>by
    simp only[Tr.beq] at h;obtain⟨h1,h2⟩:=gj h;rw[Tr.beq_eq hf h1,Tr.beq_eq hf h2]
def JA:Option AO->Option AO->Bool
  | none,none=>true
  | some a,some b=>cond (Nat.beq a.T b.T) (cond (xN a.cells b.cells) (cond a.ro b.ro (not b.ro)) false) false
  | _,_=>false
theorem Mu:∀ {a b:Option AO},JA a b=true->a=b
  | none,none,_=>rfl
  | none,some _,h=>by simp[JA] at h
  | some _,none,h=>by simp[JA] at h
  | some ⟨T,c,r⟩,some ⟨T',c',r'⟩,h=>by
    simp only[JA] at h;obtain⟨h1,h2⟩:=gj h;obtain⟨h2,h3⟩:=gj h2;have:r=r':=by cases r<;>cases r' <;> first | rfl | cases h3
    rw[beq_iff.1 h1,lX h2,this]
structure AD where
  f:FuncId
  cap:List AV
  args:List AV
def dv(ρ:Names)(d:AD):Option Deferred:=match dH ρ d.cap,dH ρ d.args with
  | some c,some a=>some { target:=.fn (.func d.f) c.toArray,args:=a.toArray }
  | _,_=>none
def E7(ρ:Names):List AD->Option (List Deferred)
  | []=>some []
  | d :: l=>match dv ρ d,E7 ρ l with
    | some x,some xs=>some (x :: xs)
    | _,_=>none
theorem MR{ρ σ:Names}(hx:Ext ρ σ){d:AD}{x:Deferred}(h:dv ρ d=some x):dv σ d=some x:=by
  unfold dv at h ⊢
  split at h
  · rename_i c a h1 h2;rw[cq hx h1,cq hx h2]; exact h
  · cases h
theorem sS{ρ σ:Names}(hx:Ext ρ σ):∀ {l:List AD} {xs:List Deferred},E7 ρ l=some xs->E7 σ l=some xs
  | [],_,h=>h
  | d :: l,xs,h=>by
    simp only[E7] at h ⊢
    split at h
    · rename_i x xs' h1 h2;rw[MR hx h1,sS hx h2]; exact h
    · cases h
theorem Gu{ρ:Names}:∀ {l m:List AD} {xs ys:List Deferred},E7 ρ l=some xs->E7 ρ m=some ys->E7 ρ (l++m)=some (xs++ys)
  | [],_,_,_,h,k=>by cases h; exact k
  | d :: l,m,xs,ys,h,k=>by
    simp only[E7] at h
    split at h
    · rename_i x xs' h1 h2
      cases h
      simp only[List.cons_append,E7,h1,Gu h2 k]
    · cases h
abbrev aY:=FuncId->List AV->AH->Nat->Option (AV×AH×Nat)
def iO(P:Program)(w0:World)(call:aY):Prop:=∀ (f:FuncId) (args:List AV) (h:AH) (n:Nat) (a:AV) (h' : AH) (n' : Nat),call f args h n=some (a,h',n') ->
  ∀ (ρ:Names) (w:World) (vs:List Value) (R:Ending->World->Prop),fk w0 w ρ h->dH ρ args=some vs->(∀ (ρ' : Names) (w' : World) (v:Value),Ext ρ ρ'->fk w0 w' ρ' h'->rv ρ' a=some v->R (.returned v) w')->Calls P f vs.toArray w R
def CX(P:Program)(w0:World)(ext:aY):Prop:=∀ (f:FuncId) (args:List AV) (h:AH) (n:Nat) (a:AV) (h' : AH) (n' : Nat),ext f args h n=some (a,h',n') ->
  ∀ (ρ:Names) (w:World) (vs:List Value),fk w0 w ρ h->dH ρ args=some vs ->
    ∃ v w' ρ',(callFunc f vs.toArray).run P w=.ok (.value v) w'/\Ext ρ ρ'/\fk w0 w' ρ' h'/\rv ρ' a=some v
abbrev GO:=Option (AV×List AD×AH×Nat)
def Jh(n:Nat):Option (AV×AH)->GO
  | some (a,h)=>some (a,[],h,n)
  | none=>none
def NJ(P:Program)(t:TypeId):Bool:=match P.underlying t with
  | some (.slice e)=>(cZ P e).isSome
  | _=>false
theorem NK{P:Program}{t:TypeId}(h:NJ P t=true):∃ e,P.underlying t=some (.slice e)/\∃ n,cZ P e=some n:=by
  unfold NJ at h
  split at h
  · rename_i e hu;exact⟨e,hu,Option.isSome_iff_exists.1 h⟩
  · cases h
def EM(P:Program)(call ext:aY)(o:Oper)(e:Tr AV)(h:AH)(n:Nat):GO:=match o.op with
  | .store ty x v=>match eW e x,eW e v with
    | some p,some a=>match Ii P ty p a h with
      | some h'=>some (.tup [],[],h',n)
      | none=>none
    | _,_=>none
  | .alloc T=>match wm P T with
    | some z=>Jh (Nat.succ n) (DB T z h n)
    | none=>none
  | .box T x=>match eW e x with
    | some a=>Jh (Nat.succ n) (DB T a h n)
    | none=>none
  | .buildSlice ty len ps=>match wv e ps.toList with
    | some az=>Jh (Nat.succ n) (J9 P ty len az h n)
    | none=>none
  | .makeSlice ty l c=>match eW e l,eW e c with
    | some a,some b=>Jh (Nat.succ n) (QI P ty a b h n)
    | _,_=>none
  | .convert src dst x=>match EN P o e with
    | some a=>some (a,[],h,n)
    | none=>match eW e x with
      | some a=>match QL P src dst a h with
        | some r=>some (r,[],h,n)
        | none=>match Uv P src dst a h with
          | some r=>some (r,[],h,n)
          | none=>match a with
            | .str l=>Jh (Nat.succ n) (QD P src dst l h n)
            | _=>none
      | none=>none
  | .call { callee:=.builtin .copy,args:=args,argTypes:=tys }=>match kG e args.toList,tys[0]? with
    | some [d,s],some t=>cond (NJ P t) (Jh n (QE P t d s h)) none
    | _,_=>none
  | .call { callee:=.builtin .unsafeSliceData,args:=args,argTypes:=_ }=>match kG e args.toList with
    | some [s]=>match QO s with
      | some r=>some (r,[],h,n)
      | none=>none
    | _=>none
  | .call { callee:=.builtin .unsafeString,args:=args,argTypes:=tys }=>match kG e args.toList with
    | some [p,m]=>Jh n (QS P tys.toList p m h)
    | _=>none
  | .call { callee:=.builtin .append,args:=args,argTypes:=tys }=>match kG e args.toList with
    | some [s,x]=>match x with
      | .str l=>Jh (Nat.succ n) (Nc P tys.toList s l h n)
      | x=>Jh (Nat.succ n) (Na P tys.toList s x h n)
    | _=>none
  | .call { callee:=.value f,args:=args,argTypes:=_ }=>match eW e f,kG e args.toList with
    | some (.fn g xs ys),some az=>match cond (bM P g) (call g (xs++az++ys) h n) (ext g (xs++az++ys) h n) with
      | some (r,h',n')=>some (r,[],h',n')
      | none=>none
    | _,_=>none
  | .defer { callee:=.value f,args:=args,argTypes:=_ }=>match eW e f,kG e args.toList with
    | some (.fn g xs ys),some az=>some (.tup [],[⟨g,ys,xs++az⟩],h,n)
    | _,_=>none
  | _=>match Ny P o e h with
    | some (a,_)=>some (a,[],h,n)
    | none=>none
theorem PJ{ρ:Names}{f:FuncId}{x y:List AV}{v:Value}(h:rv ρ (.fn f x y)=some v):∃ xs ys,dH ρ x=some xs/\dH ρ y=some ys/\v=.func (.func f) xs.toArray ys.toArray:=by
  simp only[rv] at h
  split at h
  · rename_i xs ys h1 h2
    cases h; exact⟨xs,ys,h1,h2,rfl⟩
  · cases h
theorem Ki{P:Program}{w0:World}{call ext:aY}(hcall:iO P w0 call)(hext:CX P w0 ext){o:Oper}{e:Tr AV}{h h' : AH}{n n' : Nat}{a:AV}{ds:List AD}(hg:EM P call ext o e h n=some (a,ds,h',n')){w:World}{ρ:Names}(hr:fk w0 w ρ h){t:Tm}(he:dP ρ e t){K:Value->List Deferred->World->Prop}(k:∀ (ρ' : Names) (v:Value) (nd:List Deferred) (w' : World),Ext ρ ρ'->fk w0 w' ρ' h'->rv ρ' a=some v->E7 ρ' ds=some nd->K v nd w'):Mc P o t w K:=by
  have fin:∀ {s:Sem Value},execOp (ev t) o=(do pure (.value (<- s)):Sem Next)->ds=[]->xD P w0 w ρ s a h'->Mc P o t w K:=λ {s} hs hd hw=>by
    obtain⟨v,w',ρ',h1,h2,h3,h4⟩:=hw;refine⟨.value v,w',by rw[hs]; simp only[Sem.run_bind,h1,Result.andThen_ok,Sem.run_pure],?_⟩;subst hd;exact k ρ' v [] w' h2 h3 h4 rfl
  have rd:(∃ T,Ny P o e h=some (a,T))->ds=[]->h' = h->Mc P o t w K:=λ ⟨T,hT⟩ hd hh=>by
    obtain⟨v,h1,h2,h3⟩:=Km hT hr he;subst hd hh;exact⟨.value v,w,h3 w h2,k ρ v [] w (Ext.refl _) hr h1 rfl⟩
  have goO_ok:∀ {x:Option (AV×AH)} {m:Nat},Jh m x=some (a,ds,h',n')->x=some (a,h')/\ds=[]:=λ {x m} hx=>by
    unfold Jh at hx
    split at hx
    · cases hx; exact⟨rfl,rfl⟩
    · cases hx
  unfold EM at hg
  split at hg
  · rename_i ty x v hx
    split at hg
    · rename_i p b hp hb
      split at hg
      · rename_i h2 hs
        cases hg
        obtain⟨w',hrun,hr'⟩:=NA hs hr (aW he hp) (aW he hb);exact⟨.skip,w',by simp[execOp,hx,hrun],k ρ undef [] w' (Ext.refl _) hr' rfl rfl⟩
      · cases hg
    · cases hg
  · rename_i T hx
    split at hg
    · rename_i z hz;obtain⟨hn,rfl⟩:=goO_ok hg;obtain⟨v,hv,_,hrun⟩:=uk hz ρ;obtain⟨u,w',ρ',h1,h2,h3,h4⟩:=GF (P:=P) hn hr hv;refine fin (s:=Instr.alloc T true (.tuple #[])) (by simp[execOp,hx]) rfl ⟨u,w',ρ',?_,h2,h3,h4⟩;simp only[Instr.alloc,Sem.run_bind,hrun,Result.andThen_ok];simpa only[Sem.run_bind] using h1
    · cases hg
  · rename_i T x hx
    split at hg
    · rename_i b hb;obtain⟨hn,rfl⟩:=goO_ok hg;exact fin (s:=Instr.box T (ev t x)) (by simp[execOp,hx]) rfl (GF (P:=P) hn hr (aW he hb))
    · cases hg
  · rename_i ty len ps hx
    split at hg
    · rename_i az haz;obtain⟨hn,rfl⟩:=goO_ok hg;refine fin (s:=Instr.buildSlice ty len (ps.map λ (i,x)=>(i,ev t x))) (by simp[execOp,hx]) rfl (Ni hn hr ?_);simpa using Bk he haz
    · cases hg
  · rename_i ty l c hx
    split at hg
    · rename_i a1 b1 ha hb;obtain⟨hn,rfl⟩:=goO_ok hg;exact fin (s:=Instr.makeSlice ty (ev t l) (ev t c)) (by simp[execOp,hx]) rfl (Nt hn hr (aW he ha) (aW he hb))
    · cases hg
  · rename_i src dst x hx
    split at hg
    · rename_i b hb
      cases hg
      obtain⟨v,h1,h2⟩:=Kl hb he;exact⟨.value v,w,h2 w,k ρ v [] w (Ext.refl _) hr h1 rfl⟩
    · split at hg
      · rename_i b hb
        split at hg
        · rename_i r hr2
          cases hg
          exact fin (s:=convert src dst (ev t x)) (by simp[execOp,hx]) rfl (NC hr2 hr (aW he hb))
        · split at hg
          · rename_i r hr2
            cases hg
            exact fin (s:=convert src dst (ev t x)) (by simp[execOp,hx]) rfl (QN hr2 hr (aW he hb))
          · split at hg
            · rename_i l;obtain⟨hn,rfl⟩:=goO_ok hg;exact fin (s:=convert src dst (ev t x)) (by simp[execOp,hx]) rfl (by rw[fM (aW he hb)]; exact Nh hn hr)
            · cases hg
      · cases hg
  · rename_i args tys hx
    split at hg
    · rename_i d s ty hds ht
      cases hsl:NJ P ty with
      | false=>rw[hsl] at hg; cases hg
      | true =>
        rw[hsl] at hg;obtain⟨hn,rfl⟩:=goO_ok hg;have hv:=fu he hds;obtain⟨vs,us,hm,h1,h2⟩:=aL hv;obtain⟨vx,us',rfl,h3,h4⟩:=aL h2
        cases h4
        have hargs:args.map (ev t) = #[vs,vx]:=Array.ext' (by rw[Array.toList_map,hm]);refine fin (s:=Builtin.copy_ tys o.type #[vs,vx]) ?_ rfl (Nk hn ht (NK hsl) hr h1 h3);simp[execOp,hx,resolve,invoke,builtin,hargs]
    · cases hg
  · rename_i args tys hx
    split at hg
    · rename_i s hs
      split at hg
      · rename_i r hr2
        cases hg
        have hv:=fu he hs;obtain⟨vs,us,hm,h1,h2⟩:=aL hv
        cases h2
        have hargs:args.map (ev t) = #[vs]:=Array.ext' (by rw[Array.toList_map,hm]);obtain⟨v,k1,k2⟩:=ND (P:=P) (tys:=tys) (ty:=o.type) hr2 h1;refine fin (s:=Builtin.unsafeSliceData_ tys o.type #[vs]) ?_ rfl ⟨v,w,ρ,k2 w,Ext.refl _,hr,k1⟩;simp[execOp,hx,resolve,invoke,builtin,hargs]
      · cases hg
    · cases hg
  · rename_i args tys hx
    split at hg
    · rename_i p m hpm;obtain⟨hn,rfl⟩:=goO_ok hg;have hv:=fu he hpm;obtain⟨vs,us,hm,h1,h2⟩:=aL hv;obtain⟨vx,us',rfl,h3,h4⟩:=aL h2
      cases h4
      have hargs:args.map (ev t) = #[vs,vx]:=Array.ext' (by rw[Array.toList_map,hm]);refine fin (s:=Builtin.unsafeString_ tys o.type #[vs,vx]) ?_ rfl (NF hn hr h1 h3);simp[execOp,hx,resolve,invoke,builtin,hargs]
    · cases hg
  · rename_i args tys hx
    split at hg
    · rename_i s x hs;have hv:=fu he hs;obtain⟨vs,us,hm,h1,h2⟩:=aL hv;obtain⟨vx,us',rfl,h3,h4⟩:=aL h2
      cases h4
      have hargs:args.map (ev t) = #[vs,vx]:=Array.ext' (by rw[Array.toList_map,hm]);have hex:execOp (ev t) o=(do pure (.value (<- Builtin.append_ tys o.type #[vs,vx])):Sem Next):=by simp[execOp,hx,resolve,invoke,builtin,hargs]
      split at hg
      · rename_i l;obtain⟨hn,rfl⟩:=goO_ok hg;exact fin hex rfl (by rw[fM h3]; exact Nd hn hr h1)
      · obtain⟨hn,rfl⟩:=goO_ok hg;exact fin hex rfl (Nb hn hr h1 h3)
    · cases hg
  · rename_i f args tys hx
    split at hg
    · rename_i g xs ys az hf haz;obtain⟨vxs,vys,h1,h2,h3⟩:=PJ (aW he hf);have h4:=fu he haz;have hall:=jZ (jZ h1 h4) h2;have hargs:args.map (ev t)=(args.toList.map (ev t)).toArray:=Array.ext' (by rw[Array.toList_map]);have hex:∀ w,(execOp (ev t) o).run P w=(callFunc g (vxs++args.toList.map (ev t)++vys).toArray).run P w:=λ w=>by
        have:(vxs++args.toList.map (ev t)++vys).toArray=vxs.toArray++args.map (ev t)++vys.toArray:=by rw[hargs]; simp
        rw[this];simp only[execOp,hx,resolve,h3,Deferred.ofValue,Sem.run_bind,Sem.run_pure,Result.andThen_ok,invoke]
      split at hg
      · rename_i r h2' n2 hc
        cases hg
        cases hen:bM P g with
        | true =>
          rw[hen] at hc;refine⟨.enter g (vxs++args.toList.map (ev t)++vys).toArray,w,by rw[hex w]; exact jd hen _ w,?_⟩;exact hcall g _ h n a h' n' hc ρ w _ _ hr hall λ ρ' w' v hx hr' hv=>⟨v,rfl,k ρ' v [] w' hx hr' hv rfl⟩
        | false =>
          rw[hen] at hc;obtain⟨v,w',ρ',g1,g2,g3,g4⟩:=hext g _ h n a h' n' hc ρ w _ hr hall;exact⟨.value v,w',by rw[hex w]; exact g1,k ρ' v [] w' g2 g3 g4 rfl⟩
      · cases hg
    · cases hg
  · rename_i f args tys hx
    split at hg
    · rename_i g xs ys az hf haz
      cases hg
      obtain⟨vxs,vys,h1,h2,h3⟩:=PJ (aW he hf);have h4:=fu he haz;have hargs:args.map (ev t)=(args.toList.map (ev t)).toArray:=Array.ext' (by rw[Array.toList_map]);refine⟨.defer { target:=.fn (.func g) vys.toArray,args:=(vxs++args.toList.map (ev t)).toArray },w,?_,?_⟩
      · simp[execOp,hx,resolve,h3,Deferred.ofValue]
      · refine k ρ undef _ w (Ext.refl _) hr rfl ?_;simp only[E7,dv,h2,jZ h1 h4]
    · cases hg
  · split at hg
    · rename_i b T hb
      cases hg
      exact rd ⟨_,hb⟩ rfl rfl
    · cases hg
def mw(ops:Array Oper)(e:Tr AV)(o:Oper):Option Bool:=match o.guard with
  | none=>some true
  | some (j,pol)=>match (ops[j]?).bind (·.dst) with
    | none=>none
    | some d=>match e.get d with
      | some (.bool b)=>some (cond pol b (not b))
      | some (.tup [])=>some false
      | _=>none
theorem iM{ops:Array Oper}{e:Tr AV}{o:Oper}{g:Bool}(h:mw ops e o=some g){ρ:Names}{t:Tm}(he:dP ρ e t){A B:Tm->Prop}(hA:g=true->A t)(hB:g=false->B t):gd ops t o A B:=by
  unfold mw at h;unfold gd
  split at h
  · rename_i hg
    cases h
    rw[hg];exact hA rfl
  · rename_i j pol hg;rw[hg];simp only
    split at h
    · cases h
    · rename_i d hd;rw[hd];simp only
      split at h
      · rename_i b hb;have hv:=fK (he _ _ hb);rw[hv];have hs:=PM t d _ hv (by simp[undef]);simp only
        cases pol<;>cases b<;>simp only[cond] at h ⊢ <;> rw[hs]<;>cases h
        · exact hA rfl
        · exact hB rfl
        · exact hB rfl
        · exact hA rfl
      · rename_i hb
        cases h
        obtain⟨vs,hvs,hv⟩:=FP (he _ _ hb);rw[hv];exact hB rfl
      · cases h
inductive GS where
  | no
  | ok (e:Tr AV) (d:List AD) (h:AH) (n:Nat)
structure HO (w0:World) (N:Nat) (ρ:Names) (e:Tr AV) (d:List AD) (h:AH) (t:Tm) (dd:List Deferred) (w:World):Prop where
  rep:fk w0 w ρ h
  env:dP ρ e t
  len:t.length=N
  dfs:E7 ρ d=some dd
def CT(w0:World)(N:Nat)(ρ:Names)(e:Tr AV)(d:List AD)(h:AH)(t:Tm)(dd:List Deferred)(w:World):Prop:=∃ ρ',Ext ρ ρ'/\HO w0 N ρ' e d h t dd w
theorem CT.trans{w0:World}{N:Nat}{ρ σ:Names}{e:Tr AV}{d:List AD}{h:AH}{t:Tm}{dd:List Deferred}{w:World}(hx:Ext ρ σ)(k:CT w0 N σ e d h t dd w):CT w0 N ρ e d h t dd w :=
  let ⟨τ,h1,h2⟩:=k
  ⟨τ,hx.trans h1,h2⟩
def yA(P:Program)(call ext:aY)(N:Nat)(ops:Array Oper):List Oper->Tr AV->List AD->AH->Nat->GS
  | [],e,d,h,n=>.ok e d h n
  | o :: rest,e,d,h,n=>match mw ops e o with
    | some true=>match EM P call ext o e h n with
      | some (a,ds,h',n')=>match wA N e o.dst a with
        | some e'=>yA P call ext N ops rest e' (ds++d) h' n'
        | none=>.no
      | none=>.no
    | some false=>match wA N e o.dst (.tup []) with
      | some e'=>yA P call ext N ops rest e' d h n
      | none=>.no
    | none=>.no
theorem BW{P:Program}{w0:World}{call ext:aY}(hcall:iO P w0 call)(hext:CX P w0 ext){N:Nat}{ops:Array Oper}:∀ {l:List Oper} {e e' : Tr AV} {d d' : List AD} {h h' : AH} {n n' : Nat},
    yA P call ext N ops l e d h n=.ok e' d' h' n'->∀ {ρ:Names} {t:Tm} {dd:List Deferred} {w:World},HO w0 N ρ e d h t dd w->Cb P ops l t dd w (λ t dd w=>CT w0 N ρ e' d' h' t dd w)
  | [],e,e',d,d',h,h',n,n',hg,ρ,t,dd,w,hs=>by
    simp only[yA] at hg
    cases hg
    exact⟨ρ,Ext.refl _,hs⟩
  | o :: rest,e,e',d,d',h,h',n,n',hg,ρ,t,dd,w,hs=>by
    simp only[yA] at hg
    split at hg
    · rename_i hgd
      split at hg
      · rename_i a ds h2 n2 ho
        split at hg
        · rename_i e2 hp;refine iM hgd hs.env (λ _=>?_) (λ h=>by cases h);refine Ki hcall hext ho hs.rep hs.env λ ρ' v nd w' hx hr hv hd=>?_;obtain⟨h1,h2⟩:=pV hp hs.len (hs.env.mono hx) hv;have:=BW hcall hext hg (ρ:=ρ') (t:=pt t o.dst v) (dd:=nd++dd) (w:=w') ⟨hr,h1,h2,Gu hd (sS hx hs.dfs)⟩;have e1:∀ {l:List Oper} {t:Tm} {dd:List Deferred} {w:World} {K K' : Tm->List Deferred->World->Prop},(∀ t dd w,K t dd w->K' t dd w)->Cb P ops l t dd w K->Cb P ops l t dd w K':=by
            intro l
            induction l with
            | nil=>intro t dd w K K' hk h; exact hk _ _ _ h
            | cons o l ih =>
              intro t dd w K K' hk h;simp only[Cb] at h ⊢;unfold gd at h ⊢;have hO:∀ (t:Tm),Mc P o t w (λ v nd w'=>Cb P ops l (pt t o.dst v) (nd++dd) w' K)->Mc P o t w (λ v nd w'=>Cb P ops l (pt t o.dst v) (nd++dd) w' K'):=λ t ⟨n,w',hr,hn⟩=>by
                refine⟨n,w',hr,?_⟩
                cases n<;>simp only[GZ] at hn ⊢
                · exact ih hk hn
                · exact ih hk hn
                · exact Calls.mono hn λ e w'' ⟨v,h1,h2⟩=>⟨v,h1,ih hk h2⟩
                · exact RoundIn.mono hn λ e w'' ⟨v,h1,h2⟩=>⟨v,h1,ih hk h2⟩
                · exact ih hk hn
              split
              · rename_i hq; simp only[hq] at h; exact hO _ h
              · rename_i j pol hq;simp only[hq] at h
                split
                · rename_i hq2; simp only[hq2] at h; exact ih hk h
                · rename_i d hq2;simp only[hq2] at h
                  split
                  · rename_i b hq3;simp only[hq3] at h
                    cases pol<;>cases b<;>simp only[cond] at h ⊢ <;> first | exact hO _ h | exact ih hk h
                  · rename_i hq3
                    split at h
                    · rename_i b hq4; exact absurd hq4 (hq3 b)
                    · exact ih hk h
          exact e1 (λ t dd w h=>h.trans hx) this
        · cases hg
      · cases hg
    · rename_i hgd
      split at hg
      · rename_i e2 hp;refine iM hgd hs.env (λ h=>by cases h) (λ _=>?_);obtain⟨h1,h2⟩:=pV hp hs.len hs.env (v:=undef) rfl;exact BW hcall hext hg (ρ:=ρ) ⟨hs.rep,h1,h2,hs.dfs⟩
      · cases hg
    · cases hg
abbrev kD:=List (Nat×List ER)
def yH(h:AH):List ER->Bool
  | []=>true
  | d :: l=>match cE h d.i d.o d.vs.length with
    | some az=>cond (xN az d.vs) (yH h l) false
    | none=>false
def uN(h:AH):kD->Bool
  | []=>true
  | p :: l=>cond (yH h p.2) (uN h l) false
def yf(ops:Array Oper)(j:Nat)(pend:kD):kD:=pend.filter λ p=>!dep ops ops.size j p.1
def xB(ρ:Names)(ds:List ER)(T:List (World->Prop)):Prop:=∃ ρ0,Ext ρ0 ρ/\T=ds.map (mg ρ0)/\∀ d∈ds,∃ L vs,ρ0 d.i=some L/\dH ρ0 d.vs=some vs
theorem xB.mono{ρ σ:Names}(hx:Ext ρ σ){ds:List ER}{T:List (World->Prop)}(h:xB ρ ds T):xB σ ds T :=
  let ⟨ρ0,h1,h2,h3⟩:=h
  ⟨ρ0,h1.trans hx,h2,h3⟩
theorem yI{h:AH}:∀ {l:List ER},yH h l=true->∀ d∈l,cE h d.i d.o d.vs.length=some d.vs
  | [],_,d,hd=>by cases hd
  | x :: l,hk,d,hd=>by
    simp only[yH] at hk
    split at hk
    · rename_i az haz;obtain⟨h1,h2⟩:=gj hk;have:=lX h1;subst this;rcases List.mem_cons.1 hd with rfl | hd
      · exact haz
      · exact yI h2 d hd
    · cases hk
theorem xB.holds{w0 w:World}{ρ:Names}{h:AH}(hr:fk w0 w ρ h){ds:List ER}{T:List (World->Prop)}(hd:xB ρ ds T)(hk:yH h ds=true):holds T w:=by
  obtain⟨ρ0,hx,rfl,hw⟩:=hd;intro f hf;obtain⟨d,hd,rfl⟩:=List.mem_map.1 hf;obtain⟨L,vs,h1,h2⟩:=hw d hd;obtain⟨L',vs',g1,g2,_,g4⟩:=gu hr (yI hk d hd);obtain rfl:L=L':=Option.some.inj ((hx _ _ h1).symm.trans g1);obtain rfl:vs=vs':=Option.some.inj ((cq hx h2).symm.trans g2);exact⟨L,vs,h1,h2,g4⟩
inductive mP (ρ:Names):kD->kj->Prop
  | nil:mP ρ [] []
  | cons {i:Nat} {ds:List ER} {T:List (World->Prop)} {l:kD} {m:kj}:xB ρ ds T->mP ρ l m->mP ρ ((i,ds) :: l) ((i,T) :: m)
theorem mP.mono{ρ σ:Names}(hx:Ext ρ σ){l:kD}{m:kj}(h:mP ρ l m):mP σ l m:=by
  induction h with
  | nil=>exact .nil
  | cons h _ ih=>exact .cons (h.mono hx) ih
theorem mP.drop{ρ:Names}{l:kD}{m:kj}(h:mP ρ l m)(ops:Array Oper)(j:Nat):mP ρ (yf ops j l) (Vc.drop ops j m):=by
  induction h with
  | nil=>exact .nil
  | cons h _ ih =>
    rename_i i ds T l m _;unfold yf Vc.drop at ih ⊢;simp only[List.filter_cons]
    split
    · exact .cons h ih
    · exact ih
theorem mP.holds{w0 w:World}{ρ:Names}{h:AH}(hr:fk w0 w ρ h){l:kD}{m:kj}(hp:mP ρ l m)(hk:uN h l=true):∀ p∈m,holds p.2 w:=by
  induction hp with
  | nil=>intro p hp; cases hp
  | cons h' _ ih =>
    simp only[uN] at hk;obtain⟨h1,h2⟩:=gj hk;intro p hp;rcases List.mem_cons.1 hp with rfl | hp
    · exact h'.holds hr h1
    · exact ih h2 p hp
theorem Gi:∀ {T:List (World->Prop)} {w:World} {R:Prop},holds T w->R->Mp T w R
  | [],_,_,_,h=>h
  | f :: _,_,_,hT,h=>⟨hT f (List.mem_cons_self ..),Gi (λ g hg=>hT g (List.mem_cons_of_mem _ hg)) h⟩
theorem Bo:∀ {ps:kj} {w:World} {R:Prop},(∀ p∈ps,holds p.2 w)->R->zK ps w R
  | [],_,_,_,h=>h
  | p :: _,_,_,hp,h=>Gi (hp p (List.mem_cons_self ..)) (Bo (λ q hq=>hp q (List.mem_cons_of_mem _ hq)) h)
theorem Bn:∀ {l:List Prop},(∀ p∈l,p)->Jw l
  | [],_=>trivial
  | [p],h=>h p (List.mem_cons_self ..)
  | p :: _ :: _,h=>⟨h p (List.mem_cons_self ..),Bn λ r hr=>h r (List.mem_cons_of_mem _ hr)⟩
def Mv:GS->GS->Bool
  | .ok e _ h _,.ok e' _ h' _=>cond (Tr.beq nD e e') (Tr.beq JA h h') false
  | _,_=>false
def qg(s:GS):List GS->Bool
  | []=>true
  | x :: l=>cond (Mv s x) (qg s l) false
def yC(P:Program)(call ext:aY)(N:Nat)(ops:Array Oper)(listed:Array Bool)(pend:kD)(e:Tr AV)(h:AH)(nm n:Nat)(multi:Bool)(i:Nat)(next:Array Bool->kD->Tr AV->AH->Nat->GS):GS:=match ops[i]? with
  | none=>.no
  | some o=>match mw ops e o with
    | some true=>match EM P call ext o e h nm with
      | some (a,[],h',n')=>cond (uN h' (yf ops i pend)) (match wA N e o.dst a with
        | some e'=>next (listed.setIfInBounds i true) (yf ops i pend) e' h' (cond multi n n')
        | none=>.no) .no
      | _=>.no
    | some false=>match wA N e o.dst (.tup []) with
      | some e'=>next (listed.setIfInBounds i true) (yf ops i pend) e' h n
      | none=>.no
    | none=>.no
def yQ(c0 i:Nat):Nat:=Nat.add (Nat.mul (Nat.add (Nat.mul c0 256) (Nat.succ i)) 16777216) (Nat.mod c0 64)
def dZ(P:Program)(call ext:aY)(N:Nat)(ops:Array Oper)(multi:Bool)(c0:Nat):Nat->Array Bool->kD->Tr AV->AH->Nat->GS
  | 0,listed,_,e,h,n=>cond (Region.ready .any ops listed).isEmpty (.ok e [] h n) .no
  | k+1,listed,pend,e,h,n=>match pick ops (Region.ready .any ops listed) with
    | some i=>match ops[i]? with
      | none=>.no
      | some o=>cond (Region.free .any ops listed i) (match mw ops e o with
        | some true=>match Ny P o e h with
          | some (a,T)=>match wA N e o.dst a with
            | some e'=>dZ P call ext N ops multi c0 k (listed.setIfInBounds i true) ((i,T) :: pend) e' h n
            | none=>.no
          | none=>.no
        | some false=>match wA N e o.dst (.tup []) with
          | some e'=>dZ P call ext N ops multi c0 k (listed.setIfInBounds i true) pend e' h n
          | none=>.no
        | none=>.no) .no
    | none=>match Region.ready .any ops listed with
      | []=>.ok e [] h n
      | i :: is=>match yC P call ext N ops listed pend e h (cond multi (yQ c0 i) n) n multi i (dZ P call ext N ops multi c0 k) with
        | .no=>.no
        | s=>cond (qg s (is.map λ j=>yC P call ext N ops listed pend e h (cond multi (yQ c0 j) n) n multi j (dZ P call ext N ops multi c0 k))) s .no
theorem jb{P:Program}{ops:Array Oper}{K K' : Tm->World->Prop}(hk:∀ t w,K t w->K' t w):∀ (n:Nat) (listed:Array Bool) (pend:kj) (t:Tm) (w:World),fA P ops n listed pend t w K->fA P ops n listed pend t w K'
  | 0,listed,pend,t,w,h=>by
    simp only[fA] at h ⊢;obtain⟨h1,h2⟩:=gi h;rw[h1]; exact hk _ _ h2
  | n+1,listed,pend,t,w,h=>by
    have gdm:∀ {o:Oper} {A A' B B' : Tm->Prop},(∀ t,A t->A' t)->(∀ t,B t->B' t)->gd ops t o A B->gd ops t o A' B':=λ {o A A' B B'} hA hB h=>by
      unfold gd at h ⊢
      split
      · rename_i hq; simp only[hq] at h; exact hA _ h
      · rename_i j pol hq;simp only[hq] at h
        split
        · rename_i hq2; simp only[hq2] at h; exact hB _ h
        · rename_i d hq2;simp only[hq2] at h
          split
          · rename_i b hq3;simp only[hq3] at h
            cases pol<;>cases b<;>simp only[cond] at h ⊢ <;> first | exact hA _ h | exact hB _ h
          · rename_i hq3
            split at h
            · rename_i b hq4; exact absurd hq4 (hq3 b)
            · exact hB _ h
    unfold fA at h ⊢
    split at h
    · rename_i i hi
      try simp only[hi]
      split at h
      · exact h.elim
      · rename_i o ho;obtain⟨h1,h2⟩:=gi h
        try simp only[ho]
        try simp only[h1,cond_true]
        exact gdm (λ t ⟨v,T,a,b,c⟩=>⟨v,T,jb hk n _ _ _ _ a,b,c⟩) (λ t h=>jb hk n _ _ _ _ h) h2
    · rename_i hi
      try simp only[hi]
      split at h
      · rename_i hr; try simp only[hr]
        exact hk _ _ h
      · rename_i i is hr
        try simp only[hr]
        refine Bn λ p hp=>?_;obtain⟨j,hj,rfl⟩:=List.mem_map.1 hp;have:=pT h _ (List.mem_map.2 ⟨j,hj,rfl⟩)
        split at this
        · exact this.elim
        · rename_i o ho
          try simp only[ho]
          refine gdm (λ t ⟨nx,w',hr,hn⟩=>⟨nx,w',hr,?_⟩) (λ t h=>jb hk n _ _ _ _ h) this;have key:∀ (v:Value) (nd:List Deferred) (w' : World),(nd=[]/\zK (Vc.drop ops j pend) w' (fA P ops n (listed.setIfInBounds j true) (Vc.drop ops j pend) (pt t o.dst v) w' K))->(nd=[]/\zK (Vc.drop ops j pend) w' (fA P ops n (listed.setIfInBounds j true) (Vc.drop ops j pend) (pt t o.dst v) w' K')):=λ v nd w' ⟨a,b⟩=>by
            obtain⟨b1,b2⟩:=pU b;exact⟨a,Bo b1 (jb hk n _ _ _ _ b2)⟩
          cases nx<;>simp only[GZ] at hn ⊢
          · exact⟨trivial,(key _ [] _ ⟨rfl,hn.2⟩).2⟩
          · exact⟨trivial,(key _ [] _ ⟨rfl,hn.2⟩).2⟩
          · exact Calls.mono hn λ e w'' ⟨v,h1,h2⟩=>⟨v,h1,trivial,(key _ [] _ ⟨rfl,h2.2⟩).2⟩
          · exact RoundIn.mono hn λ e w'' ⟨v,h1,h2⟩=>⟨v,h1,trivial,(key _ [] _ ⟨rfl,h2.2⟩).2⟩
          · first | exact key _ _ _ hn | exact hn.elim | (cases hn.1)
theorem vX{s:GS}:∀ {l:List GS},qg s l=true->∀ x∈l,Mv s x=true
  | [],_,x,hx=>by cases hx
  | a :: l,h,x,hx=>by
    simp only[qg] at h;obtain⟨h1,h2⟩:=gj h;rcases List.mem_cons.1 hx with rfl | hx
    · exact h1
    · exact vX h2 x hx
def Ends(w0:World)(N:Nat)(ρ:Names)(e:Tr AV)(h:AH)(t:Tm)(w:World):Prop:=∃ ρ',Ext ρ ρ'/\fk w0 w ρ' h/\dP ρ' e t/\t.length=N
theorem oH{P:Program}{w0:World}{call ext:aY}(hcall:iO P w0 call)(hext:CX P w0 ext){N:Nat}{ops:Array Oper}{multi:Bool}{c0:Nat}:∀ (k:Nat) {listed:Array Bool} {pa:kD} {e e' : Tr AV} {d' : List AD} {h h' : AH} {n n' : Nat},
    dZ P call ext N ops multi c0 k listed pa e h n=.ok e' d' h' n'->∀ {ρ:Names} {t:Tm} {w:World} {pend:kj},fk w0 w ρ h->dP ρ e t->t.length=N->mP ρ pa pend ->
    d' = []/\fA P ops k listed pend t w (λ t w=>Ends w0 N ρ e' h' t w)
  | 0,listed,pa,e,e',d',h,h',n,n',hg,ρ,t,w,pend,hr,he,hN,hp=>by
    simp only[dZ] at hg
    cases hb:(Region.ready .any ops listed).isEmpty with
    | false=>rw[hb] at hg; cases hg
    | true =>
      rw[hb] at hg
      cases hg
      refine⟨rfl,?_⟩;simp only[fA,hb,cond_true];exact⟨ρ,Ext.refl _,hr,he,hN⟩
  | k+1,listed,pa,e,e',d',h,h',n,n',hg,ρ,t,w,pend,hr,he,hN,hp=>by
    have way:∀ {i:Nat} {nm:Nat} {s:GS} {e1:Tr AV} {d1:List AD} {h1:AH} {n1:Nat},yC P call ext N ops listed pa e h nm n multi i (dZ P call ext N ops multi c0 k)=s->s=.ok e1 d1 h1 n1 ->
        d1=[]/\(match ops[i]? with
          | none=>False
          | some o=>gd ops t o
            (λ t=>Mc P o t w λ v nd w'=>nd=[]/\zK (Vc.drop ops i pend) w' (fA P ops k (listed.setIfInBounds i true) (Vc.drop ops i pend) (pt t o.dst v) w' (λ t w=>Ends w0 N ρ e1 h1 t w))) (λ t=>fA P ops k (listed.setIfInBounds i true) (Vc.drop ops i pend) (pt t o.dst undef) w (λ t w=>Ends w0 N ρ e1 h1 t w))):=by
      intro i nm s e1 d1 h1 n1 hs hs';subst hs';unfold yC at hs
      split at hs
      · cases hs
      · rename_i o ho
        try simp only
        split at hs
        · rename_i hgd
          split at hs
          · rename_i a h2 n2 hop
            cases hkp:uN h2 (yf ops i pa) with
            | false=>rw[hkp] at hs; cases hs
            | true =>
              rw[hkp] at hs;simp only[cond_true] at hs
              split at hs
              · rename_i e2 hput;have hd1:d1=[]:=by
                  obtain⟨v0,hv0⟩:∃ x:Nat,x=x:=⟨0,rfl⟩;have aux:∀ (k:Nat) {listed:Array Bool} {pa:kD} {e e' : Tr AV} {d' : List AD} {h h' : AH} {n n' : Nat},dZ P call ext N ops multi c0 k listed pa e h n=.ok e' d' h' n'->d' = []:=by
                    intro k
                    induction k with
                    | zero =>
                      intro listed pa e e' d' h h' n n' hg;simp only[dZ] at hg
                      cases hb:(Region.ready .any ops listed).isEmpty with
                      | false=>rw[hb] at hg; cases hg
                      | true=>rw[hb] at hg; cases hg; rfl
                    | succ k ih =>
                      intro listed pa e e' d' h h' n n' hg;have hw:∀ {i nm:Nat} {e1:Tr AV} {d1:List AD} {h1:AH} {n1:Nat},yC P call ext N ops listed pa e h nm n multi i (dZ P call ext N ops multi c0 k)=.ok e1 d1 h1 n1->d1=[]:=by
                        intro i nm e1 d1 h1 n1 hs;unfold yC at hs
                        split at hs
                        · cases hs
                        · split at hs
                          · split at hs
                            · rename_i a h2 n2 _
                              cases hkp:uN h2 (yf ops i pa) with
                              | false=>rw[hkp] at hs; cases hs
                              | true =>
                                rw[hkp] at hs;simp only[cond_true] at hs
                                split at hs
                                · exact ih hs
                                · cases hs
                            · cases hs
                          · split at hs
                            · exact ih hs
                            · cases hs
                          · cases hs
                      simp only[dZ] at hg
                      split at hg
                      · rename_i i hi
                        split at hg
                        · cases hg
                        · rename_i o ho
                          cases hf:Region.free .any ops listed i with
                          | false=>rw[hf] at hg; cases hg
                          | true =>
                            rw[hf] at hg;simp only[cond_true] at hg
                            split at hg
                            · split at hg
                              · split at hg
                                · exact ih hg
                                · cases hg
                              · cases hg
                            · split at hg
                              · exact ih hg
                              · cases hg
                            · cases hg
                      · split at hg
                        · cases hg; rfl
                        · rename_i i is _
                          split at hg
                          · cases hg
                          · rename_i s hne hs
                            cases hsm:qg (yC P call ext N ops listed pa e h (cond multi (yQ c0 i) n) n multi i (dZ P call ext N ops multi c0 k)) (is.map λ j=>yC P call ext N ops listed pa e h (cond multi (yQ c0 j) n) n multi j (dZ P call ext N ops multi c0 k)) with
                            | false=>rw[hsm] at hg; cases hg
                            | true=>rw[hsm] at hg; exact hw hg
                  exact aux k hs
                refine⟨hd1,iM hgd he (λ _=>?_) (λ h=>by cases h)⟩;refine Ki hcall hext hop hr he λ ρ' v nd w' hx hr' hv hnd=>?_
                cases hnd
                obtain⟨g1,g2⟩:=pV hput hN (he.mono hx) hv;have hp':=(hp.mono hx).drop ops i;obtain⟨_,hk2⟩:=oH hcall hext k hs (ρ:=ρ') hr' g1 g2 hp';exact⟨rfl,Bo (hp'.holds hr' hkp) (jb (λ t w ⟨ρ2,a,b⟩=>⟨ρ2,hx.trans a,b⟩) _ _ _ _ _ hk2)⟩
              · cases hs
          · cases hs
        · rename_i hgd
          split at hs
          · rename_i e2 hput;obtain⟨g1,g2⟩:=pV hput hN he (v:=undef) rfl;obtain⟨hd1,hk2⟩:=oH hcall hext k hs (ρ:=ρ) hr g1 g2 (hp.drop ops i);exact⟨hd1,iM hgd he (λ h=>by cases h) (λ _=>hk2)⟩
          · cases hs
        · cases hs
    simp only[dZ] at hg;unfold fA
    split at hg
    · rename_i i hi
      try simp only[hi]
      split at hg
      · cases hg
      · rename_i o ho
        try simp only[ho]
        cases hf:Region.free .any ops listed i with
        | false=>rw[hf] at hg; cases hg
        | true =>
          rw[hf] at hg;simp only[cond_true] at hg ⊢
          split at hg
          · rename_i hgd
            split at hg
            · rename_i a T hrd
              split at hg
              · rename_i e2 hput;obtain⟨v,g1,g2,g3⟩:=Km hrd hr he;obtain⟨a1,a2⟩:=pV hput hN he g1;have hdr:xB ρ T (T.map (mg ρ)):=⟨ρ,Ext.refl _,rfl,λ d hd=>by
                  obtain⟨L,vs,b1,b2,_⟩:=g2 _ (List.mem_map.2 ⟨d,hd,rfl⟩);exact⟨L,vs,b1,b2⟩⟩
                obtain⟨hd1,hk2⟩:=oH hcall hext k hg (ρ:=ρ) hr a1 a2 (.cons hdr hp);exact⟨hd1,iM hgd he (λ _=>⟨v,_,hk2,g2,g3⟩) (λ h=>by cases h)⟩
              · cases hg
            · cases hg
          · rename_i hgd
            split at hg
            · rename_i e2 hput;obtain⟨a1,a2⟩:=pV hput hN he (v:=undef) rfl;obtain⟨hd1,hk2⟩:=oH hcall hext k hg (ρ:=ρ) hr a1 a2 hp;exact⟨hd1,iM hgd he (λ h=>by cases h) (λ _=>hk2)⟩
            · cases hg
          · cases hg
    · rename_i hi
      try simp only[hi]
      split at hg
      · rename_i hrd
        cases hg
        try simp only[hrd]
        exact⟨trivial,ρ,Ext.refl _,hr,he,hN⟩
      · rename_i i is hrd
        try simp only[hrd]
        split at hg
        · cases hg
        · rename_i hne
          cases hsm:qg (yC P call ext N ops listed pa e h (cond multi (yQ c0 i) n) n multi i (dZ P call ext N ops multi c0 k)) (is.map λ j=>yC P call ext N ops listed pa e h (cond multi (yQ c0 j) n) n multi j (dZ P call ext N ops multi c0 k)) with
          | false=>rw[hsm] at hg; cases hg
          | true =>
            rw[hsm] at hg;simp only[cond_true] at hg;obtain⟨hd1,hw1⟩:=way rfl hg;refine⟨hd1,Bn λ p hp'=>?_⟩;obtain⟨j,hj,rfl⟩:=List.mem_map.1 hp';rcases List.mem_cons.1 hj with rfl | hj
            · exact hw1
            · have hb:=vX hsm _ (List.mem_map.2 ⟨j,hj,rfl⟩);rw[hg] at hb;generalize hgj:yC P call ext N ops listed pa e h (cond multi (yQ c0 j) n) n multi j (dZ P call ext N ops multi c0 k)=sj at hb
              cases sj with
              | no=>simp[Mv] at hb
              | ok ej dj hj' nj =>
                simp only[Mv] at hb;obtain⟨b1,b2⟩:=gj hb;have e1:=Tr.beq_eq (λ h=>Bt h) b1;have e2:=Tr.beq_eq (λ h=>Mu h) b2;subst e1 e2;exact(way hgj rfl).2
end Go.Gx
