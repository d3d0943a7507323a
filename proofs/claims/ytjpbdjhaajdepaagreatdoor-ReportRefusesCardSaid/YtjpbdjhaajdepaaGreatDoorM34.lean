import Derived.Test.YtjpbdjhaajdepaaGreatDoorM33
set_option linter.unusedVariables false
set_option maxRecDepth 100000
noncomputable section
namespace Go.Gx
open Go Go.Vc
def Mn(e:Tr AV):Option Operand->Option (Option AV)
  | none=>some none
  | some x=>match eW e x with
    | some a=>some (some a)
    | none=>none
theorem Gg{ρ:Names}{e:Tr AV}{t:Tm}(he:dP ρ e t){x:Option Operand}{r:Option AV}(h:Mn e x=some r):(∀ a,r=some a->∃ v,x.map (ev t)=some v/\rv ρ a=some v)/\(r=none->x.map (ev t)=none):=by
  cases x with
  | none=>cases h; exact⟨λ a h=>(by cases h),λ _=>rfl⟩
  | some x =>
    simp only[Mn] at h
    cases ha:eW e x with
    | none=>rw[ha] at h; cases h
    | some a =>
      rw[ha] at h
      cases h
      exact⟨λ b hb=>by cases hb; exact⟨_,rfl,aW he ha⟩,λ h=>(by cases h)⟩
def EN(P:Program)(o:Oper)(e:Tr AV):Option AV:=match o.op with
  | .move x=>eW e x
  | .assign x=>eW e x
  | .pick c a b=>match eW e c with
    | some (.bool x)=>eW e (cond x a b)
    | _=>none
  | .nilCheck x=>match eW e x with
    | some (.ptr i j)=>some (.ptr i j)
    | _=>none
  | .convert src dst x=>match P.underlying src,P.underlying dst,eW e x with
    | some _,some (.int k),some (.int _ n)=>some (BS k (iu k n))
    | some .string,some .string,some (.str s)=>some (.str s)
    | _,_,_=>none
  | .fieldAddr ty x f=>match Ig P ty f,eW e x with
    | some off,some (.ptr i j)=>some (.ptr i (Nat.add j off))
    | _,_=>none
  | .field ty x f=>match eW e x with
    | some a=>Kb P ty a f
    | none=>none
  | .extract x i=>match eW e x with
    | some (.tup vs)=>nP vs i
    | _=>none
  | .makeInterface ty x=>match P.underlying ty,eW e x with
    | some (.interface _),_=>none
    | some _,some a=>some (.iface ty a)
    | _,_=>none
  | .makeFunc fn first cap=>match fn,kG e first.toList,kG e cap.toList with
    | .func f,some xs,some ys=>some (.fn f xs ys)
    | _,_,_=>none
  | .unOp op _ x=>match op,eW e x with
    | .not,some (.bool b)=>some (.bool (not b))
    | .neg,some (.int k n)=>some (BS k (iu k (Int.sub 0 n)))
    | _,_=>none
  | .binOp op ty x y _=>match eW e x,eW e y with
    | some a,some b=>Ic P op ty x y a b
    | _,_=>none
  | .index ty x i=>match eW e x,eW e i with
    | some a,some b=>Kc P ty a b
    | _,_=>none
  | .indexAddr ty x i=>match eW e x,eW e i with
    | some a,some b=>Kf P ty a b
    | _,_=>none
  | .slice ty x lo hi none=>match eW e x,Mn e lo,Mn e hi with
    | some a,some l,some h=>QJ P ty a l h
    | _,_,_=>none
  | .build ty ps=>match wv e ps.toList with
    | some ps=>J8 P ty ps
    | none=>none
  | .call { callee:=.builtin .len,args:=args,argTypes:=tys }=>match args.toList,tys[0]? with
    | [x],some ty=>match eW e x with
      | some a=>Ie P ty a
      | none=>none
    | _,_=>none
  | .call { callee:=.builtin .min,args:=args,argTypes:=_ }=>match kG e args.toList with
    | some (a :: l)=>SO false a l
    | _=>none
  | .call { callee:=.builtin .max,args:=args,argTypes:=_ }=>match kG e args.toList with
    | some (a :: l)=>SO true a l
    | _=>none
  | .call { callee:=.builtin .cap,args:=args,argTypes:=tys }=>match args.toList,tys[0]? with
    | [x],some ty=>match eW e x,P.underlying ty with
      | some .nils,some (.slice _)=>some (.int .i64 (.ofNat 0))
      | _,_=>none
    | _,_=>none
  | _=>none
theorem Ox{ρ:Names}{v:Value}(h:rv ρ .nils=some v):v=.slice none 0 0:=(Option.some.inj h).symm
theorem Kl{P:Program}{ρ:Names}{o:Oper}{e:Tr AV}{t:Tm}{a:AV}(h:EN P o e=some a)(he:dP ρ e t) :
    ∃ v,rv ρ a=some v/\∀ w,(execOp (ev t) o).run P w=.ok (.value v) w:=by
  have lift:∀ {s:Sem Value},(execOp (ev t) o=do pure (.value (<- s)))->iP P ρ s a->∃ v,rv ρ a=some v/\∀ w,(execOp (ev t) o).run P w=.ok (.value v) w:=λ {s} hs hp=>by
    obtain⟨v,h1,h2⟩:=hp;exact⟨v,h1,λ w=>by rw[hs]; simp only[Sem.run_bind,h2,Result.andThen_ok,Sem.run_pure]⟩
  unfold EN at h
  split at h
  · rename_i x hx;exact⟨_,aW he h,λ w=>by simp[execOp,hx]⟩
  · rename_i x hx;exact⟨_,aW he h,λ w=>by simp[execOp,hx]⟩
  · rename_i c x y hx
    split at h
    · rename_i b hc;have hcv:ev t c=.bool b:=fK (aW he hc);refine⟨_,aW he h,λ w=>?_⟩
      cases b<;>simp[execOp,hx,hcv,asBool]
    · cases h
  · rename_i x hx
    split at h
    · rename_i i j ha
      cases h
      have hv:=aW he ha;obtain⟨L,hL,hv'⟩:=fL hv;exact⟨_,hv,λ w=>by simp[execOp,hx,hv']⟩
    · cases h
  · rename_i src dst x hx
    split at h
    · rename_i d k k' n hs hd ha
      cases h
      have hv:ev t x=.int k' n:=bX (aW he ha);exact⟨_,by rw[eG]; rfl,λ w=>by simp[execOp,hx,hv,convert,aE hs,aE hd,Conv.intToInt,dD]⟩
    · rename_i s hs hd ha
      cases h
      have hv:=aW he ha;have hv':=fM hv;exact⟨_,hv,λ w=>by simp[execOp,hx,hv',convert,aE hs,aE hd]⟩
    · cases h
  · rename_i ty x f hx
    split at h
    · rename_i off i j ho ha
      cases h
      obtain⟨L,hL,hv⟩:=fL (aW he ha);refine lift (s:=Instr.fieldAt ty (ev t x) f) (by simp[execOp,hx]) ⟨.pointer (some ⟨L.b,j+off,none⟩),by simp only[rv,hL,Option.map_some]; rfl,λ w=>by rw[hv]; exact Nw ho w⟩
    · cases h
  · rename_i ty x f hx
    split at h
    · rename_i a' ha;exact lift (s:=Instr.field ty (ev t x) f) (by simp[execOp,hx]) (No h (aW he ha))
    · cases h
  · rename_i x i hx
    split at h
    · rename_i vs ha;obtain⟨us,hus,hv⟩:=FP (aW he ha);rw[xk] at h;obtain⟨u,h1,h2⟩:=tP hus h;exact lift (s:=Instr.extract (ev t x) i) (by simp[execOp,hx]) ⟨u,h2,λ w=>by rw[hv]; simp[Instr.extract,h1]⟩
    · cases h
  · rename_i ty x hx
    split at h
    · cases h
    · rename_i d a' hni hu ha
      cases h
      refine lift (s:=Instr.makeInterface ty (ev t x)) (by simp[execOp,hx]) ⟨.iface ty (ev t x),by simp only[rv,aW he ha,Option.map_some],λ w=>?_⟩;simp only[Instr.makeInterface,Sem.run_bind,aE hu,Result.andThen_ok]
      cases d<;>first | rfl | exact absurd rfl (hni _)
    · cases h
  · rename_i fn first cap hx
    split at h
    · rename_i f xs ys h1 h2
      cases h
      have g1:=fu he h1;have g2:=fu he h2;refine lift (s:=Instr.makeFunc (.func f) (first.map (ev t)) (cap.map (ev t))) (by simp[execOp,hx]) ⟨.func (.func f) (first.toList.map (ev t)).toArray (cap.toList.map (ev t)).toArray,by simp only[rv,g1,g2],λ w=>?_⟩;have e1:first.map (ev t)=(first.toList.map (ev t)).toArray:=Array.ext' (by rw[Array.toList_map])
      have e2:cap.map (ev t)=(cap.toList.map (ev t)).toArray:=Array.ext' (by rw[Array.toList_map]);simp only[Instr.makeFunc,Sem.run_pure,e1,e2]
    · cases h
  · rename_i op ty x hx
    split at h
    · rename_i b ha
      cases h
      have hv:ev t x=.bool b:=fK (aW he ha);exact lift (s:=Op.unary .not (ev t x)) (by simp[execOp,hx]) ⟨_,rfl,λ w=>by simp[hv,Op.unary]⟩
    · rename_i k n ha
      cases h
      have hv:ev t x=.int k n:=bX (aW he ha);exact lift (s:=Op.unary .neg (ev t x)) (by simp[execOp,hx]) ⟨_,by rw[eG]; rfl,λ w=>by rw[hv,dD]; rfl⟩
    · cases h
  · rename_i op ty x y yt hx
    split at h
    · rename_i a' b' ha hb;exact lift (s:=do eqGuard op ty x y (ev t x) (ev t y); binOp op ty (ev t x) (ev t y)) (by simp only[execOp,hx]) (Nf h (aW he ha) (aW he hb))
    · cases h
  · rename_i ty x i hx
    split at h
    · rename_i a' b' ha hb;exact lift (s:=Instr.index ty (ev t x) (ev t i)) (by simp[execOp,hx]) (Np h (aW he ha) (aW he hb))
    · cases h
  · rename_i ty x i hx
    split at h
    · rename_i a' b' ha hb;exact lift (s:=Instr.indexAt ty (ev t x) (ev t i)) (by simp[execOp,hx]) (Nr h (aW he ha) (aW he hb))
    · cases h
  · rename_i ty x lo hi hx
    split at h
    · rename_i a' l' h' ha hl hh;obtain⟨l1,l2⟩:=Gg he hl;obtain⟨h1,h2⟩:=Gg he hh;exact lift (s:=Instr.sliceAt ty (ev t x) (lo.map (ev t)) (hi.map (ev t)) none) (by simp[execOp,hx]) (Nz h (aW he ha) l1 l2 h1 h2)
    · cases h
  · rename_i ty ps hx
    split at h
    · rename_i az hps;have hp:=Bk he hps;refine lift (s:=Instr.build ty (ps.map λ (i,x)=>(i,ev t x))) (by simp[execOp,hx]) (Ng h ?_);simpa using hp
    · cases h
  · rename_i args tys hx
    split at h
    · rename_i x ty hargs ht
      split at h
      · rename_i a' ha;refine lift (s:=Builtin.len_ tys o.type #[ev t x]) ?_ (Ns h (aW he ha) ht);have:args.map (ev t) = #[ev t x]:=by
          have:args = #[x]:=by rw[<- hargs]
          rw[this]; simp
        simp[execOp,hx,resolve,invoke,builtin,this]
      · cases h
    · cases h
  · rename_i args tys hx
    split at h
    · rename_i a' l hl;have hv:=fu he hl;obtain⟨u,us,hm,h1,h2⟩:=aL hv;obtain⟨r,g1,g2⟩:=Fi (P:=P) h h1 h2;refine lift (s:=Builtin.min_ tys o.type (args.map (ev t))) (by simp[execOp,hx,resolve,invoke,builtin]) ⟨r,g1,λ w=>?_⟩;have:(args.map (ev t)).toList=u :: us:=by simpa using hm
      simp only[Builtin.min_,this];exact g2 w
    · cases h
  · rename_i args tys hx
    split at h
    · rename_i a' l hl;have hv:=fu he hl;obtain⟨u,us,hm,h1,h2⟩:=aL hv;obtain⟨r,g1,g2⟩:=Fi (P:=P) h h1 h2;refine lift (s:=Builtin.max_ tys o.type (args.map (ev t))) (by simp[execOp,hx,resolve,invoke,builtin]) ⟨r,g1,λ w=>?_⟩;have:(args.map (ev t)).toList=u :: us:=by simpa using hm
      simp only[Builtin.max_,this];exact g2 w
    · cases h
  · rename_i args tys hx
    split at h
    · rename_i x ty hargs ht
      split at h
      · rename_i e' ha hu
        cases h
        refine lift (s:=Builtin.cap_ tys o.type #[.slice none 0 0]) ?_ ⟨_,rfl,λ w=>by simp[Builtin.cap_,ht,aE hu,goInt]⟩;have:args.map (ev t) = #[ev t x]:=by
          have:args = #[x]:=by rw[<- hargs]
          rw[this]; simp
        simp[execOp,hx,resolve,invoke,builtin,this,Ox (aW he ha)]
      · cases h
    · cases h
  · cases h
structure ER where
  i:Nat
  o:Nat
  vs:List AV
def mg(ρ:Names)(d:ER):World->Prop:=λ w=>∃ L vs,ρ d.i=some L/\dH ρ d.vs=some vs/\af w ⟨L.b,d.o,none⟩ 0 vs
def cE(h:AH)(i o n:Nat):Option (List AV):=match h.get i with
  | some (some ao)=>cond (Nat.ble (Nat.add o n) ao.cells.length) (some ((ao.cells.drop o).take n)) none
  | _=>none
theorem gu{w0 w:World}{ρ:Names}{h:AH}(hr:fk w0 w ρ h){i o n:Nat}{az:List AV}(hc:cE h i o n=some az) :
    ∃ L vs,ρ i=some L/\dH ρ az=some vs/\vs.length=n/\af w ⟨L.b,o,none⟩ 0 vs:=by
  unfold cE at hc
  split at hc
  · rename_i ao hi
    cases hb:Nat.ble (Nat.add o n) ao.cells.length with
    | false=>rw[hb] at hc; cases hc
    | true =>
      rw[hb] at hc
      cases hc
      have hle:o+n<=ao.cells.length:=Nat.le_of_ble_eq_true hb;obtain⟨L,cur,vs,hl⟩:=hr.live i ao hi;have hv:=o9 n (zb o hl.val);refine⟨L,_,hl.at_,hv,?_,bz _ 0 λ j u hj=>?_⟩
      · have:=bt hl.val
        simp; omega
      · rw[List.getElem?_take] at hj
        split at hj
        · rw[List.getElem?_drop] at hj;have ha:∃ a,ao.cells[o+j]? = some a:=⟨ao.cells[o+j]'(by omega),by simp[show o+j<ao.cells.length by omega]⟩;obtain⟨a,ha⟩:=ha;obtain⟨v,hv1,hv2⟩:=tP hl.val ha;rw[hv1] at hj;have hj:v=u:=Option.some.inj hj;subst hj;obtain⟨v',hv',hcell⟩:=hl.cell ha;have:v' = v:=Option.some.inj (hv'.symm.trans hv2);subst this;have e:(⟨L.b,o,none⟩:Addr).add (0+j)=⟨L.b,o+j,none⟩:=by rw[aV]; congr 1; omega
          rw[e];exact hcell
        · cases hj
  · cases hc
def PL(P:Program)(ty:TypeId):Option (Nat×Bool):=match P.underlying ty,cZ P ty with
  | some d,some n=>cond (uM d) (some (n,true)) (some (1,false))
  | _,_=>none
def K1(b:Bool)(az:List AV):Option AV:=match b,az with
  | true,az=>some (.agg az)
  | false,[a]=>some a
  | false,_=>none
def QH(P:Program)(ty:TypeId)(a:AV)(h:AH):Option (AV×List ER):=match a,PL P ty with
  | .ptr i o,some (n,b)=>match cE h i o n with
    | some az=>match K1 b az with
      | some r=>some (r,[⟨i,o,az⟩])
      | none=>none
    | none=>none
  | _,_=>none
theorem Kg{P:Program}{ty:TypeId}{a r:AV}{h:AH}{ds:List ER}(hg:QH P ty a h=some (r,ds)){w0 w:World}{ρ:Names}(hr:fk w0 w ρ h){va:Value}(ha:rv ρ a=some va) :
    ∃ v,rv ρ r=some v/\holds (ds.map (mg ρ)) w/\∀ w',holds (ds.map (mg ρ)) w'->(Instr.loadAt ty va).run P w' = .ok v w':=by
  unfold QH at hg
  split at hg
  · rename_i i o n b hs
    split at hg
    · rename_i az hc
      split at hg
      · rename_i r' hp
        cases hg
        obtain⟨L,hL,rfl⟩:=fL ha;obtain⟨L',vs,hL',hvs,hlen,hat⟩:=gu hr hc;obtain rfl:L=L':=Option.some.inj (hL.symm.trans hL');have hT:holds (([⟨i,o,az⟩]:List ER).map (mg ρ)) w:=λ f hf=>by
          simp at hf; subst hf;exact⟨L,vs,hL,hvs,hat⟩
        have hfact:∀ w',holds (([⟨i,o,az⟩]:List ER).map (mg ρ)) w'->af w' ⟨L.b,o,none⟩ 0 vs:=by
          intro w' hw';obtain⟨L2,vs2,h1,h2,h3⟩:=hw' (mg ρ ⟨i,o,az⟩) (List.mem_cons_self ..);obtain rfl:L=L2:=Option.some.inj (hL.symm.trans h1);obtain rfl:vs=vs2:=Option.some.inj (hvs.symm.trans h2);exact h3
        unfold PL at hs
        split at hs
        · rename_i d n' hu hsz
          cases hd:uM d with
          | false =>
            rw[hd] at hs
            cases hs
            have hag:∀ w,(isAgg ty).run P w=.ok false w:=λ w=>by cases d<;>first | (cases hd; done) | simp[isAgg,aE hu]
            unfold K1 at hp
            split at hp
            · rename_i heq; cases heq
            · rename_i a0
              cases hp
              obtain⟨v0,us,rfl,hv0,hu'⟩:=aL hvs
              cases hu'
              refine⟨v0,hv0,hT,λ w' hw'=>?_⟩;have h3:=(hfact w' hw').1;have h3:w'.cell? ⟨L.b,o,none⟩=some v0:=by simpa[Addr.add] using h3
              simp[Instr.loadAt,Instr.sureAddr,loadVar,hag,h3]
            · cases hp
          | true =>
            rw[hd] at hs
            cases hs
            have hag:∀ w,(isAgg ty).run P w=.ok true w:=λ w=>by cases d<;>first | (cases hd; done) | simp[isAgg,aE hu]
            unfold K1 at hp
            split at hp
            · cases hp
              refine⟨.agg vs.toArray,by simp only[rv,hvs,Option.map_some],hT,λ w' hw'=>?_⟩;have h3:=hfact w' hw';have hn:cZ P ty=some vs.length:=by rw[hlen]; exact hsz
              simp only[Instr.loadAt,Instr.sureAddr,loadVar,Sem.run_bind,Sem.run_pure,Result.andThen_ok,hag,if_true,bO hn,loadCells,p4 vs 0 _ h3]
              simp
            · rename_i heq; cases heq
            · rename_i heq _; cases heq
        · cases hs
      · cases hg
    · cases hg
  · cases hg
def Ny(P:Program)(o:Oper)(e:Tr AV)(h:AH):Option (AV×List ER):=match o.op with
  | .load ty x=>match eW e x with
    | some a=>QH P ty a h
    | none=>none
  | _=>match EN P o e with
    | some a=>some (a,[])
    | none=>none
theorem Km{P:Program}{o:Oper}{e:Tr AV}{h:AH}{a:AV}{ds:List ER}(hg:Ny P o e h=some (a,ds)){w0 w:World}{ρ:Names}(hr:fk w0 w ρ h){t:Tm}(he:dP ρ e t) :
    ∃ v,rv ρ a=some v/\holds (ds.map (mg ρ)) w/\∀ w',holds (ds.map (mg ρ)) w'->(execOp (ev t) o).run P w' = .ok (.value v) w':=by
  unfold Ny at hg
  split at hg
  · rename_i ty x hx
    split at hg
    · rename_i a' ha;obtain⟨v,h1,h2,h3⟩:=Kg hg hr (aW he ha);exact⟨v,h1,h2,λ w' hw'=>by simp[execOp,hx,h3 w' hw']⟩
    · cases hg
  · split at hg
    · rename_i a' ha
      cases hg
      obtain⟨v,h1,h2⟩:=Kl ha he;exact⟨v,h1,λ f hf=>(by cases hf),λ w' _=>h2 w'⟩
    · cases hg
def xD(P:Program)(w0 w:World)(ρ:Names)(s:Sem Value)(a:AV)(h' : AH):Prop :=
  ∃ v w' ρ',s.run P w=.ok v w'/\Ext ρ ρ'/\fk w0 w' ρ' h'/\rv ρ' a=some v
def one:AV->Bool
  | .agg _=>false
  | .tup _=>false
  | _=>true
theorem Ri{ρ:Names}{a:AV}{v:Value}(h1:one a=true)(h:rv ρ a=some v):v.oneCell' = true:=by
  cases a with
  | agg cs=>cases h1
  | tup cs=>cases h1
  | int k n=>cases bX h; rfl
  | bool b=>cases fK h; rfl
  | str l=>cases fM h; rfl
  | nilp=>cases h; rfl
  | nils=>cases h; rfl
  | nili=>cases h; rfl
  | nilf=>cases h; rfl
  | ptr i o=>obtain⟨L,hL,rfl⟩:=fL h; rfl
  | sli i o l z=>obtain⟨L,hL,_,_,rfl⟩:=cY h; rfl
  | iface T x =>
    simp only[rv,Option.map_eq_some_iff] at h;obtain⟨u,_,rfl⟩:=h;rfl
  | fn f x y =>
    simp only[rv] at h
    split at h
    · cases h; rfl
    · cases h
  | yld i =>
    simp only[rv,Option.map_eq_some_iff] at h;obtain⟨u,_,rfl⟩:=h;rfl
def Ca:List AV->Bool
  | []=>true
  | a :: l=>cond (one a) (Ca l) false
theorem xw{ρ:Names}:∀ {l:List AV} {vs:List Value},Ca l=true->dH ρ l=some vs->∀ v∈vs,v.oneCell' = true
  | [],_,_,h=>by cases h; simp
  | a :: l,vs,h1,h=>by
    obtain⟨v,us,rfl,g1,g2⟩:=aL h;unfold Ca at h1
    cases ha:one a with
    | false=>rw[ha] at h1; cases h1
    | true =>
      rw[ha] at h1;intro u hu;rcases List.mem_cons.1 hu with rfl | hu
      · exact Ri ha g1
      · exact xw h1 g2 u hu
def Ii(P:Program)(ty:TypeId)(p a:AV)(h:AH):Option AH:=match p,cZ P ty with
  | .ptr i o,some sz=>match h.get i with
    | some (some ao)=>cond (Nat.beq (bW a).length sz&&Nat.ble (Nat.add o sz) ao.cells.length&&Ca (bW a)&&not ao.ro) (some (h.put i (some ⟨ao.T,setAt ao.cells o (bW a),ao.ro⟩))) none
    | _=>none
  | _,_=>none
theorem NA{P:Program}{ty:TypeId}{p a:AV}{h h' : AH}(hg:Ii P ty p a h=some h'){w0 w:World}{ρ:Names}(hr:fk w0 w ρ h){vp va:Value}(hp:rv ρ p=some vp)(ha:rv ρ a=some va) :
    ∃ w',(Instr.storeAt ty vp va).run P w=.ok () w'/\fk w0 w' ρ h':=by
  unfold Ii at hg
  split at hg
  · rename_i i o sz hsz
    split at hg
    · rename_i ao hi
      cases hb:(Nat.beq (bW a).length sz&&Nat.ble (Nat.add o sz) ao.cells.length&&Ca (bW a)&&not ao.ro) with
      | false=>rw[hb] at hg; cases hg
      | true =>
        rw[hb] at hg
        cases hg
        simp only[Bool.and_eq_true] at hb;obtain⟨⟨⟨h1,h2⟩,h3⟩,hro⟩:=hb;have hro:ao.ro=false:=by cases hq:ao.ro with
          | false=>rfl
          | true=>rw[hq] at hro; cases hro
        have h1:=beq_iff.1 h1;have h2:o+sz<=ao.cells.length:=Nat.le_of_ble_eq_true h2;obtain⟨L,hL,rfl⟩:=fL hp;obtain⟨L1,cur,vs,hl⟩:=hr.live i ao hi;obtain rfl:L=L1:=Option.some.inj (hL.symm.trans hl.at_);obtain⟨fz,hblk,hfz⟩:=hl.blk;obtain rfl:=hfz hro;have hc:=iL ha;have hcl:=bt hc;have hvl:=bt hl.val;have hone:=xw h3 hc;have hcs:va.cells.toList.length=sz:=by rw[hcl,h1]
        have hcur:vs.length<=cur.toList.length:=by rw[<- hl.here]; simp; omega
        have hfit:o+0+va.cells.toList.length<=cur.size:=by simp at hcur; omega
        refine⟨_,?_,hr.rewrite hi hL (w':=w.setRow L.b (setAt cur.toList o va.cells.toList).toArray) (cells:=setAt ao.cells o (bW a)) (cur':=(setAt cur.toList o va.cells.toList).toArray) (vs':=setAt vs o va.cells.toList) ?_ ?_ (lF o hl.val hc) ?_ ?_⟩
        · have hno : ¬ va.cells.size≠sz:=by simp at hcs; simp[hcs]
          simp only[Instr.storeAt,Instr.sureAddr,storeVar,Sem.run_bind,Sem.run_pure,Result.andThen_ok,bO hsz,if_neg hno];rw[run_storeCells_at (P:=P) L.b o ao.T va.cells.toList 0 cur w hblk hfit hone];rw[tT _ _ _ (by simpa using hfit)]
          simp
        · exact⟨by simp[World.setRow],λ k _ hn=>setRow_other w L.b k _ (by simpa using hn),⟨rfl,rfl,rfl⟩⟩
        · exact setRow_heap w L.b cur _ ao.T _ hblk
        · rw[cQ,mG _ _ _ _ (by omega)];rw[hl.here]
        · simp only[List.size_toArray,cQ];simpa using hl.room
    · cases hg
  · cases hg
def DB(T:TypeId)(a:AV)(h:AH)(n:Nat):Option (AV×AH):=match h.get n with
  | none=>some (.ptr n 0,h.put n (some ⟨T,bW a,false⟩))
  | some _=>none
theorem GF{P:Program}{T:TypeId}{a r:AV}{h h' : AH}{n:Nat}(hg:DB T a h n=some (r,h')){w0 w:World}{ρ:Names}(hr:fk w0 w ρ h){va:Value}(ha:rv ρ a=some va) :
    xD P w0 w ρ (do pure (.pointer (some (<- newVar T va)))) r h':=by
  unfold DB at hg
  split at hg
  · rename_i hn
    cases hg
    have hc:=iL ha;have:=hr.alloc hn (T:=T) hc (esz:=va.cells.toList.length) (tot:=1) (by simp) (by simp[maxLen]);refine⟨_,_,_,?_,Ext.dK (bR hr hn),this,by simp only[rv,dK,if_true,Option.map_some]; rfl⟩;simp[newVar,newRow,newObj];rfl
  · cases hg
def rN{α:Type}:Nat->List α->List α
  | 0,_=>[]
  | n+1,l=>l++rN n l
theorem oZ{α:Type}(l:List α):∀ n,(rN n l).length=n*l.length
  | 0=>by simp[rN]
  | n+1=>by simp[rN,oZ l n,Nat.add_mul]; omega
theorem Ej{α:Type}[Inhabited α](l:List α):∀ (n i:Nat),i<n*l.length->(rN n l)[i]? = some (l.toArray[i%l.length]!)
  | 0,i,h=>by simp at h
  | n+1,i,h=>by
    unfold rN
    by_cases hi:i<l.length
    · rw[List.getElem?_append_left hi,Nat.mod_eq_of_lt hi];simp[hi]
    · rw[List.getElem?_append_right (by omega)];have hn:(n+1)*l.length=n*l.length+l.length:=by rw[Nat.add_mul,Nat.one_mul]
      rw[hn] at h;rw[Ej l n (i-l.length) (by omega)];have:i%l.length=(i-l.length)%l.length:=Nat.mod_eq_sub_mod (by omega);rw[this]
theorem AT(z:Array Value)(n:Nat):(rN n z.toList)=(madeCells z (n*z.size)).toList:=by
  apply List.ext_getElem?;intro i
  by_cases hi:i<n*z.size
  · rw[Ej z.toList n i (by simpa using hi)];simp[madeCells,hi]
  · have h1:(rN n z.toList).length<=i:=by rw[oZ]; simpa using hi
    have h2:(madeCells z (n*z.size)).toList.length<=i:=by simpa[size_madeCells] using hi
    rw[List.getElem?_eq_none h1,List.getElem?_eq_none h2]
theorem y5{ρ:Names}{l:List AV}{vs:List Value}(h:dH ρ l=some vs):∀ n,dH ρ (rN n l)=some (rN n vs)
  | 0=>rfl
  | n+1=>jZ h (y5 h n)
def yg(P:Program)(t:TypeId):Option (TypeId×Nat×Nat×List AV):=match P.underlying t with
  | some (.slice e)=>match P.info? e,wm P e with
    | some i,some z=>cond (Nat.beq (bW z).length i.size&&Nat.ble 1 i.size) (some (e,i.size,i.bytes,bW z)) none
    | _,_=>none
  | _=>none
structure PY (P:Program) (t e:TypeId) (sz by_:Nat) (zs:List AV):Prop where
  slT:∃ z,fZ P t e z sz by_/\∀ ρ,dH ρ zs=some z.cells.toList
theorem oB{P:Program}{t e:TypeId}{sz by_:Nat}{zs:List AV}(h:yg P t=some (e,sz,by_,zs)):PY P t e sz by_ zs:=by
  unfold yg at h
  split at h
  · rename_i e' hu
    split at h
    · rename_i i z hi hz
      cases hb:(Nat.beq (bW z).length i.size&&Nat.ble 1 i.size) with
      | false=>rw[hb] at h; cases h
      | true =>
        rw[hb] at h
        cases h
        simp only[Bool.and_eq_true] at hb;have h1:=beq_iff.1 hb.1;have h2:=Nat.le_of_ble_eq_true hb.2;obtain⟨v,hv,⟨i',hi',hz'⟩,_⟩:=uk hz (λ _=>none);obtain rfl:i=i':=Option.some.inj (hi.symm.trans hi');have hlen:=bt (iL hv);refine⟨v,⟨hu,⟨i,hi,hz',rfl,rfl⟩,by rw[<- h1,<- hlen]; simp,h2⟩,λ ρ=>?_⟩;obtain⟨v2,hv2,⟨i2,hi2,hz2⟩,_⟩:=uk hz ρ;obtain rfl:i=i2:=Option.some.inj (hi.symm.trans hi2);obtain rfl:v=v2:=Option.some.inj (hz'.symm.trans hz2);exact iL hv2
    · cases h
  · cases h
def J9(P:Program)(ty:TypeId)(len:Nat)(ps:List (Nat×AV))(h:AH)(n:Nat):Option (AV×AH):=match yg P ty,h.get n with
  | some (e,sz,_,zs),none=>match vA (λ i=>some (Nat.mul i sz,sz)) (rN len zs) ps with
    | some cells=>cond (Nat.ble (Nat.mul len sz) 16777216) (some (.sli n 0 len sz,h.put n (some ⟨e,cells,false⟩))) none
    | none=>none
  | _,_=>none
theorem Ni{P:Program}{ty:TypeId}{len n:Nat}{ps:List (Nat×AV)}{qs:Array (Nat×Value)}{h h' : AH}{r:AV}(hg:J9 P ty len ps h n=some (r,h')){w0 w:World}{ρ:Names}(hr:fk w0 w ρ h)(hp:yW ρ ps qs.toList) :
    xD P w0 w ρ (Instr.buildSlice ty len qs) r h':=by
  unfold J9 at hg
  split at hg
  · rename_i e sz by_ zs he hn
    split at hg
    · rename_i cells hf
      cases hb:Nat.ble (Nat.mul len sz) 16777216 with
      | false=>rw[hb] at hg; cases hg
      | true =>
        rw[hb] at hg
        cases hg
        have hle:len*sz<=16777216:=Nat.le_of_ble_eq_true hb;obtain⟨z,hT,hzs⟩:=(oB he).slT;obtain⟨i,hi,hz,hs,hby⟩:=hT.i;have hzl:z.cells.toList.length=sz:=by simpa using hT.zc
        obtain⟨us,h1,h2⟩:=sA hf (y5 (hzs ρ) len) hp;have hlen:us.length=len*sz:=by
          have a1:=bt h1;have:∀ {ps:List (Nat×AV)} {c res:List AV},vA (λ i=>some (Nat.mul i sz,sz)) c ps=some res->res.length=c.length:=by
            intro ps
            induction ps with
            | nil=>intro c res hh; cases hh; rfl
            | cons p ps ih =>
              intro c res hh;obtain⟨j,v⟩:=p;simp only[vA] at hh
              cases hb2:(Nat.beq (bW v).length sz&&Nat.ble (Nat.add (Nat.mul j sz) (bW v).length) c.length) with
              | false=>rw[hb2] at hh; cases hh
              | true=>rw[hb2] at hh; rw[ih hh,cQ]
          have a2:=this hf;have a3:=bt (hzs ρ);rw[a1,a2,oZ,<- a3,hzl]
        have hal:=hr.alloc hn (T:=e) h1 (esz:=sz) (tot:=len) hlen.symm (by unfold maxLen; have:len<=len*sz:=Nat.le_mul_of_pos_right _ hT.pos; omega);refine⟨.slice (some ⟨w.heap.size,0,none⟩) len len,_,_,?_,Ext.dK (bR hr hn),hal,?_⟩
        · have hsz:cZ P e=some sz:=by simp[cZ,hi,hs]
          have hno : ¬ (len*sz>2 ^ 24):=by simpa using hle
          have hzv:∀ w,(zeroValue e).run P w=.ok z w:=λ w=>by simp[zeroValue,typeInfo,hi,hz]
          have hfill:∀ zz:Array Value,(len*sz=0\/zz=z.cells)->Instr.fill (λ i=>some (i*sz,sz)) ((Array.range (len*sz)).map (zz[· % zz.size]!)) qs.toList=some us.toArray:=by
            intro zz hzz;have hm:(Array.range (len*sz)).map (zz[· % zz.size]!)=(rN len z.cells.toList).toArray:=by
              rcases hzz with h0 | rfl
              · have hl0:len=0:=by
                  rcases Nat.mul_eq_zero.1 h0 with h | h
                  · exact h
                  · have:=hT.pos; omega
                subst hl0;simp[rN]
              · have hrm:=AT z.cells len;have hzz:z.cells.size=sz:=hT.zc;rw[hrm,Array.toArray_toList];unfold madeCells;rw[hzz]
            rw[hm];exact h2
          have hnew:∀ c:Array Value,(newRow e c).run P w=.ok (⟨w.heap.size,0,none⟩:Addr) (w.alloc (.cells c e)):=λ c=>by simp[newRow,newObj]; rfl
          by_cases h0:len*sz=0
          · have h5:=hfill #[] (.inl h0);simp only[Instr.buildSlice,Sem.run_bind,aE hT.u,bO hsz,Result.andThen_ok,if_neg hno,if_pos h0,Sem.run_pure,h5,hnew]
          · have h5:=hfill z.cells (.inr rfl);simp only[Instr.buildSlice,Sem.run_bind,aE hT.u,bO hsz,Result.andThen_ok,if_neg hno,if_neg h0,Sem.run_pure,hzv,h5,hnew]
        · simp[rv,dK]
    · cases hg
  · cases hg
def QI(P:Program)(ty:TypeId)(l c:AV)(h:AH)(n:Nat):Option (AV×AH):=match l,c,yg P ty,h.get n with
  | .int _ (.ofNat l),.int _ (.ofNat c),some (e,sz,by_,zs),none =>
    cond (Nat.ble l c&&Nat.ble (Nat.mul by_ c) 281474976710656&&Nat.ble c 9223372036854775807) (some (.sli n 0 l sz,h.put n (some ⟨e,rN c zs,false⟩))) none
  | _,_,_,_=>none
theorem Nt{P:Program}{ty:TypeId}{l c r:AV}{h h' : AH}{n:Nat}(hg:QI P ty l c h n=some (r,h')){w0 w:World}{ρ:Names}(hr:fk w0 w ρ h){vl vc:Value}(hl:rv ρ l=some vl)(hc:rv ρ c=some vc) :
    xD P w0 w ρ (Instr.makeSlice ty vl vc) r h':=by
  unfold QI at hg
  split at hg
  · rename_i k l k' c e sz by_ zs he hn
    cases hb:(Nat.ble l c&&Nat.ble (Nat.mul by_ c) 281474976710656&&Nat.ble c 9223372036854775807) with
    | false=>rw[hb] at hg; cases hg
    | true =>
      rw[hb] at hg
      cases hg
      cases bX hl; cases bX hc
      simp only[Bool.and_eq_true] at hb;obtain⟨⟨h1,h2⟩,h3⟩:=hb;have h1:=Nat.le_of_ble_eq_true h1;have h2:by_*c<=281474976710656:=Nat.le_of_ble_eq_true h2;have h3:=Nat.le_of_ble_eq_true h3;obtain⟨z,hT,hzs⟩:=(oB he).slT;obtain⟨i,hi,hz,hs,hby⟩:=hT.i;have hrun:=run_make (P:=P) w ty e i z hT.u hi hz k k' (l:Int) (c:Int) (by omega) (by omega) (by rw[hby,<- Int.natCast_mul]; exact Int.ofNat_le.2 h2) (by omega);have hzl:z.cells.size=sz:=hT.zc;have hcells:dH ρ (rN c zs)=some (madeCells z.cells (c*i.size)).toList:=by
        rw[hs,<- hzl,<- AT];exact y5 (hzs ρ) c
      have hal:=hr.alloc hn (T:=e) hcells (esz:=sz) (tot:=c) (by simp[size_madeCells,hs]) h3;refine⟨_,_,_,hrun,Ext.dK (bR hr hn),by simpa using hal,?_⟩;simp[rv,dK,h1]
  · cases hg
def Na(P:Program)(tys:List TypeId)(s x:AV)(h:AH)(n:Nat):Option (AV×AH):=match tys with
  | [t,t']=>cond (Nat.beq t t') (match yg P t with
    | some (e,sz,by_,_)=>match x with
      | .nils=>match s with
        | .nils=>some (.nils,h)
        | .sli i o l z=>some (.sli i o l z,h)
        | _=>none
      | .sli j o m z=>match cE h j (Nat.mul o z) (Nat.mul m z),h.get n with
        | some news,none=>cond (Nat.beq z sz&&Ca news&&Nat.ble 1 m) (match s with
          | .nils=>cond (Nat.ble (Nat.mul m by_) 140737488355328&&Nat.ble m 9223372036854775807) (some (.sli n 0 m sz,h.put n (some ⟨e,news,false⟩))) none
          | .sli i 0 l z'=>match cE h i 0 (Nat.mul l z'),h.get i with
            | some olds,some (some ao)=>cond (Nat.beq z' sz&&not ao.ro&&Nat.beq ao.T e&&Nat.ble (Nat.mul (Nat.add l m) by_) 140737488355328&&Nat.ble (Nat.add l m) 9223372036854775807)
                (some (.sli n 0 (Nat.add l m) sz,(h.put i none).put n (some ⟨e,olds++news,false⟩))) none
            | _,_=>none
          | _=>none) none
        | _,_=>none
      | _=>none
    | none=>none) none
  | _=>none
theorem C5{P:Program}{w:World}{t ty e:TypeId}{z:Value}{sz by_:Nat}(hT:fZ P t e z sz by_){base:OA}{n c:Nat}(hn:n<=c):(Builtin.append_ #[t,t] ty #[.slice base n c,.slice none 0 0]).run P w=.ok (.slice base n c) w:=by
  obtain⟨i,hi,hz,hs,hby⟩:=hT.i;have hsz:cZ P e=some sz:=by simp[cZ,hi,hs]
  have hni:∀ w,(underlying t).run P w=.ok (.slice e) w:=aE hT.u
  cases base with
  | none=>simp[Builtin.append_,hni,bO hsz,Builtin.lenOf,hn,Builtin.firstCells]
  | some a=>simp[Builtin.append_,hni,bO hsz,Builtin.lenOf,hn,Builtin.firstCells,storeCells]
theorem Nb{P:Program}{tys:Array TypeId}{dst:TypeId}{s x r:AV}{h h' : AH}{n:Nat}(hg:Na P tys.toList s x h n=some (r,h')){w0 w:World}{ρ:Names}(hr:fk w0 w ρ h){vs vx:Value}(hs:rv ρ s=some vs)(hx:rv ρ x=some vx) :
    xD P w0 w ρ (Builtin.append_ tys dst #[vs,vx]) r h':=by
  unfold Na at hg
  split at hg
  · rename_i t t' htys
    cases ht:Nat.beq t t' with
    | false=>rw[ht] at hg; cases hg
    | true =>
      rw[ht] at hg;obtain rfl:=beq_iff.1 ht;have htys' : tys = #[t,t]:=by rw[<- htys]
      subst htys';simp only[cond_true] at hg
      split at hg
      · rename_i e sz by_ zs he;obtain⟨z0,hT,hzs⟩:=(oB he).slT
        split at hg
        · cases hx
          split at hg
          · cases hg; cases hs
            exact⟨_,w,ρ,C5 hT (Nat.le_refl _),Ext.refl _,hr,rfl⟩
          · cases hg
            obtain⟨L,hL,hle,hz,rfl⟩:=cY hs;exact⟨_,w,ρ,C5 hT (by omega),Ext.refl _,hr,hs⟩
          · cases hg
        · rename_i j o m z
          split at hg
          · rename_i news hnews hn
            cases hb:(Nat.beq z sz&&Ca news&&Nat.ble 1 m) with
            | false=>rw[hb] at hg; cases hg
            | true =>
              rw[hb] at hg;simp only[cond_true] at hg;simp only[Bool.and_eq_true] at hb;obtain⟨⟨hz1,hones⟩,hm1⟩:=hb;obtain rfl:=beq_iff.1 hz1;have hm1:=Nat.le_of_ble_eq_true hm1;obtain⟨Lx,hLx,_,_,rfl⟩:=cY hx;obtain⟨Lx',us,hLx',hus,hul,hat⟩:=gu hr hnews;obtain rfl:Lx=Lx':=Option.some.inj (hLx.symm.trans hLx');have hul:us.length=m*z:=hul;have hat:af w ⟨Lx.b,o*z,none⟩ 0 us:=hat;have hnews' : ∀ j u,us[j]? = some u->w.cell? ((⟨Lx.b,o*z,none⟩:Addr).add j)=some u:=by
                have:∀ (l:List Value) (i:Nat),af w ⟨Lx.b,o*z,none⟩ i l->∀ j u,l[j]? = some u->w.cell? ((⟨Lx.b,o*z,none⟩:Addr).add (i+j))=some u:=by
                  intro l
                  induction l with
                  | nil=>intro i _ j u hj; simp at hj
                  | cons a l ih =>
                    intro i hc j u hj
                    cases j with
                    | zero=>simp at hj; subst hj; exact hc.1
                    | succ j =>
                      have:=ih (i+1) hc.2 j u (by simpa using hj);rw[show i+(j+1)=i+1+j by omega];exact this
                intro j u hj;have:=this us 0 hat j u hj;simpa using this
              have hone:=xw hones hus
              split at hg
              · cases hb2:(Nat.ble (Nat.mul m by_) 140737488355328&&Nat.ble m 9223372036854775807) with
                | false=>rw[hb2] at hg; cases hg
                | true =>
                  rw[hb2] at hg
                  cases hg; cases hs
                  simp only[Bool.and_eq_true] at hb2;have g1:m*by_<=140737488355328:=Nat.le_of_ble_eq_true hb2.1;have g2:m<=9223372036854775807:=Nat.le_of_ble_eq_true hb2.2;have own:w.ownsRow 0 e z (.slice none 0 0) 0 []:=⟨by simp,.inl ⟨rfl,rfl⟩⟩;obtain⟨v',w',hrun,hown,hchg,hnxt⟩:=xL (P:=P) (ty:=dst) (c:=Lx.tot-o) hT own hul hnews' hone (by simpa using g1) (by simpa using g2) (K:=λ v' w'=>w'.ownsRow 0 e z v' (0+m) ([]++us)/\aF w w' []/\R9 w (.slice none 0 0) v') (λ v' w' h1 h2 h3=>⟨h1,h2,h3⟩);rcases hown.2 with⟨_,h0⟩ | ⟨g,cap,cur,rfl,_,hgg,hnc,hcm,hcs,htake⟩
                  · omega
                  · have hge:w.heap.size<=g:=(hnxt g rfl).resolve_left (λ h=>by cases h);simp only[Nat.zero_add,List.nil_append] at hnc htake hrun;have hul2:us.length=m*z:=hul;have hext:=Ext.dK (L:=⟨g,z,cap⟩) (bR hr hn);have:=hr.new hn (L:=⟨g,z,cap⟩) (T:=e) (cells:=news) (cur:=cur) (vs:=us) (ro:=false) hchg hgg (λ _=>rfl) hge (cq hext hus) (by rw[hul2]; exact htake) hcs.symm hcm;exact⟨_,w',_,hrun,hext,this,by simp[rv,dK,hnc]⟩
              · rename_i i l z'
                split at hg
                · rename_i olds ao holds hi
                  cases hb2:(Nat.beq z' z&&not ao.ro&&Nat.beq ao.T e&&Nat.ble (Nat.mul (Nat.add l m) by_) 140737488355328&&Nat.ble (Nat.add l m) 9223372036854775807) with
                  | false=>rw[hb2] at hg; cases hg
                  | true =>
                    rw[hb2] at hg
                    cases hg
                    simp only[Bool.and_eq_true] at hb2;obtain⟨⟨⟨⟨k1,hro⟩,k2⟩,k3⟩,k4⟩:=hb2;have hro:ao.ro=false:=by cases hq:ao.ro with
                      | false=>rfl
                      | true=>rw[hq] at hro; cases hro
                    obtain rfl:=beq_iff.1 k1;have k2:=beq_iff.1 k2;have g1:(l+m)*by_<=140737488355328:=Nat.le_of_ble_eq_true k3;have g2:l+m<=9223372036854775807:=Nat.le_of_ble_eq_true k4;obtain⟨L,hL,hle,hez,rfl⟩:=cY hs;obtain⟨L1,cur0,vs0,hl⟩:=hr.live i ao hi;obtain rfl:L=L1:=Option.some.inj (hL.symm.trans hl.at_);obtain⟨fz,hblk,hfz⟩:=hl.blk;obtain rfl:=hfz hro;have hold:olds=(ao.cells.drop 0).take (l*z')/\0+l*z'<=ao.cells.length:=by
                      unfold cE at holds;simp only[hi] at holds
                      cases hb3:Nat.ble (Nat.add 0 (Nat.mul l z')) ao.cells.length with
                      | false=>rw[hb3] at holds; cases holds
                      | true=>rw[hb3] at holds; cases holds; exact⟨rfl,Nat.le_of_ble_eq_true hb3⟩
                    have hvl:=bt hl.val;have hvo:dH ρ olds=some (vs0.take (l*z')):=by rw[hold.1]; simpa using o9 (l*z') hl.val
                    have own:w.ownsRow 0 e z' (.slice (some ⟨L.b,0,none⟩) l L.tot) l (vs0.take (l*z')):=by
                      refine⟨by simp; omega,.inr ⟨L.b,L.tot,cur0,rfl,Nat.zero_le _,by rw[<- k2]; exact hblk,by omega,hl.most,by rw[<- hl.room,hez],?_⟩⟩;rw[<- hl.here,List.take_take]
                      congr 1
                      omega
                    obtain⟨v',w',hrun,hown,hchg,hnxt⟩:=xL (P:=P) (ty:=dst) (c:=Lx.tot-o) hT own hul hnews' hone g1 g2 (K:=λ v' w'=>w'.ownsRow 0 e z' v' (l+m) (vs0.take (l*z')++us)/\aF w w' [L.b]/\R9 w (.slice (some ⟨L.b,0,none⟩) l L.tot) v') (λ v' w' h1 h2 h3=>⟨h1,h2,h3⟩);rcases hown.2 with⟨_,h0⟩ | ⟨g,cap,cur,rfl,_,hgg,hnc,hcm,hcs,htake⟩
                    · omega
                    · have hge:g=L.b\/w.heap.size<=g:=(hnxt g rfl).imp (λ h=>by simp[Value.ownBlock] at h; exact h.symm) id;have hst:=hr.LC i;have hdead:∀ (j:Nat) (ao' : AO) (L' : Loc),(h.put i none).get j=some (some ao')->ρ j=some L'->L'.b≠L.b:=λ j ao' L' hj hL'=>by
                        rw[bN] at hj
                        split at hj
                        · cases hj
                        · rename_i hji;exact hr.inj j i ao' ao L' L hji hj hi hL' hL
                      have hq:=hst.Co hchg (λ f hf=>by
                        simp at hf; subst hf;exact⟨hl.new,hdead⟩)
                      have hni:n≠i:=λ e=>by rw[e,hi] at hn; cases hn
                      have hn' : (h.put i none).get n=none:=by rw[bN,if_neg hni]; exact hn
                      have hext:=Ext.dK (L:=⟨g,z',cap⟩) (bR hr hn);have hul2:us.length=m*z':=hul;have hnm:=hq.name hn' (ro:=false) (L:=⟨g,z',cap⟩) (T:=e) (cells:=olds++news) (cur:=cur) (vs:=vs0.take (l*z')++us)
                        (by rcases hge with rfl | hge
                            · exact hl.new
                            · exact Nat.le_trans hr.aC.size hge) hgg (λ _=>rfl)
                        (λ j ao' L' hj hL'=>by
                          rcases hge with rfl | hge
                          · exact hdead j ao' L' hj hL'
                          · have:=hst.below hj hL';show L'.b≠g;omega)
                        (jZ (cq hext hvo) (cq hext hus)) (by
                          have:(vs0.take (l*z')++us).length=(l+m)*z':=by rw[hown.1]
                          rw[this]; exact htake) hcs.symm hcm
                      refine⟨_,w',_,by simpa using hrun,hext,hnm,?_⟩;simp[rv,dK,hnc]
                · cases hg
              · cases hg
          · cases hg
        · cases hg
      · cases hg
  · cases hg
def TU:List AV->Option (List UInt8)
  | []=>some []
  | .int .u8 (.ofNat n) :: l=>match TU l with
    | some m=>some (UInt8.ofNat n :: m)
    | none=>none
  | _=>none
theorem LQ{ρ:Names}:∀ {l:List AV} {m:List UInt8} {vs:List Value},TU l=some m->dH ρ l=some vs->∃ xs:List Int,vs=xs.map (Value.int .u8)/\m=xs.map λ n=>UInt8.ofNat n.toNat
  | [],m,vs,h,hv=>by cases h; cases hv; exact⟨[],rfl,rfl⟩
  | a :: l,m,vs,h,hv=>by
    obtain⟨v,us,rfl,h1,h2⟩:=aL hv;unfold TU at h
    split at h
    · rename_i heq; cases heq
    · rename_i n l' heq
      cases heq
      split at h
      · rename_i m' hm
        cases h
        obtain⟨xs,rfl,rfl⟩:=LQ hm h2
        cases bX h1
        exact⟨(n:Int) :: xs,rfl,rfl⟩
      · cases h
    · cases h
def QL(P:Program)(src dst:TypeId)(a:AV)(h:AH):Option AV:=match P.underlying src,P.underlying dst with
  | some (.slice e),some .string=>match P.underlying e,a with
    | some (.int .u8),.nils=>some (.str [])
    | some (.int .u8),.sli i o m 1=>match cE h i o m with
      | some az=>match TU az with
        | some l=>some (.str l)
        | none=>none
      | none=>none
    | _,_=>none
  | _,_=>none
theorem NC{P:Program}{src dst:TypeId}{a r:AV}{h:AH}(hg:QL P src dst a h=some r){w0 w:World}{ρ:Names}(hr:fk w0 w ρ h){va:Value}(ha:rv ρ a=some va) :
    xD P w0 w ρ (convert src dst va) r h:=by
  unfold QL at hg
  split at hg
  · rename_i e hs hd
    split at hg
    · rename_i he
      cases hg; cases ha
      exact⟨_,w,ρ,run_convert_bytes_nil (P:=P) w src e hs he 0 0 dst hd,Ext.refl _,hr,rfl⟩
    · rename_i i o m he
      split at hg
      · rename_i az haz
        split at hg
        · rename_i l hl
          cases hg
          obtain⟨L,hL,_,_,rfl⟩:=cY ha;obtain⟨L',us,hL',hus,hul,hat⟩:=gu hr haz;obtain rfl:L=L':=Option.some.inj (hL.symm.trans hL');obtain⟨xs,rfl,rfl⟩:=LQ hl hus;have hcell:∀ i,i<m->w.cell? ⟨L.b,o+i,none⟩=some (.int .u8 (xs.getD i 0)):=by
            intro i hi;have key:∀ (l:List Value) (k:Nat),af w ⟨L.b,o,none⟩ k l->∀ j u,l[j]? = some u->w.cell? ((⟨L.b,o,none⟩:Addr).add (k+j))=some u:=by
              intro l
              induction l with
              | nil=>intro k _ j u hj; simp at hj
              | cons a l ih =>
                intro k hc j u hj
                cases j with
                | zero=>simp at hj; subst hj; exact hc.1
                | succ j =>
                  have:=ih (k+1) hc.2 j u (by simpa using hj);rw[show k+(j+1)=k+1+j by omega];exact this
            have hlt:i<xs.length:=by simp at hul; omega
            have:=key _ 0 hat i (.int .u8 xs[i]) (by simp[hlt]);rw[aV] at this;simp only[Nat.zero_add] at this;rw[this];simp[hlt]
          have hrun:=run_convert_bytes_arg (P:=P) w src e hs he L.b o m (L.tot-o) xs (by simpa using hul) hcell dst hd;refine⟨.string (strOfNums xs),w,ρ,by simpa using hrun,Ext.refl _,hr,rfl⟩
        · cases hg
      · cases hg
    · cases hg
  · cases hg
end Go.Gx
