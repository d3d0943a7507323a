import Derived.Shelf.Abstract
import Derived.Test.YtpihmghnbplohaaGreatDoorM00
set_option linter.unusedVariables false
set_option maxRecDepth 100000
namespace Go.Vc
def af(w:World)(a:Addr):Nat->List Value->Prop
  | _,[]=>True
  | i,v :: vs=>w.cell? (a.add i)=some v/\af w a (i+1) vs
def RX(P:Program)(ty:TypeId)(x:Value)(w:World)(K:Value->List (World->Prop)->Prop):Prop :=
  match x with
  | .pointer p=>an p λ a=>match uM P ty with
    | .s k=>cond (P.underlying ty).isSome (Qa k λ v=>w.cell? a=some v/\K v [λ w'=>w'.cell? a=some v]) False
    | .agg ks=>cond (match wz P ty with | some n=>Nat.beq n (Fb ks) | none=>false)
        (P6 ks λ vs=>af w a 0 vs/\K (.agg vs.toArray) [λ w'=>af w' a 0 vs]) False
  | _=>False
theorem zZ{P:Program}{w:World}{a:Addr}:∀ (vs:List Value) (i:Nat) (acc:Array Value),af w a i vs ->
    (loadCellsFrom a i vs.length acc).run P w=.ok (acc++vs.toArray) w
  | [],i,acc,_=>by simp[loadCellsFrom]
  | v :: vs,i,acc,h=>by
    obtain⟨h1,h2⟩:=h;have:=zZ (P:=P) vs (i+1) (acc.push v) h2;simp only[List.length_cons,loadCellsFrom,Sem.run_bind,run_load,h1,Result.andThen_ok,this]
    simp
theorem BW{P:Program}{ty:TypeId}{x:Value}{w:World}{K:Value->List (World->Prop)->Prop}(h:RX P ty x w K) :
    ∃ v T,holds T w/\(∀ w',holds T w'->(Instr.loadAt ty x).run P w' = .ok v w')/\K v T:=by
  unfold RX at h
  split at h
  · obtain⟨a,rfl,h⟩:=dy h
    split at h
    · rename_i k hk;obtain⟨hi,h⟩:=jz h;obtain⟨v,h1,h2⟩:=BK h;refine⟨v,_,?_,?_,h2⟩
      · intro f hf; simp at hf; subst hf; exact h1
      · intro w' hw';have h3:w'.cell? a=some v:=hw' (λ w'=>w'.cell? a=some v) (List.mem_cons_self ..);simp[Instr.loadAt,Instr.sureAddr,loadVar,As hk hi,h3]
    · rename_i ks hk;obtain⟨hs,h⟩:=jz h;obtain⟨vs,hl,h1,h2⟩:=BJ h;refine⟨_,_,?_,?_,h2⟩
      · intro f hf; simp at hf; subst hf; exact h1
      · intro w' hw';have h3:af w' a 0 vs:=hw' (λ w'=>af w' a 0 vs) (List.mem_cons_self ..);have hn:wz P ty=some vs.length:=by
          cases hz:wz P ty with
          | none=>simp[hz] at hs
          | some n=>simp only[hz] at hs; rw[Nat.eq_of_beq_eq_true hs,hl]
        simp only[Instr.loadAt,Instr.sureAddr,loadVar,Sem.run_bind,Sem.run_pure,Result.andThen_ok,Gm hk,if_true,oP hn,loadCells,zZ vs 0 _ h3]
        simp
  · exact h.elim
def aZ(P:Program){α:Type}(s:Sem α)(w:World)(K:α->World->Prop):Prop:=∃ a w',s.run P w=.ok a w'/\K a w'
def dw(P:Program)(gf:FuncId):Bool:=match P.funcs[gf]? with
  | none=>false
  | some fn=>match fn.body with
    | none=>false
    | some _=>!(fn.name== "runtime.NumGoroutine")
theorem qK{P:Program}{gf:FuncId}(h:dw P gf=true)(args:Array Value)(w:World):(callFunc gf args).run P w=.ok (.enter gf args) w:=by
  unfold dw at h
  cases hf:P.funcs[gf]? with
  | none=>rw[hf] at h; cases h
  | some fn =>
    rw[hf] at h
    cases hb:fn.body with
    | none=>simp[hb] at h
    | some c =>
      simp only[hb] at h;exact Go.Proofs.enters_of hf (by simpa using h) hb args w
def cC(P:Program)(v:Value)(args:Array Value)(w:World)(R:Ending->World->Prop):Prop :=
  match v with
  | .func (.yield l) x y=>cond (x.isEmpty&&y.isEmpty) (cq P l args w λ b w'=>R (.returned (.bool b)) w') False
  | .func (.func g) x y=>cond (dw P g) (Calls P g (x++args++y) w R) False
  | _=>False
def Tb(P:Program)(ty:TypeId)(b:Bool)(F:Value->Prop):Prop:=match P.underlying ty with
  | some (.map _ e)=>Qb (uM P e) λ u=>cond b (∃ x:Bool,F (.tuple #[u,.bool x])) (F u)
  | _=>False
theorem Qr{P:Program}{ty:TypeId}{b:Bool}{F:Value->Prop}(h:Tb P ty b F):∃ v,F v:=by
  unfold Tb at h
  split at h
  · obtain⟨u,h⟩:=tX h
    cases b with
    | true=>obtain⟨x,h⟩:=h; exact⟨_,h⟩
    | false=>exact⟨_,h⟩
  · exact h.elim
def Tw(s:Bool)(v:Value)(F:Value->Prop):Prop :=
  (v=.tuple #[.bool false]/\F (.tuple #[.bool false])) \/
    cond s (∃ (n:Int) (c:Int),v=.tuple #[.bool true,.int .i64 n,.int .i32 c]/\F (.tuple #[.bool true,.int .i64 n,.int .i32 c])) (∃ k x:Value,v=.tuple #[.bool true,k,x]/\F (.tuple #[.bool true,k,x]))
theorem KY{s:Bool}{v:Value}{F:Value->Prop}(h:Tw s v F):F v:=by
  rcases h with⟨rfl,h⟩ | h
  · exact h
  · cases s with
    | true=>obtain⟨n,c,rfl,h⟩:=h; exact h
    | false=>obtain⟨k,x,rfl,h⟩:=h; exact h
def OP(P:Program)(o:Oper):Bool:=match o.op with
  | .call { callee:=.value (.func g),.. }=>match P.funcs[g]? with
    | some f=>f.body.isNone&&f.name== "internal/bytealg.IndexString"
    | none=>false
  | _=>false
def Jb(P:Program)(o:Oper)(t:Tm)(w:World)(K:KP):Prop :=
  match Oe P o t with
  | some F=>F λ v=>K v w
  | none =>
    match o.op with
    | .load ty x=>RX P ty (ev t x) w λ v _=>K v w
    | .convert src dst x=>aZ P (convert src dst (ev t x)) w λ v w'=>Qb (uM P o.type) λ u=>v=u/\K u w'
    | .makeSlice ty l c=>aZ P (Instr.makeSlice ty (ev t l) (ev t c)) w λ v w'=>Qb (uM P o.type) λ u=>v=u/\K u w'
    | .call { callee:=.builtin .append,args:=args,argTypes:=tys }=>aZ P (Builtin.append_ tys o.type (args.map (ev t))) w λ v w'=>Qb (uM P o.type) λ u=>v=u/\K u w'
    | .call { callee:=.builtin .copy,args:=args,argTypes:=tys }=>aZ P (Builtin.copy_ tys o.type (args.map (ev t))) w K
    | .call { callee:=.builtin .clear,args:=args,argTypes:=tys }=>aZ P (Builtin.clear_ tys o.type (args.map (ev t))) w K
    | .lookup ty x i b=>aZ P (Instr.lookup ty (ev t x) (ev t i) b) w λ v w'=>Tb P ty b λ u=>v=u/\K u w'
    | .mapUpdate ty m k x=>aZ P (Instr.mapUpdate ty (ev t m) (ev t k) (ev t x)) w λ _ w'=>K undef w'
    | .insert ty m k x=>aZ P (Instr.mapUpdate ty (ev t m) (ev t k) (ev t x)) w λ _ w'=>K undef w'
    | .makeMap ty r=>aZ P (Instr.makeMap ty (r.map (ev t))) w λ v w'=>∃ m:Option Nat,v=.map m/\K (.map m) w'
    | .range ty x=>aZ P (Instr.range ty (ev t x)) w λ v w'=>∃ r:Nat,v=.pointer (some ⟨r,0,none⟩)/\K (.pointer (some ⟨r,0,none⟩)) w'
    | .next it s=>aZ P (Instr.next (ev t it) s o.type) w λ v w'=>Tw s v λ u=>K u w'
    | .call { callee:=.value (.tmp f),args:=args,argTypes:=_ }=>cC P (gt t f) (args.map (ev t)) w λ e w'=>S8 (RV P o.type) λ v=>e=.returned v/\K v w'
    | _=>cond (OP P o) False (Fm P (execOp (ev t) o) w (DM P o.type K))
theorem Ex{P:Program}{o:Oper}{t:Tm}{w:World}{K:KP}(h:Jb P o t w K):∃ n w',(execOp (ev t) o).run P w=.ok n w'/\DM P o.type K n w':=by
  unfold Jb at h
  split at h
  · rename_i F hF;obtain⟨v,hr,hk⟩:=Ek hF h;exact⟨_,w,hr w,hk⟩
  · split at h
    · rename_i ty x hx;obtain⟨v,T,h1,h2,h3⟩:=BW h;exact⟨.value v,w,by simp[execOp,hx,h2 w h1],h3⟩
    · rename_i src dst x hx;obtain⟨v,w',hr,h⟩:=h;obtain⟨u,rfl,hk⟩:=tX h;exact⟨.value v,w',by simp[execOp,hx,hr],hk⟩
    · rename_i ty l c hx;obtain⟨v,w',hr,h⟩:=h;obtain⟨u,rfl,hk⟩:=tX h;exact⟨.value v,w',by simp[execOp,hx,hr],hk⟩
    · rename_i args tys hx;obtain⟨v,w',hr,h⟩:=h;obtain⟨u,rfl,hk⟩:=tX h;exact⟨.value v,w',by simp[execOp,hx,resolve,invoke,builtin,hr],hk⟩
    · rename_i args tys hx;obtain⟨v,w',hr,h⟩:=h;exact⟨.value v,w',by simp[execOp,hx,resolve,invoke,builtin,hr],h⟩
    · rename_i args tys hx;obtain⟨v,w',hr,h⟩:=h;exact⟨.value v,w',by simp[execOp,hx,resolve,invoke,builtin,hr],h⟩
    · rename_i ty x i b hx;obtain⟨v,w',hr,h⟩:=h;obtain⟨u,rfl,hk⟩:=Qr h;exact⟨.value v,w',by simp[execOp,hx,hr],hk⟩
    · rename_i ty m k x hx;obtain⟨v,w',hr,h⟩:=h;exact⟨.skip,w',by simp[execOp,hx,hr],h⟩
    · rename_i ty m k x hx;obtain⟨v,w',hr,h⟩:=h;exact⟨.skip,w',by simp[execOp,hx,hr],h⟩
    · rename_i ty r hx;obtain⟨v,w',hr,m,rfl,h⟩:=h;exact⟨.value _,w',by simp[execOp,hx,hr],h⟩
    · rename_i ty x hx;obtain⟨v,w',hr,m,rfl,h⟩:=h;exact⟨.value _,w',by simp[execOp,hx,hr],h⟩
    · rename_i it s hx;obtain⟨v,w',hr,h⟩:=h;exact⟨.value v,w',by simp[execOp,hx,hr],KY h⟩
    · rename_i f args tys hx;have hev:ev t (.tmp f)=gt t f:=rfl;unfold cC at h
      split at h
      · rename_i l x y hy;obtain⟨he,h⟩:=jz h;obtain⟨hx0,hy0⟩:x = #[]/\y = #[]:=by simpa[Array.isEmpty_iff] using he
        subst hx0 hy0;obtain⟨fn,tmps,asg,body,hrun,hR⟩:=h;refine⟨.round l fn tmps asg body,w,?_,RoundIn.mono hR λ e w' he=>?_⟩
        · simp[execOp,hx,resolve,hev,hy,invoke,callFunc];simp[Deferred.ofValue,hrun]
        · obtain⟨b,rfl,hk⟩:=he;obtain⟨v,hv,hk⟩:=J5 hk;exact⟨v,hv,hk⟩
      · rename_i g x y hy;obtain⟨he,h⟩:=jz h;refine⟨.enter g (x++args.map (ev t)++y),w,?_,h⟩;have hr:=qK he (x++args.map (ev t)++y) w;simp[execOp,hx,resolve,hev,hy,invoke];simp[Deferred.ofValue];simpa using hr
      · exact h.elim
    · cases hb:OP P o with
      | true=>rw[hb] at h; exact h.elim
      | false=>rw[hb] at h; exact Nz _ _ _ h
def MX(P:Program)(d:Option Nat)(i:Nat):List Oper->TK
  | []=>.s .raw
  | o :: l=>match o.op,d with
    | .extract (.tmp x) j,some y=>cond (Nat.beq x y&&Nat.beq i j) (uM P o.type) (MX P d i l)
    | _,_=>MX P d i l
def Eu(P:Program)(rest:List Oper)(o:Oper)(t:Tm)(w:World)(K:KP):Prop:=match o.op with
  | .entry it=>aZ P (Instr.entry (ev t it)) w λ v w'=>MY [MX P o.dst 0 rest,MX P o.dst 1 rest] λ vs=>v=.tuple vs.toArray/\K (.tuple vs.toArray) w'
  | _=>Jb P o t w K
theorem Jc{P:Program}{rest:List Oper}{o:Oper}{t:Tm}{w:World}{K:KP}(h:Eu P rest o t w K):∃ n w',(execOp (ev t) o).run P w=.ok n w'/\DM P o.type K n w':=by
  unfold Eu at h
  split at h
  · rename_i it hx;obtain⟨v,w',hr,h⟩:=h;obtain⟨vs,rfl,hk⟩:=BL h;exact⟨.value _,w',by simp[execOp,hx,hr],hk⟩
  · exact Ex h
theorem Ew{P:Program}{rest:List Oper}{ro:Option Nat}{o:Oper}{t:Tm}{d:List Deferred}{w:World}{K:KP}{N:Act->World->Prop}{Q:Exit->Act->World->Prop}(hd:fN o.op=true)(hN:∀ v w',K v w'->N (lg (pt t o.dst v) d) w')(h:Eu P rest o t w K):o.wpIn (FW ro) 0 P (lg t d) w N Q:=by
  obtain⟨n,w',hr,hk⟩:=Jc h;refine⟨λ _ _=>trivial,?_⟩;rw[Oper.semAt_eq _ _ _ (iV hd),kJ,hr];exact oT (λ v w' hv=>by rw[jG]; exact hN _ _ hv) hk
theorem Ow{P:Program}{ro:Option Nat}{o:Oper}{t:Tm}{d:List Deferred}{w:World}{K:KP}{N:Act->World->Prop}{Q:Exit->Act->World->Prop}(hd:fN o.op=true)(hN:∀ v w',K v w'->N (lg (pt t o.dst v) d) w')(h:Jb P o t w K):o.wpIn (FW ro) 0 P (lg t d) w N Q:=by
  obtain⟨n,w',hr,hk⟩:=Ex h;refine⟨λ _ _=>trivial,?_⟩;rw[Oper.semAt_eq _ _ _ (iV hd),kJ,hr];exact oT (λ v w' hv=>by rw[jG]; exact hN _ _ hv) hk
def QT(P:Program)(o:Oper)(t:Tm)(w:World)(K:Value->List (World->Prop)->Prop):Prop :=
  match Oe P o t with
  | some F=>F λ v=>K v []
  | none =>
    match o.op with
    | .load ty x=>RX P ty (ev t x) w K
    | _=>wS P (execOp (ev t) o) w [] λ n T=>match n with
      | .value v=>K v T
      | _=>False
theorem Lf{P:Program}{o:Oper}{t:Tm}{w:World}{K:Value->List (World->Prop)->Prop}(h:QT P o t w K) :
    ∃ v T,K v T/\holds T w/\∀ w',holds T w'->(execOp (ev t) o).run P w' = .ok (.value v) w':=by
  unfold QT at h
  split at h
  · rename_i F hF;obtain⟨v,hr,hk⟩:=Ek hF h;exact⟨v,[],hk,λ f hf=>(by cases hf),λ w' _=>hr w'⟩
  · split at h
    · rename_i ty x hx;obtain⟨v,T,h1,h2,h3⟩:=BW h;exact⟨v,T,h3,h1,λ w' hw'=>by simp[execOp,hx,h2 w' hw']⟩
    · obtain⟨n,T,hk,hw,hr⟩:=NR _ _ _ _ h
      cases n<;>simp only at hk
      exact⟨_,T,hk,hw (λ f hf=>by cases hf),λ w' hw'=>(hr w' hw').2⟩
def gd(ops:Array Oper)(t:Tm)(o:Oper)(A B:Tm->Prop):Prop :=
  match o.guard with
  | none=>A t
  | some (j,pol)=>match (ops[j]?).bind (·.dst) with
    | none=>B t
    | some d=>match gt t d with
      | .bool b=>cond pol (cond b (A (st t d (.bool true))) (B (st t d (.bool false)))) (cond b (B (st t d (.bool true))) (A (st t d (.bool false))))
      | _=>B t
theorem Su(t:Tm):∀ d v,gt t d=v->v≠undef->st t d v=t:=by
  induction t with
  | nil=>intro d v _ _; rfl
  | cons x t ih =>
    intro d v h hv
    cases d with
    | zero=>simp only[gt] at h; subst h; rfl
    | succ d=>simp only[gt] at h; simp only[st,ih d v h hv]
theorem EB(ops:Array Oper)(t:Tm)(dd:List Deferred)(j:Nat):yielded ops (lg t dd).tmps j =
    match (ops[j]?).bind (·.dst) with
    | none=>none
    | some d=>match gt t d with
      | .bool b=>some b
      | _=>none:=by
  unfold yielded
  cases (ops[j]?).bind (·.dst) with
  | none=>rfl
  | some d =>
    have h0:(lg t dd).tmps[d]? = t[d]?:=by simp[lg]
    have h1:gt t d=(t[d]?).getD undef:=by rw[GG]; simp[Array.getD]; split<;>simp_all
    simp only[Option.bind_some,h0,h1]
    cases t[d]? with
    | none=>rfl
    | some v=>cases v<;>rfl
theorem wH{dd:List Deferred}{ops:Array Oper}{t:Tm}{o:Oper}{A B:Tm->Prop}(h:gd ops t o A B):(Region.wanted o (yielded ops (lg t dd).tmps)=true/\A t)\/(Region.wanted o (yielded ops (lg t dd).tmps)=false/\B t):=by
  unfold gd at h
  cases hg:o.guard with
  | none=>rw[hg] at h; exact .inl ⟨by simp[Region.wanted,hg],h⟩
  | some gp =>
    obtain⟨j,pol⟩:=gp;simp only[hg] at h;have hy:=EB ops t dd j;have hw:Region.wanted o (yielded ops (lg t dd).tmps)=(yielded ops (lg t dd).tmps j==some pol):=by simp[Region.wanted,hg]
    rw[hw,hy]
    cases hd:(ops[j]?).bind (·.dst) with
    | none=>rw[hd] at h; exact .inr ⟨rfl,h⟩
    | some d =>
      simp only[hd] at h ⊢
      cases hx:gt t d with
      | bool b =>
        have hs:=Su t d (.bool b) hx (by simp[undef]);rw[hx] at h
        cases pol<;>cases b<;>simp only[cond,hs] at h
        · exact .inl ⟨rfl,h⟩
        · exact .inr ⟨rfl,h⟩
        · exact .inr ⟨rfl,h⟩
        · exact .inl ⟨rfl,h⟩
      | _=>rw[hx] at h; exact .inr ⟨rfl,h⟩
def HA(P:Program)(ops:Array Oper):List Oper->Tm->World->(Tm->World->Prop)->Prop
  | [],t,w,K=>K t w
  | o :: rest,t,w,K=>gd ops t o (λ t=>Eu P rest o t w λ v w'=>HA P ops rest (pt t o.dst v) w' K) (λ t=>HA P ops rest (pt t o.dst undef) w K)
def Bc(ds:List Nat)(t t' : Tm):Prop:=t'.length=t.length/\∀ i,i∉ds->gt t' i=gt t i
theorem cI(ds:List Nat)(t:Tm):Bc ds t t:=⟨rfl,λ _ _=>rfl⟩
theorem oX{ds es:List Nat}{t t' t'' : Tm}(h:Bc ds t t')(h' : Bc es t' t''):Bc (ds++es) t t'' :=
  ⟨h'.1.trans h.1,λ i hi=>(h'.2 i λ h=>hi (List.mem_append_right _ h)).trans (h.2 i λ h=>hi (List.mem_append_left _ h))⟩
theorem iB{ds es:List Nat}{t t' : Tm}(hs:∀ d∈ds,d∈es)(h:Bc ds t t'):Bc es t t':=⟨h.1,λ i hi=>h.2 i λ h=>hi (hs i h)⟩
theorem lz{ds:List Nat}{t0 t:Tm}{dst:Option Nat}{v:Value}(h:Bc ds t0 t)(hd:∀ d,dst=some d->d∈ds):Bc ds t0 (pt t dst v):=by
  cases dst with
  | none=>exact h
  | some d=>exact⟨(Io t d v).trans h.1,λ i hi=>(Ko t d i v λ e=>hi (e▸hd d rfl)).trans (h.2 i hi)⟩
def oe(ops:List Oper):Bool:=ops.all λ o=>fN o.op
theorem zh{P:Program}{ro:Option Nat}{ops:Array Oper}{d:List Deferred}{Q:Exit->Act->World->Prop}{ds:List Nat}{t0:Tm}:∀ (l:List Oper) (t:Tm) (w:World) (K:Tm->World->Prop),
    oe l=true->(∀ t w,Bc ds t0 t->K t w->Q .normal (lg t d) w)->(∀ o∈l,∀ d,o.dst=some d->d∈ds)->Bc ds t0 t->HA P ops l t w K->wpListIn (FW ro) 0 P ops Q l (lg t d) w
  | [],t,w,K,_,hK,_,ha,h=>hK _ _ ha h
  | o :: rest,t,w,K,hn,hK,hd,ha,h=>by
    have hd0:=hd o (List.mem_cons_self ..);have hd1:=λ o' ho'=>hd o' (List.mem_cons_of_mem _ ho');simp only[oe,List.all_cons,Bool.and_eq_true] at hn;unfold wpListIn;rcases wH h with⟨hw,h⟩ | ⟨hw,h⟩
    · rw[if_pos hw];exact Ew hn.1 (λ v w' h'=>zh rest _ _ K hn.2 hK hd1 (lz ha hd0) h') h
    · rw[if_neg (by simpa using hw),jG];exact⟨λ _ _=>trivial,zh rest _ _ K hn.2 hK hd1 (lz ha hd0) h⟩
def zg(P:Program)(ops:Array Oper):List Oper->Tm->List Deferred->World->(Tm->List Deferred->World->Prop)->Prop
  | [],t,d,w,K=>K t d w
  | o :: rest,t,d,w,K=>gd ops t o (λ t=>match o.op with
    | .defer { callee:=.value (.tmp f),args:=args,argTypes:=_ }=>match gt t f with
      | .func (.func g) x y=>zg P ops rest (pt t o.dst undef) ({ target:=.fn (.func g) y,args:=x++args.map (ev t) } :: d) w K
      | _=>False
    | .defer _=>False
    | _=>Eu P rest o t w λ v w'=>zg P ops rest (pt t o.dst v) d w' K) (λ t=>zg P ops rest (pt t o.dst undef) d w K)
theorem pH{P:Program}{ops:Array Oper}{Q:Exit->Act->World->Prop}{ds:List Nat}{t0:Tm}:∀ (l:List Oper) (t:Tm) (d:List Deferred) (w:World) (K:Tm->List Deferred->World->Prop),
    (∀ t d w,Bc ds t0 t->K t d w->Q .normal (lg t d) w)->(∀ o∈l,∀ d,o.dst=some d->d∈ds)->Bc ds t0 t->zg P ops l t d w K->wpListIn (FW none) 0 P ops Q l (lg t d) w
  | [],t,d,w,K,hK,_,ha,h=>hK _ _ _ ha h
  | o :: rest,t,d,w,K,hK,hd,ha,h=>by
    have hd0:=hd o (List.mem_cons_self ..);have hd1:=λ o' ho'=>hd o' (List.mem_cons_of_mem _ ho');unfold wpListIn;rcases wH (dd:=d) h with⟨hw,h⟩ | ⟨hw,h⟩
    · rw[if_pos hw]
      split at h
      · rename_i f args tys hx
        split at h
        · rename_i g x y hy;refine⟨λ _ _=>trivial,?_⟩;have hr:(execOp (ev t) o).run P w=.ok (.defer { target:=.fn (.func g) y,args:=x++args.map (ev t) }) w:=by
            have hev:ev t (.tmp f)=gt t f:=rfl;simp[execOp,hx,resolve,hev,hy,Deferred.ofValue]
          show o.uponIn (FW none) 0 P _ _ _ ((execOp _ o).run P w);rw[kJ,hr];simp only[Oper.uponIn];have:({ (lg t d) with defers:={ target:=.fn (.func g) y,args:=x++args.map (ev t) } :: (lg t d).defers }:Act)=lg t ({ target:=.fn (.func g) y,args:=x++args.map (ev t) } :: d):=rfl;rw[this,jG];exact pH rest _ _ _ K hK hd1 (lz ha hd0) h
        · exact h.elim
      · exact h.elim
      · rename_i hn1 hn2;have hnd:fN o.op=true:=by
          cases ho:o.op<;>first | rfl | exact absurd ho (hn2 _)
        exact Ew hnd (λ v w' h'=>pH rest _ _ _ K hK hd1 (lz ha hd0) h') h
    · rw[if_neg (by simpa using hw),jG];exact⟨λ _ _=>trivial,pH rest _ _ _ K hK hd1 (lz ha hd0) h⟩
end Go.Vc
namespace Go.Vc
abbrev xe:=List (Nat×List (World->Prop))
def dep(ops:Array Oper):Nat->Nat->Nat->Bool
  | 0,_,_=>false
  | n+1,j,i=>match ops[j]? with
    | none=>false
    | some o=>o.after.toList.any λ e=>Region.binds .any e&&(Nat.beq e.on i||dep ops n e.on i)
def closed(ops:Array Oper)(listed:Array Bool):Prop :=
  ∀ j o,ops[j]? = some o->listed.getD j false=true->∀ e∈o.after,Region.binds .any e=true->listed.getD e.on false=true
theorem xL{ops:Array Oper}{listed:Array Bool}(hc:closed ops listed){i:Nat}(hi:listed.getD i false=false) :
    ∀ n j o,ops[j]? = some o->(∀ e∈o.after,Region.binds .any e=true->listed.getD e.on false=true)->dep ops n j i=false
  | 0,_,_,_,_=>rfl
  | n+1,j,o,ho,hj=>by
    simp only[dep,ho,List.any_eq_false];intro e he;simp only[Bool.and_eq_true,not_and,Bool.or_eq_true,not_or];intro hb;have h1:=hj e (by simpa using he) hb;refine⟨λ h=>?_,?_⟩
    · rw[Nat.eq_of_beq_eq_true h,hi] at h1
      cases h1
    · cases ho' : ops[e.on]? with
      | none=>cases n<;>simp[dep,ho']
      | some o'=>rw[xL hc hi n e.on o' ho' (hc _ _ ho' h1)]; simp
def drop(ops:Array Oper)(j:Nat)(pend:xe):xe:=pend.filter λ p=>!dep ops ops.size j p.1
def mb(ro:Option Nat)(P:Program)(ops:Array Oper)(Q:Exit->Act->World->Prop):Nat->Array Bool->xe->Act->World->Prop
  | 0,listed,_,a,w=>Region.ready .any ops listed=[]/\Q .normal a w
  | n+1,listed,pend,a,w=>(Region.ready .any ops listed=[]->Q .normal a w) /\
    ∀ i∈Region.ready .any ops listed,wpOpIn (FW ro) 0 P ops Q i (λ a' w'=>(∀ p∈drop ops i pend,holds p.2 w')/\mb ro P ops Q n (listed.setIfInBounds i true) (drop ops i pend) a' w') a w
theorem zj{ro:Option Nat}{P:Program}{ops:Array Oper}{Q:Exit->Act->World->Prop}:∀ (n:Nat) (listed:Array Bool) (pend:xe) (a:Act) (w:World),
    mb ro P ops Q n listed pend a w->wpAnyIn (FW ro) 0 P .any ops Q n listed a w
  | 0,_,_,_,_,h=>h
  | n+1,_,_,_,_,h=>⟨h.1,λ i hi=>wpOpIn_mono (λ _ _ h=>zj n _ _ _ _ h.2) (h.2 i hi)⟩
theorem ri{ro:Option Nat}{P:Program}{ops:Array Oper}{Q:Exit->Act->World->Prop}:∀ (n:Nat) (listed:Array Bool) (pend pend' : xe) (a:Act) (w:World),
    (∀ p∈pend',p∈pend\/p.2=[])->mb ro P ops Q n listed pend a w->mb ro P ops Q n listed pend' a w
  | 0,_,_,_,_,_,_,h=>h
  | n+1,_,pend,pend',_,_,hs,h=>by
    refine⟨h.1,λ i hi=>wpOpIn_mono (λ _ _ h=>?_) (h.2 i hi)⟩;have hs' : ∀ p∈drop ops i pend',p∈drop ops i pend\/p.2=[]:=λ p hp=>by
      simp only[drop,List.mem_filter] at hp ⊢;exact(hs p hp.1).imp (λ h=>⟨h,hp.2⟩) id
    refine⟨λ p hp=>?_,ri n _ _ _ _ _ hs' h.2⟩;rcases hs' p hp with h1 | h1
    · exact h.1 p h1
    · rw[h1]; exact λ f hf=>by cases hf
theorem zi{ro:Option Nat}{P:Program}{ops:Array Oper}{Q:Exit->Act->World->Prop}(n:Nat)(listed:Array Bool)(pend pend' : xe)(a:Act)(w:World)(hs:∀ p∈pend',p∈pend)(h:mb ro P ops Q n listed pend a w):mb ro P ops Q n listed pend' a w :=
  ri n listed pend pend' a w (λ p hp=>.inl (hs p hp)) h
theorem vB{ro:Option Nat}{P:Program}{ops:Array Oper}{Q:Exit->Act->World->Prop}{S:World->Prop}{i:Nat}{o:Oper}{v:Value}{a:Act}(hnd:fN o.op=true)(hi:ops[i]? = some o)(hy:YieldsIf P ops S o v a){K:Act->World->Prop}{w:World}(hS:S w)(h:K (a.put o.dst v) w):wpOpIn (FW ro) 0 P ops Q i K a w:=by
  unfold wpOpIn;simp only[hi];rcases hy with⟨hw,hv⟩ | ⟨hw,rfl⟩
  · rw[if_pos hw];refine⟨λ _ _=>trivial,?_⟩;rw[Oper.semAt_eq _ _ _ (iV hnd),hv w hS];exact h
  · rw[if_neg (by simp[hw])];exact⟨λ _ _=>trivial,h⟩
theorem CD{ro:Option Nat}{P:Program}{ops:Array Oper}{Q:Exit->Act->World->Prop}{S:World->Prop}{j:Nat}{oi oj:Oper}{v:Value}(hnd:fN oj.op=true)(hj:ops[j]? = some oj)(hap:oi.apart ops oj=true)(hsi:∀ cs b,oi.op≠.select cs b)(hsj:∀ cs b,oj.op≠.select cs b)(hQ:∀ c a w,Q (.panic c) (a.put oi.dst v) w->Q (.panic c) a w){K:Act->World->Prop}{a:Act}{w:World}(hy:YieldsIf P ops S oi v a)(h:wpOpIn (FW ro) 0 P ops Q j K (a.put oi.dst v) w) :
    wpOpIn (FW ro) 0 P ops Q j (λ a' w'=>YieldsIf P ops S oi v a'/\K (a'.put oi.dst v) w') a w:=by
  obtain⟨h1,h2,h3⟩:=Oper.apart_spec hap;have keep:∀ (a:Act),YieldsIf P ops S oi v a->∀ u,YieldsIf P ops S oi v (a.put oj.dst u):=λ a hy u =>
    hy.of_same (execOp_put oi hsi a oj.dst u h3) (wanted_put oi a oj.dst u h3)
  have keepD:∀ d,YieldsIf P ops S oi v { a with defers:=d :: a.defers }:=λ d=>hy.of_same rfl rfl;unfold wpOpIn at *;simp only[hj] at *;rw[wanted_put oj a oi.dst v h1] at h
  split
  · rename_i hw;simp only[hw,if_true] at h;unfold Oper.wpIn at *;refine⟨λ _ _=>trivial,?_⟩;have h:=h.2;rw[Oper.semAt_eq _ _ _ (iV hnd),execOp_put oj hsj a oi.dst v h1] at h;rw[Oper.semAt_eq _ _ _ (iV hnd)];generalize(execOp a.eval oj).run P w=r at *
    cases r with
    | ok x w' =>
      cases x<;>simp only[Oper.uponIn] at h ⊢
      case value u=>exact⟨keep a hy u,by rw[<- Act.put_comm a v u h2]; exact h⟩
      case skip=>exact⟨keep a hy _,by rw[<- Act.put_comm a v undef h2]; exact h⟩
      case defer d =>
        refine⟨keep _ (keepD d) _,?_⟩;rw[<- Act.put_comm _ v undef h2,<- Act.put_defers];exact h
      case enter f args =>
        refine⟨h.1,CallsIn.mono h.2 λ e w'' he=>?_⟩
        cases e with
        | returned u=>exact⟨keep a hy u,by rw[<- Act.put_comm a v u h2]; exact he⟩
        | panicked c=>exact hQ _ _ _ he
        | outgrown=>exact he
      case row row args=>exact⟨h.1,RowsIn.mono h.2 λ u w'' he=>⟨keep a hy u,by rw[<- Act.put_comm a v u h2]; exact he⟩⟩
      case round l f tmps assign body =>
        refine⟨h.1,RoundIn.mono h.2 λ e w'' he=>?_⟩
        cases e with
        | returned u=>exact⟨keep a hy u,by rw[<- Act.put_comm a v u h2]; exact he⟩
        | panicked c=>exact hQ _ _ _ he
        | outgrown=>exact he
    | halt x w' =>
      cases x<;>simp only[Oper.uponIn] at h ⊢
      case panic u=>exact hQ _ _ _ h
  · rename_i hw;simp only[hw] at h;exact⟨λ _ _=>trivial,keep a hy _,by rw[<- Act.put_comm a v undef h2]; exact h.2⟩
theorem tH{ro:Option Nat}{P:Program}{ops:Array Oper}{Q:Exit->Act->World->Prop}{i:Nat}{oi:Oper}{v:Value}{T:List (World->Prop)}(hnd:∀ (j:Nat) (o:Oper),ops[j]? = some o->fN o.op=true)(hi:ops[i]? = some oi)(hsel:∀ (j:Nat) (o:Oper) cs b,ops[j]? = some o->o.op≠.select cs b)(hQ:∀ c a w,¬ Q (.panic c) a w) :
    ∀ (fuel:Nat) (listed:Array Bool) (pend:xe) (a:Act) (w:World),closed ops listed ->
      (∀ j oj,ops[j]? = some oj->j≠i->listed.getD j true=false->(∀ e∈oj.after,Region.binds .any e=true->e.on≠i)->oi.apart ops oj=true) ->
      i∈Region.ready .any ops listed->YieldsIf P ops (holds T) oi v a->holds T w->(∀ p∈pend,holds p.2 w) ->
      mb ro P ops Q fuel (listed.setIfInBounds i true) ((i,T) :: pend) (a.put oi.dst v) w->mb ro P ops Q (fuel+1) listed pend a w:=by
  intro fuel
  induction fuel with
  | zero =>
    intro listed pend a w _ _ hr hy hT hp H;refine⟨λ h=>(by rw[h] at hr; cases hr),λ j hj=>?_⟩
    by_cases hji:j=i
    · subst hji;exact vB (hnd _ _ hi) hi hy hT ⟨λ p hp'=>hp p ((List.mem_filter.1 hp').1),zi 0 _ _ _ _ _ (λ p hp=>List.mem_cons_of_mem _ ((List.mem_filter.1 hp).1)) H⟩
    · have:=ready_mono hj hji;rw[H.1] at this
      cases this
  | succ fuel ih =>
    intro listed pend a w hc hfree hr hy hT hp H;refine⟨λ h=>(by rw[h] at hr; cases hr),λ j hj=>?_⟩
    by_cases hji:j=i
    · subst hji;exact vB (hnd _ _ hi) hi hy hT ⟨λ p hp'=>hp p ((List.mem_filter.1 hp').1),zi _ _ _ _ _ _ (λ p hp=>List.mem_cons_of_mem _ ((List.mem_filter.1 hp).1)) H⟩
    · have h1:=H.2 j (ready_mono hj hji);obtain⟨hjun,oj,hoj,hall⟩:=mem_ready.1 hj;have hiun:listed.getD i false=false:=by
        have h0:=(mem_ready.1 hr).1;rcases Nat.lt_or_ge i listed.size with h' | h'
        · simp[h'] at h0 ⊢; exact h0
        · simp[Array.getElem?_eq_none h'] at h0
      have hnot:∀ e∈oj.after,Region.binds .any e=true->e.on≠i:=λ e he hb heq=>by
        have h1:=hall e he hb;rw[heq,hiun] at h1
        cases h1
      have hdep:dep ops ops.size j i=false:=xL hc hiun _ _ _ hoj hall;have h2:=CD (hnd _ _ hoj) hoj (hfree j oj hoj hji hjun hnot) (λ cs b=>hsel i oi cs b hi) (λ cs b=>hsel j oj cs b hoj) (λ c a w h=>(hQ _ _ _ h).elim) hy h1;have hd:drop ops j ((i,T) :: pend)=(i,T) :: drop ops j pend:=by simp[drop,hdep]
      refine wpOpIn_mono (λ a' w' h3=>?_) h2;obtain⟨hy',hpend,hrest⟩:=h3;rw[hd] at hpend hrest;refine⟨λ p hp=>hpend p (List.mem_cons_of_mem _ hp),?_⟩;have hfree' : ∀ k ok,ops[k]? = some ok->k≠i->(listed.setIfInBounds j true).getD k true=false->(∀ e∈ok.after,Region.binds .any e=true->e.on≠i)->oi.apart ops ok=true:=λ k ok hk hki hun hno=>by
        refine hfree k ok hk hki ?_ hno
        by_cases hjk:j=k
        · subst hjk; exact hjun
        · rw[getD_set_ne true hjk] at hun; exact hun
      have hc' : closed ops (listed.setIfInBounds j true):=λ k ok hk hl e he hb=>by
        by_cases hjk:j=k
        · subst hjk;have:ok=oj:=Option.some.inj (hk.symm.trans hoj);subst this;exact getD_set_true (hall e he hb)
        · rw[getD_set_ne false hjk] at hl;exact getD_set_true (hc k ok hk hl e he hb)
      refine ih (listed.setIfInBounds j true) (drop ops j pend) a' w' hc' hfree' (ready_mono hr (Ne.symm hji)) hy' (hpend (i,T) (List.mem_cons_self ..)) (λ p hp=>hpend p (List.mem_cons_of_mem _ hp)) ?_;rw[Array.setIfInBounds_comm _ _ hji];exact hrest
def RU:Op->Bool
  | .move _ | .assign _ | .pick _ _ _ | .load _ _ | .nilCheck _ | .binOp _ _ _ _ _ | .unOp _ _ _ | .makeInterface _ _ | .makeFunc _ _ _
  | .slice _ _ _ _ _ | .fieldAddr _ _ _ | .field _ _ _ | .indexAddr _ _ _ | .index _ _ _ | .extract _ _ | .typeAssert _ _ _ _ | .build _ _=>true
  | .call { callee:=.builtin .len,.. } | .call { callee:=.builtin .min,.. } | .call { callee:=.builtin .max,.. } | .call { callee:=.builtin .cap,.. }=>true
  | _=>false
def pick(ops:Array Oper):List Nat->Option Nat
  | []=>none
  | i :: is=>match ops[i]? with
    | some o=>cond (RU o.op) (some i) (pick ops is)
    | none=>pick ops is
theorem yB{ops:Array Oper}{i:Nat}:∀ {l:List Nat},pick ops l=some i->i∈l
  | [],h=>by cases h
  | j :: is,h=>by
    unfold pick at h
    split at h
    · rename_i o ho
      cases hr:RU o.op with
      | true=>rw[hr] at h; cases h; exact List.mem_cons_self ..
      | false=>rw[hr] at h; exact List.mem_cons_of_mem _ (yB h)
    · exact List.mem_cons_of_mem _ (yB h)
def PC:List (World->Prop)->World->Prop->Prop
  | [],_,R=>R
  | f :: fs,w,R=>f w/\PC fs w R
theorem zT:∀ {T:List (World->Prop)} {w:World} {R:Prop},PC T w R->holds T w/\R
  | [],_,_,h=>⟨λ _ hf=>(by cases hf),h⟩
  | _ :: _,_,_,h=>by
    obtain⟨h1,h2⟩:=zT h.2;refine⟨λ g hg=>?_,h2⟩;rcases List.mem_cons.1 hg with rfl | hg
    · exact h.1
    · exact h1 g hg
def Ms:xe->World->Prop->Prop
  | [],_,R=>R
  | p :: ps,w,R=>PC p.2 w (Ms ps w R)
theorem zS:∀ {ps:xe} {w:World} {R:Prop},Ms ps w R->(∀ p∈ps,holds p.2 w)/\R
  | [],_,_,h=>⟨λ _ hf=>(by cases hf),h⟩
  | _ :: _,_,_,h=>by
    obtain⟨h1,h2⟩:=zT h;obtain⟨h3,h4⟩:=zS h2;refine⟨λ g hg=>?_,h4⟩;rcases List.mem_cons.1 hg with rfl | hg
    · exact h1
    · exact h3 g hg
def PB:List Prop->Prop
  | []=>True
  | [p]=>p
  | p :: q :: ps=>p/\PB (q :: ps)
theorem zR:∀ {l:List Prop},PB l->∀ p∈l,p
  | [],_,_,h=>by cases h
  | [p],h,q,hq=>by
    have:q=p:=by simpa using hq
    rw[this]; exact h
  | p :: q :: ps,h,r,hr=>by
    rcases List.mem_cons.1 hr with rfl | hr
    · exact h.1
    · exact zR h.2 r hr
def l9(P:Program)(ops:Array Oper):Nat->Array Bool->xe->Tm->World->(Tm->World->Prop)->Prop
  | 0,listed,_,t,w,K=>cond (Region.ready .any ops listed).isEmpty (K t w) False
  | n+1,listed,pend,t,w,K =>
    match pick ops (Region.ready .any ops listed) with
    | some i=>match ops[i]? with
      | none=>False
      | some o=>cond (Region.free .any ops listed i) (gd ops t o (λ t=>QT P o t w λ v T=>l9 P ops n (listed.setIfInBounds i true) ((i,T) :: pend) (pt t o.dst v) w K)
          (λ t=>l9 P ops n (listed.setIfInBounds i true) pend (pt t o.dst undef) w K)) False
    | none=>match Region.ready .any ops listed with
      | []=>K t w
      | i :: is=>PB ((i :: is).map λ i=>match ops[i]? with
        | none=>False
        | some o=>gd ops t o
          (λ t=>Jb P o t w λ v w'=>Ms (drop ops i pend) w' (l9 P ops n (listed.setIfInBounds i true) (drop ops i pend) (pt t o.dst v) w' K))
          (λ t=>l9 P ops n (listed.setIfInBounds i true) (drop ops i pend) (pt t o.dst undef) w K))
theorem qJ{ops:Array Oper}{listed:Array Bool}{i:Nat}(hc:closed ops listed)(hi:i∈Region.ready .any ops listed):closed ops (listed.setIfInBounds i true):=by
  obtain⟨_,oi,hoi,hall⟩:=mem_ready.1 hi;intro k ok hk hl e he hb
  by_cases hik:i=k
  · subst hik;have:ok=oi:=Option.some.inj (hk.symm.trans hoi);subst this;exact getD_set_true (hall e he hb)
  · rw[getD_set_ne false hik] at hl;exact getD_set_true (hc k ok hk hl e he hb)
theorem oW{ro:Option Nat}{P:Program}{ops:Array Oper}{dd:List Deferred}{Q:Exit->Act->World->Prop}(hnd:∀ (j:Nat) (o:Oper),ops[j]? = some o->fN o.op=true)(hs:Region.noSelect ops=true)(hQ:∀ c a w,¬ Q (.panic c) a w){K:Tm->World->Prop}{ds:List Nat}{t0:Tm}(hK:∀ t w,Bc ds t0 t->K t w->Q .normal (lg t dd) w)(hd:∀ (i:Nat) (o:Oper),ops[i]? = some o->∀ d,o.dst=some d->d∈ds) :
    ∀ (n:Nat) (listed:Array Bool) (pend:xe) (t:Tm) (w:World),Bc ds t0 t->closed ops listed->(∀ p∈pend,holds p.2 w) ->
    l9 P ops n listed pend t w K->mb ro P ops Q n listed pend (lg t dd) w
  | 0,listed,pend,t,w,ha,_,_,h=>by
    obtain⟨h1,h2⟩:=jz h;exact⟨List.isEmpty_iff.1 h1,hK _ _ ha h2⟩
  | n+1,listed,pend,t,w,ha,hc,hp,h=>by
    unfold l9 at h
    split at h
    · rename_i i hi;have hir:=yB hi
      split at h
      · exact h.elim
      · rename_i o ho;obtain⟨hf,h⟩:=jz h;rcases wH h with⟨hw,h⟩ | ⟨hw,h⟩
        · obtain⟨v,T,hk,hT,hr⟩:=Lf h;refine tH hnd ho (Region.noSelect_spec hs) hQ n listed pend (lg t dd) w hc (Region.free_spec ho hf) hir (.inl ⟨hw,λ w' hw'=>by rw[kJ]; exact hr w' hw'⟩) hT hp ?_;rw[jG];refine oW hnd hs hQ hK hd n _ _ _ _ (lz ha (hd _ _ ho)) (qJ hc hir) ?_ hk;intro p hp';rcases List.mem_cons.1 hp' with rfl | hp'
          · exact hT
          · exact hp p hp'
        · refine tH (T:=[]) hnd ho (Region.noSelect_spec hs) hQ n listed pend (lg t dd) w hc (Region.free_spec ho hf) hir (.inr ⟨hw,rfl⟩) (λ f hf=>by cases hf) hp ?_;rw[jG];refine ri n _ pend _ _ _ (λ p hp'=>?_) (oW hnd hs hQ hK hd n _ _ _ _ (lz ha (hd _ _ ho)) (qJ hc hir) hp h);rcases List.mem_cons.1 hp' with rfl | hp'
          · exact .inr rfl
          · exact .inl hp'
    · split at h
      · rename_i hr;exact⟨λ _=>hK _ _ ha h,λ i hi=>by rw[hr] at hi; cases hi⟩
      · rename_i i0 is hr;refine⟨λ h0=>(by rw[h0] at hr; cases hr),λ i hi=>?_⟩;have hm:(match ops[i]? with
          | none=>False
          | some o=>gd ops t o
            (λ t=>Jb P o t w λ v w'=>Ms (drop ops i pend) w' (l9 P ops n (listed.setIfInBounds i true) (drop ops i pend) (pt t o.dst v) w' K)) (λ t=>l9 P ops n (listed.setIfInBounds i true) (drop ops i pend) (pt t o.dst undef) w K)):=by
          refine zR h _ (List.mem_map.2 ⟨i,by rw[<- hr]; exact hi,rfl⟩)
        have hcs:=qJ hc hi;unfold wpOpIn
        cases ho:ops[i]? with
        | none=>rw[ho] at hm; exact hm.elim
        | some o =>
          simp only[ho] at hm ⊢;rcases wH hm with⟨hw,hm⟩ | ⟨hw,hm⟩
          · rw[if_pos hw];refine(Ow (hnd _ _ ho) (λ v w' hv=>?_) hm);obtain⟨h1,h2⟩:=zS hv;exact⟨h1,oW hnd hs hQ hK hd n _ _ _ _ (lz ha (hd _ _ ho)) hcs h1 h2⟩
          · rw[if_neg (by simp[hw]),jG];have h1:∀ p∈drop ops i pend,holds p.2 w:=λ p hp'=>hp p ((List.mem_filter.1 hp').1);exact⟨λ _ _=>trivial,h1,oW hnd hs hQ hK hd n _ _ _ _ (lz ha (hd _ _ ho)) hcs h1 hm⟩
end Go.Vc
