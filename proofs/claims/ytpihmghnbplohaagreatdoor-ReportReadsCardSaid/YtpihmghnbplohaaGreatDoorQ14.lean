import Derived.Lib.UnsafeStr
import Derived.Lib.ConvBytes
import Derived.Lib.Bytealg
import Derived.Lib.MakeNoZero
import Derived.Lib.Builder
import Derived.Laws.Externs
import Derived.Test.YtpihmghnbplohaaGreatDoorQ13
set_option linter.unusedVariables false
set_option maxRecDepth 100000
noncomputable section
namespace Go.Gx
open Go Go.Vc
def P0(e:Tr AV):Option Operand->Option (Option AV)
 | none=>some none
 | some x=>match fN e x with
  | some a=>some (some a)
  | none=>none
theorem I5{ρ:Names}{e:Tr AV}{t:Tm}(he:eZ ρ e t){x:Option Operand}{r:Option AV}(h:P0 e x=some r):(∀ a,r=some a->∃ v,x.map (ev t)=some v/\rv ρ a=some v)/\(r=none->x.map (ev t)=none):=by
 cases x with
 | none=>cases h; exact⟨λ a h=>(by cases h),λ _=>rfl⟩
 | some x =>
  simp only[P0] at h
  cases ha:fN e x with
  | none=>rw[ha] at h; cases h
  | some a =>
   rw[ha] at h
   cases h
   exact⟨λ b hb=>by cases hb; exact⟨_,rfl,bp he ha⟩,λ h=>(by cases h)⟩
def Hf(P:Program)(o:Oper)(e:Tr AV):Option AV:=match o.op with
 | .move x=>fN e x
 | .assign x=>fN e x
 | .pick c a b=>match fN e c with
  | some (.bool x)=>fN e (cond x a b)
  | _=>none
 | .nilCheck x=>match fN e x with
  | some (.ptr i j)=>some (.ptr i j)
  | _=>none
 | .convert src dst x=>match P.underlying src,P.underlying dst,fN e x with
  | some _,some (.int k),some (.int _ n)=>some (DQ k (ja k n))
  | some .string,some .string,some (.str s)=>some (.str s)
  | _,_,_=>none
 | .fieldAddr ty x f=>match K1 P ty f,fN e x with
  | some off,some (.ptr i j)=>some (.ptr i (Nat.add j off))
  | _,_=>none
 | .field ty x f=>match fN e x with
  | some a=>Nq P ty a f
  | none=>none
 | .extract x i=>match fN e x with
  | some (.tup vs)=>nu vs i
  | _=>none
 | .makeInterface ty x=>match P.underlying ty,fN e x with
  | some (.interface _),_=>none
  | some _,some a=>some (.iface ty a)
  | _,_=>none
 | .makeFunc fn first cap=>match fn,lF e first.toList,lF e cap.toList with
  | .func f,some xs,some ys=>some (.fn f xs ys)
  | _,_,_=>none
 | .unOp op _ x=>match op,fN e x with
  | .not,some (.bool b)=>some (.bool (not b))
  | .neg,some (.int k n)=>some (DQ k (ja k (Int.sub 0 n)))
  | _,_=>none
 | .binOp op ty x y _=>match fN e x,fN e y with
  | some a,some b=>KZ P op ty x y a b
  | _,_=>none
 | .index ty x i=>match fN e x,fN e i with
  | some a,some b=>Nr P ty a b
  | _,_=>none
 | .indexAddr ty x i=>match fN e x,fN e i with
  | some a,some b=>Nt P ty a b
  | _,_=>none
 | .slice ty x lo hi none=>match fN e x,P0 e lo,P0 e hi with
  | some a,some l,some h=>U8 P ty a l h
  | _,_,_=>none
 | .build ty ps=>match xO e ps.toList with
  | some ps=>Nn P ty ps
  | none=>none
 | .call { callee:=.builtin .len,args:=args,argTypes:=tys }=>match args.toList,tys[0]? with
  | [x],some ty=>match fN e x with
   | some a=>K0 P ty a
   | none=>none
  | _,_=>none
 | .call { callee:=.builtin .min,args:=args,argTypes:=_ }=>match lF e args.toList with
  | some (a :: l)=>W9 false a l
  | _=>none
 | .call { callee:=.builtin .max,args:=args,argTypes:=_ }=>match lF e args.toList with
  | some (a :: l)=>W9 true a l
  | _=>none
 | .call { callee:=.builtin .cap,args:=args,argTypes:=tys }=>match args.toList,tys[0]? with
  | [x],some ty=>match fN e x,P.underlying ty with
   | some .nils,some (.slice _)=>some (.int .i64 (.ofNat 0))
   | _,_=>none
  | _,_=>none
 | _=>none
theorem So{ρ:Names}{v:Value}(h:rv ρ .nils=some v):v=.slice none 0 0:=(Option.some.inj h).symm
theorem Nz{P:Program}{ρ:Names}{o:Oper}{e:Tr AV}{t:Tm}{a:AV}(h:Hf P o e=some a)(he:eZ ρ e t) :
  ∃ v,rv ρ a=some v/\∀ w,(execOp (ev t) o).run P w=.ok (.value v) w:=by
 have lift:∀ {s:Sem Value},(execOp (ev t) o=do pure (.value (<- s)))->jz P ρ s a->∃ v,rv ρ a=some v/\∀ w,(execOp (ev t) o).run P w=.ok (.value v) w:=λ {s} hs hp=>by
  obtain⟨v,h1,h2⟩:=hp;exact⟨v,h1,λ w=>by rw[hs]; simp only[Sem.run_bind,h2,Result.andThen_ok,Sem.run_pure]⟩
 unfold Hf at h
 split at h
 ·rename_i x hx;exact⟨_,bp he h,λ w=>by simp[execOp,hx]⟩
 ·rename_i x hx;exact⟨_,bp he h,λ w=>by simp[execOp,hx]⟩
 ·rename_i c x y hx
  split at h
  ·rename_i b hc;have hcv:ev t c=.bool b:=gA (bp he hc);refine⟨_,bp he h,λ w=>?_⟩
   cases b<;>simp[execOp,hx,hcv,asBool]
  ·cases h
 ·rename_i x hx
  split at h
  ·rename_i i j ha
   cases h
   have hv:=bp he ha;obtain⟨L,hL,hv'⟩:=gB hv;exact⟨_,hv,λ w=>by simp[execOp,hx,hv']⟩
  ·cases h
 ·rename_i src dst x hx
  split at h
  ·rename_i d k k' n hs hd ha
   cases h
   have hv:ev t x=.int k' n:=cI (bp he ha);exact⟨_,by rw[fC]; rfl,λ w=>by simp[execOp,hx,hv,convert,aG hs,aG hd,Conv.intToInt,eH]⟩
  ·rename_i s hs hd ha
   cases h
   have hv:=bp he ha;have hv':=gC hv;exact⟨_,hv,λ w=>by simp[execOp,hx,hv',convert,aG hs,aG hd]⟩
  ·cases h
 ·rename_i ty x f hx
  split at h
  ·rename_i off i j ho ha
   cases h
   obtain⟨L,hL,hv⟩:=gB (bp he ha);refine lift (s:=Instr.fieldAt ty (ev t x) f) (by simp[execOp,hx]) ⟨.pointer (some ⟨L.b,j+off,none⟩),by simp only[rv,hL,Option.map_some]; rfl,λ w=>by rw[hv]; exact Rg ho w⟩
  ·cases h
 ·rename_i ty x f hx
  split at h
  ·rename_i a' ha;exact lift (s:=Instr.field ty (ev t x) f) (by simp[execOp,hx]) (Q7 h (bp he ha))
  ·cases h
 ·rename_i x i hx
  split at h
  ·rename_i vs ha;obtain⟨us,hus,hv⟩:=Iz (bp he ha);rw[yK] at h;obtain⟨u,h1,h2⟩:=uW hus h;exact lift (s:=Instr.extract (ev t x) i) (by simp[execOp,hx]) ⟨u,h2,λ w=>by rw[hv]; simp[Instr.extract,h1]⟩
  ·cases h
 ·rename_i ty x hx
  split at h
  ·cases h
  ·rename_i d a' hni hu ha
   cases h
   refine lift (s:=Instr.makeInterface ty (ev t x)) (by simp[execOp,hx]) ⟨.iface ty (ev t x),by simp only[rv,bp he ha,Option.map_some],λ w=>?_⟩;simp only[Instr.makeInterface,Sem.run_bind,aG hu,Result.andThen_ok]
   cases d<;>first|rfl|exact absurd rfl (hni _)
  ·cases h
 ·rename_i fn first cap hx
  split at h
  ·rename_i f xs ys h1 h2
   cases h
   have g1:=gj he h1;have g2:=gj he h2;refine lift (s:=Instr.makeFunc (.func f) (first.map (ev t)) (cap.map (ev t))) (by simp[execOp,hx]) ⟨.func (.func f) (first.toList.map (ev t)).toArray (cap.toList.map (ev t)).toArray,by simp only[rv,g1,g2],λ w=>?_⟩;have e1:first.map (ev t)=(first.toList.map (ev t)).toArray:=Array.ext' (by rw[Array.toList_map])
   have e2:cap.map (ev t)=(cap.toList.map (ev t)).toArray:=Array.ext' (by rw[Array.toList_map]);simp only[Instr.makeFunc,Sem.run_pure,e1,e2]
  ·cases h
 ·rename_i op ty x hx
  split at h
  ·rename_i b ha
   cases h
   have hv:ev t x=.bool b:=gA (bp he ha);exact lift (s:=Op.unary .not (ev t x)) (by simp[execOp,hx]) ⟨_,rfl,λ w=>by simp[hv,Op.unary]⟩
  ·rename_i k n ha
   cases h
   have hv:ev t x=.int k n:=cI (bp he ha);exact lift (s:=Op.unary .neg (ev t x)) (by simp[execOp,hx]) ⟨_,by rw[fC]; rfl,λ w=>by rw[hv,eH]; rfl⟩
  ·cases h
 ·rename_i op ty x y yt hx
  split at h
  ·rename_i a' b' ha hb;exact lift (s:=do eqGuard op ty x y (ev t x) (ev t y); binOp op ty (ev t x) (ev t y)) (by simp only[execOp,hx]) (QW h (bp he ha) (bp he hb))
  ·cases h
 ·rename_i ty x i hx
  split at h
  ·rename_i a' b' ha hb;exact lift (s:=Instr.index ty (ev t x) (ev t i)) (by simp[execOp,hx]) (Q8 h (bp he ha) (bp he hb))
  ·cases h
 ·rename_i ty x i hx
  split at h
  ·rename_i a' b' ha hb;exact lift (s:=Instr.indexAt ty (ev t x) (ev t i)) (by simp[execOp,hx]) (Ra h (bp he ha) (bp he hb))
  ·cases h
 ·rename_i ty x lo hi hx
  split at h
  ·rename_i a' l' h' ha hl hh;obtain⟨l1,l2⟩:=I5 he hl;obtain⟨h1,h2⟩:=I5 he hh;exact lift (s:=Instr.sliceAt ty (ev t x) (lo.map (ev t)) (hi.map (ev t)) none) (by simp[execOp,hx]) (Rj h (bp he ha) l1 l2 h1 h2)
  ·cases h
 ·rename_i ty ps hx
  split at h
  ·rename_i az hps;have hp:=C5 he hps;refine lift (s:=Instr.build ty (ps.map λ (i,x)=>(i,ev t x))) (by simp[execOp,hx]) (QX h ?_);simpa using hp
  ·cases h
 ·rename_i args tys hx
  split at h
  ·rename_i x ty hargs ht
   split at h
   ·rename_i a' ha;refine lift (s:=Builtin.len_ tys o.type #[ev t x]) ?_ (Rb h (bp he ha) ht);have:args.map (ev t) = #[ev t x]:=by
     have:args = #[x]:=by rw[<- hargs]
     rw[this]; simp
    simp[execOp,hx,resolve,invoke,builtin,this]
   ·cases h
  ·cases h
 ·rename_i args tys hx
  split at h
  ·rename_i a' l hl;have hv:=gj he hl;obtain⟨u,us,hm,h1,h2⟩:=aP hv;obtain⟨r,g1,g2⟩:=HO (P:=P) h h1 h2;refine lift (s:=Builtin.min_ tys o.type (args.map (ev t))) (by simp[execOp,hx,resolve,invoke,builtin]) ⟨r,g1,λ w=>?_⟩;have:(args.map (ev t)).toList=u :: us:=by simpa using hm
   simp only[Builtin.min_,this];exact g2 w
  ·cases h
 ·rename_i args tys hx
  split at h
  ·rename_i a' l hl;have hv:=gj he hl;obtain⟨u,us,hm,h1,h2⟩:=aP hv;obtain⟨r,g1,g2⟩:=HO (P:=P) h h1 h2;refine lift (s:=Builtin.max_ tys o.type (args.map (ev t))) (by simp[execOp,hx,resolve,invoke,builtin]) ⟨r,g1,λ w=>?_⟩;have:(args.map (ev t)).toList=u :: us:=by simpa using hm
   simp only[Builtin.max_,this];exact g2 w
  ·cases h
 ·rename_i args tys hx
  split at h
  ·rename_i x ty hargs ht
   split at h
   ·rename_i e' ha hu
    cases h
    refine lift (s:=Builtin.cap_ tys o.type #[.slice none 0 0]) ?_ ⟨_,rfl,λ w=>by simp[Builtin.cap_,ht,aG hu,goInt]⟩;have:args.map (ev t) = #[ev t x]:=by
     have:args = #[x]:=by rw[<- hargs]
     rw[this]; simp
    simp[execOp,hx,resolve,invoke,builtin,this,So (bp he ha)]
   ·cases h
  ·cases h
 ·cases h
structure Hj where
 i:Nat
 o:Nat
 vs:List AV
def mV(ρ:Names)(d:Hj):World->Prop:=λ w=>∃ L vs,ρ d.i=some L/\eN ρ d.vs=some vs/\af w ⟨L.b,d.o,none⟩ 0 vs
def cX(h:AH)(i o n:Nat):Option (List AV):=match h.get i with
 | some (some ao)=>cond (Nat.ble (Nat.add o n) ao.cells.length) (some ((ao.cells.drop o).take n)) none
 | _=>none
theorem hJ{w0 w:World}{ρ:Names}{h:AH}(hr:fY w0 w ρ h){i o n:Nat}{az:List AV}(hc:cX h i o n=some az) :
  ∃ L vs,ρ i=some L/\eN ρ az=some vs/\vs.length=n/\af w ⟨L.b,o,none⟩ 0 vs:=by
 unfold cX at hc
 split at hc
 ·rename_i ao hi
  cases hb:Nat.ble (Nat.add o n) ao.cells.length with
  | false=>rw[hb] at hc; cases hc
  | true =>
   rw[hb] at hc
   cases hc
   have hle:o+n<=ao.cells.length:=Nat.le_of_ble_eq_true hb;obtain⟨L,cur,vs,hl⟩:=hr.live i ao hi;have hv:=qf n (AF o hl.val);refine⟨L,_,hl.at_,hv,?_,bH _ 0 λ j u hj=>?_⟩
   ·have:=bC hl.val
    simp; omega
   ·rw[List.getElem?_take] at hj
    split at hj
    ·rw[List.getElem?_drop] at hj;have ha:∃ a,ao.cells[o+j]?=some a:=⟨ao.cells[o+j]'(by omega),by simp[show o+j<ao.cells.length by omega]⟩;obtain⟨a,ha⟩:=ha;obtain⟨v,hv1,hv2⟩:=uW hl.val ha;rw[hv1] at hj;have hj:v=u:=Option.some.inj hj;subst hj;obtain⟨v',hv',hcell⟩:=hl.cell ha;have:v' = v:=Option.some.inj (hv'.symm.trans hv2);subst this;have e:(⟨L.b,o,none⟩:Addr).add (0+j)=⟨L.b,o+j,none⟩:=by rw[aZ]; congr 1; omega
     rw[e];exact hcell
    ·cases hj
 ·cases hc
def T4(P:Program)(ty:TypeId):Option (Nat×Bool):=match P.underlying ty,dQ P ty with
 | some d,some n=>cond (vZ d) (some (n,true)) (some (1,false))
 | _,_=>none
def Ox(b:Bool)(az:List AV):Option AV:=match b,az with
 | true,az=>some (.agg az)
 | false,[a]=>some a
 | false,_=>none
def U6(P:Program)(ty:TypeId)(a:AV)(h:AH):Option (AV×List Hj):=match a,T4 P ty with
 | .ptr i o,some (n,b)=>match cX h i o n with
  | some az=>match Ox b az with
   | some r=>some (r,[⟨i,o,az⟩])
   | none=>none
  | none=>none
 | _,_=>none
theorem Nu{P:Program}{ty:TypeId}{a r:AV}{h:AH}{ds:List Hj}(hg:U6 P ty a h=some (r,ds)){w0 w:World}{ρ:Names}(hr:fY w0 w ρ h){va:Value}(ha:rv ρ a=some va) :
  ∃ v,rv ρ r=some v/\holds (ds.map (mV ρ)) w/\∀ w',holds (ds.map (mV ρ)) w'->(Instr.loadAt ty va).run P w' = .ok v w':=by
 unfold U6 at hg
 split at hg
 ·rename_i i o n b hs
  split at hg
  ·rename_i az hc
   split at hg
   ·rename_i r' hp
    cases hg
    obtain⟨L,hL,rfl⟩:=gB ha;obtain⟨L',vs,hL',hvs,hlen,hat⟩:=hJ hr hc;obtain rfl:L=L':=Option.some.inj (hL.symm.trans hL');have hT:holds (([⟨i,o,az⟩]:List Hj).map (mV ρ)) w:=λ f hf=>by
     simp at hf; subst hf;exact⟨L,vs,hL,hvs,hat⟩
    have hfact:∀ w',holds (([⟨i,o,az⟩]:List Hj).map (mV ρ)) w'->af w' ⟨L.b,o,none⟩ 0 vs:=by
     intro w' hw';obtain⟨L2,vs2,h1,h2,h3⟩:=hw' (mV ρ ⟨i,o,az⟩) (List.mem_cons_self ..);obtain rfl:L=L2:=Option.some.inj (hL.symm.trans h1);obtain rfl:vs=vs2:=Option.some.inj (hvs.symm.trans h2);exact h3
    unfold T4 at hs
    split at hs
    ·rename_i d n' hu hsz
     cases hd:vZ d with
     | false =>
      rw[hd] at hs
      cases hs
      have hag:∀ w,(isAgg ty).run P w=.ok false w:=λ w=>by cases d<;>first|(cases hd; done)|simp[isAgg,aG hu]
      unfold Ox at hp
      split at hp
      ·rename_i heq; cases heq
      ·rename_i a0
       cases hp
       obtain⟨v0,us,rfl,hv0,hu'⟩:=aP hvs
       cases hu'
       refine⟨v0,hv0,hT,λ w' hw'=>?_⟩;have h3:=(hfact w' hw').1;have h3:w'.cell? ⟨L.b,o,none⟩=some v0:=by simpa[Addr.add] using h3
       simp[Instr.loadAt,Instr.sureAddr,loadVar,hag,h3]
      ·cases hp
     | true =>
      rw[hd] at hs
      cases hs
      have hag:∀ w,(isAgg ty).run P w=.ok true w:=λ w=>by cases d<;>first|(cases hd; done)|simp[isAgg,aG hu]
      unfold Ox at hp
      split at hp
      ·cases hp
       refine⟨.agg vs.toArray,by simp only[rv,hvs,Option.map_some],hT,λ w' hw'=>?_⟩;have h3:=hfact w' hw';have hn:dQ P ty=some vs.length:=by rw[hlen]; exact hsz
       simp only[Instr.loadAt,Instr.sureAddr,loadVar,Sem.run_bind,Sem.run_pure,Result.andThen_ok,hag,if_true,bZ hn,loadCells,qQ vs 0 _ h3]
       simp
      ·rename_i heq; cases heq
      ·rename_i heq _; cases heq
    ·cases hs
   ·cases hg
  ·cases hg
 ·cases hg
def Ri(P:Program)(o:Oper)(e:Tr AV)(h:AH):Option (AV×List Hj):=match o.op with
 | .load ty x=>match fN e x with
  | some a=>U6 P ty a h
  | none=>none
 | _=>match Hf P o e with
  | some a=>some (a,[])
  | none=>none
theorem NA{P:Program}{o:Oper}{e:Tr AV}{h:AH}{a:AV}{ds:List Hj}(hg:Ri P o e h=some (a,ds)){w0 w:World}{ρ:Names}(hr:fY w0 w ρ h){t:Tm}(he:eZ ρ e t) :
  ∃ v,rv ρ a=some v/\holds (ds.map (mV ρ)) w/\∀ w',holds (ds.map (mV ρ)) w'->(execOp (ev t) o).run P w' = .ok (.value v) w':=by
 unfold Ri at hg
 split at hg
 ·rename_i ty x hx
  split at hg
  ·rename_i a' ha;obtain⟨v,h1,h2,h3⟩:=Nu hg hr (bp he ha);exact⟨v,h1,h2,λ w' hw'=>by simp[execOp,hx,h3 w' hw']⟩
  ·cases hg
 ·split at hg
  ·rename_i a' ha
   cases hg
   obtain⟨v,h1,h2⟩:=Nz ha he;exact⟨v,h1,λ f hf=>(by cases hf),λ w' _=>h2 w'⟩
  ·cases hg
def y5(P:Program)(w0 w:World)(ρ:Names)(s:Sem Value)(a:AV)(h' : AH):Prop :=
 ∃ v w' ρ',s.run P w=.ok v w'/\Ext ρ ρ'/\fY w0 w' ρ' h'/\rv ρ' a=some v
def one:AV->Bool
 | .agg _=>false
 | .tup _=>false
 | _=>true
theorem VF{ρ:Names}{a:AV}{v:Value}(h1:one a=true)(h:rv ρ a=some v):v.oneCell' = true:=by
 cases a with
 | agg cs=>cases h1
 | tup cs=>cases h1
 | int k n=>cases cI h; rfl
 | bool b=>cases gA h; rfl
 | str l=>cases gC h; rfl
 | nilp=>cases h; rfl
 | nils=>cases h; rfl
 | nili=>cases h; rfl
 | nilf=>cases h; rfl
 | ptr i o=>obtain⟨L,hL,rfl⟩:=gB h; rfl
 | sli i o l z=>obtain⟨L,hL,_,_,rfl⟩:=dP h; rfl
 | iface T x =>
  simp only[rv,Option.map_eq_some_iff] at h;obtain⟨u,_,rfl⟩:=h;rfl
 | fn f x y =>
  simp only[rv] at h
  split at h
  ·cases h; rfl
  ·cases h
 | yld i =>
  simp only[rv,Option.map_eq_some_iff] at h;obtain⟨u,_,rfl⟩:=h;rfl
def D6:List AV->Bool
 | []=>true
 | a :: l=>cond (one a) (D6 l) false
theorem yR{ρ:Names}:∀ {l:List AV} {vs:List Value},D6 l=true->eN ρ l=some vs->∀ v∈vs,v.oneCell' = true
 | [],_,_,h=>by cases h; simp
 | a :: l,vs,h1,h=>by
  obtain⟨v,us,rfl,g1,g2⟩:=aP h;unfold D6 at h1
  cases ha:one a with
  | false=>rw[ha] at h1; cases h1
  | true =>
   rw[ha] at h1;intro u hu;rcases List.mem_cons.1 hu with rfl|hu
   ·exact VF ha g1
   ·exact yR h1 g2 u hu
def K3(P:Program)(ty:TypeId)(p a:AV)(h:AH):Option AH:=match p,dQ P ty with
 | .ptr i o,some sz=>match h.get i with
  | some (some ao)=>cond (Nat.beq (cG a).length sz&&Nat.ble (Nat.add o sz) ao.cells.length&&D6 (cG a)&&not ao.ro) (some (h.put i (some ⟨ao.T,setAt ao.cells o (cG a),ao.ro⟩))) none
  | _=>none
 | _,_=>none
theorem Rk{P:Program}{ty:TypeId}{p a:AV}{h h' : AH}(hg:K3 P ty p a h=some h'){w0 w:World}{ρ:Names}(hr:fY w0 w ρ h){vp va:Value}(hp:rv ρ p=some vp)(ha:rv ρ a=some va) :
  ∃ w',(Instr.storeAt ty vp va).run P w=.ok () w'/\fY w0 w' ρ h':=by
 unfold K3 at hg
 split at hg
 ·rename_i i o sz hsz
  split at hg
  ·rename_i ao hi
   cases hb:(Nat.beq (cG a).length sz&&Nat.ble (Nat.add o sz) ao.cells.length&&D6 (cG a)&&not ao.ro) with
   | false=>rw[hb] at hg; cases hg
   | true =>
    rw[hb] at hg
    cases hg
    simp only[Bool.and_eq_true] at hb;obtain⟨⟨⟨h1,h2⟩,h3⟩,hro⟩:=hb;have hro:ao.ro=false:=by cases hq:ao.ro with
     | false=>rfl
     | true=>rw[hq] at hro; cases hro
    have h1:=beq_iff.1 h1;have h2:o+sz<=ao.cells.length:=Nat.le_of_ble_eq_true h2;obtain⟨L,hL,rfl⟩:=gB hp;obtain⟨L1,cur,vs,hl⟩:=hr.live i ao hi;obtain rfl:L=L1:=Option.some.inj (hL.symm.trans hl.at_);obtain⟨fz,hblk,hfz⟩:=hl.blk;obtain rfl:=hfz hro;have hc:=jt ha;have hcl:=bC hc;have hvl:=bC hl.val;have hone:=yR h3 hc;have hcs:va.cells.toList.length=sz:=by rw[hcl,h1]
    have hcur:vs.length<=cur.toList.length:=by rw[<- hl.here]; simp; omega
    have hfit:o+0+va.cells.toList.length<=cur.size:=by simp at hcur; omega
    refine⟨_,?_,hr.rewrite hi hL (w':=w.setRow L.b (setAt cur.toList o va.cells.toList).toArray) (cells:=setAt ao.cells o (cG a)) (cur':=(setAt cur.toList o va.cells.toList).toArray) (vs':=setAt vs o va.cells.toList) ?_ ?_ (mA o hl.val hc) ?_ ?_⟩
    ·have hno : ¬ va.cells.size≠sz:=by simp at hcs; simp[hcs]
     simp only[Instr.storeAt,Instr.sureAddr,storeVar,Sem.run_bind,Sem.run_pure,Result.andThen_ok,bZ hsz,if_neg hno];rw[run_storeCells_at (P:=P) L.b o ao.T va.cells.toList 0 cur w hblk hfit hone];rw[u7 _ _ _ (by simpa using hfit)]
     simp
    ·exact⟨by simp[World.setRow],λ k _ hn=>setRow_other w L.b k _ (by simpa using hn),⟨rfl,rfl,rfl⟩⟩
    ·exact setRow_heap w L.b cur _ ao.T _ hblk
    ·rw[dG,nC _ _ _ _ (by omega)];rw[hl.here]
    ·simp only[List.size_toArray,dG];simpa using hl.room
  ·cases hg
 ·cases hg
def Fz(T:TypeId)(a:AV)(h:AH)(n:Nat):Option (AV×AH):=match h.get n with
 | none=>some (.ptr n 0,h.put n (some ⟨T,cG a,false⟩))
 | some _=>none
theorem Jv{P:Program}{T:TypeId}{a r:AV}{h h' : AH}{n:Nat}(hg:Fz T a h n=some (r,h')){w0 w:World}{ρ:Names}(hr:fY w0 w ρ h){va:Value}(ha:rv ρ a=some va) :
  y5 P w0 w ρ (do pure (.pointer (some (<- newVar T va)))) r h':=by
 unfold Fz at hg
 split at hg
 ·rename_i hn
  cases hg
  have hc:=jt ha;have:=hr.alloc hn (T:=T) hc (esz:=va.cells.toList.length) (tot:=1) (by simp) (by simp[maxLen]);refine⟨_,_,_,?_,Ext.eU (ct hr hn),this,by simp only[rv,eU,if_true,Option.map_some]; rfl⟩;simp[newVar,newRow,newObj];rfl
 ·cases hg
def tn{α:Type}:Nat->List α->List α
 | 0,_=>[]
 | n+1,l=>l++tn n l
theorem p5{α:Type}(l:List α):∀ n,(tn n l).length=n*l.length
 | 0=>by simp[tn]
 | n+1=>by simp[tn,p5 l n,Nat.add_mul]; omega
theorem Gy{α:Type}[Inhabited α](l:List α):∀ (n i:Nat),i<n*l.length->(tn n l)[i]?=some (l.toArray[i%l.length]!)
 | 0,i,h=>by simp at h
 | n+1,i,h=>by
  unfold tn
  by_cases hi:i<l.length
  ·rw[List.getElem?_append_left hi,Nat.mod_eq_of_lt hi];simp[hi]
  ·rw[List.getElem?_append_right (by omega)];have hn:(n+1)*l.length=n*l.length+l.length:=by rw[Nat.add_mul,Nat.one_mul]
   rw[hn] at h;rw[Gy l n (i-l.length) (by omega)];have:i%l.length=(i-l.length)%l.length:=Nat.mod_eq_sub_mod (by omega);rw[this]
theorem CA(z:Array Value)(n:Nat):(tn n z.toList)=(madeCells z (n*z.size)).toList:=by
 apply List.ext_getElem?;intro i
 by_cases hi:i<n*z.size
 ·rw[Gy z.toList n i (by simpa using hi)];simp[madeCells,hi]
 ·have h1:(tn n z.toList).length<=i:=by rw[p5]; simpa using hi
  have h2:(madeCells z (n*z.size)).toList.length<=i:=by simpa[size_madeCells] using hi
  rw[List.getElem?_eq_none h1,List.getElem?_eq_none h2]
theorem Az{ρ:Names}{l:List AV}{vs:List Value}(h:eN ρ l=some vs):∀ n,eN ρ (tn n l)=some (tn n vs)
 | 0=>rfl
 | n+1=>kL h (Az h n)
def zF(P:Program)(t:TypeId):Option (TypeId×Nat×Nat×List AV):=match P.underlying t with
 | some (.slice e)=>match P.info? e,xJ P e with
  | some i,some z=>cond (Nat.beq (cG z).length i.size&&Nat.ble 1 i.size) (some (e,i.size,i.bytes,cG z)) none
  | _,_=>none
 | _=>none
structure Ug (P:Program) (t e:TypeId) (sz by_:Nat) (zs:List AV):Prop where
 slT:∃ z,fZ P t e z sz by_/\∀ ρ,eN ρ zs=some z.cells.toList
theorem pg{P:Program}{t e:TypeId}{sz by_:Nat}{zs:List AV}(h:zF P t=some (e,sz,by_,zs)):Ug P t e sz by_ zs:=by
 unfold zF at h
 split at h
 ·rename_i e' hu
  split at h
  ·rename_i i z hi hz
   cases hb:(Nat.beq (cG z).length i.size&&Nat.ble 1 i.size) with
   | false=>rw[hb] at h; cases h
   | true =>
    rw[hb] at h
    cases h
    simp only[Bool.and_eq_true] at hb;have h1:=beq_iff.1 hb.1;have h2:=Nat.le_of_ble_eq_true hb.2;obtain⟨v,hv,⟨i',hi',hz'⟩,_⟩:=vB hz (λ _=>none);obtain rfl:i=i':=Option.some.inj (hi.symm.trans hi');have hlen:=bC (jt hv);refine⟨v,⟨hu,⟨i,hi,hz',rfl,rfl⟩,by rw[<- h1,<- hlen]; simp,h2⟩,λ ρ=>?_⟩;obtain⟨v2,hv2,⟨i2,hi2,hz2⟩,_⟩:=vB hz ρ;obtain rfl:i=i2:=Option.some.inj (hi.symm.trans hi2);obtain rfl:v=v2:=Option.some.inj (hz'.symm.trans hz2);exact jt hv2
  ·cases h
 ·cases h
def No(P:Program)(ty:TypeId)(len:Nat)(ps:List (Nat×AV))(h:AH)(n:Nat):Option (AV×AH):=match zF P ty,h.get n with
 | some (e,sz,_,zs),none=>match wP (λ i=>some (Nat.mul i sz,sz)) (tn len zs) ps with
  | some cells=>cond (Nat.ble (Nat.mul len sz) 16777216) (some (.sli n 0 len sz,h.put n (some ⟨e,cells,false⟩))) none
  | none=>none
 | _,_=>none
theorem QZ{P:Program}{ty:TypeId}{len n:Nat}{ps:List (Nat×AV)}{qs:Array (Nat×Value)}{h h' : AH}{r:AV}(hg:No P ty len ps h n=some (r,h')){w0 w:World}{ρ:Names}(hr:fY w0 w ρ h)(hp:As ρ ps qs.toList) :
  y5 P w0 w ρ (Instr.buildSlice ty len qs) r h':=by
 unfold No at hg
 split at hg
 ·rename_i e sz by_ zs he hn
  split at hg
  ·rename_i cells hf
   cases hb:Nat.ble (Nat.mul len sz) 16777216 with
   | false=>rw[hb] at hg; cases hg
   | true =>
    rw[hb] at hg
    cases hg
    have hle:len*sz<=16777216:=Nat.le_of_ble_eq_true hb;obtain⟨z,hT,hzs⟩:=(pg he).slT;obtain⟨i,hi,hz,hs,hby⟩:=hT.i;have hzl:z.cells.toList.length=sz:=by simpa using hT.zc
    obtain⟨us,h1,h2⟩:=tP hf (Az (hzs ρ) len) hp;have hlen:us.length=len*sz:=by
     have a1:=bC h1;have:∀ {ps:List (Nat×AV)} {c res:List AV},wP (λ i=>some (Nat.mul i sz,sz)) c ps=some res->res.length=c.length:=by
      intro ps
      induction ps with
      | nil=>intro c res hh; cases hh; rfl
      | cons p ps ih =>
       intro c res hh;obtain⟨j,v⟩:=p;simp only[wP] at hh
       cases hb2:(Nat.beq (cG v).length sz&&Nat.ble (Nat.add (Nat.mul j sz) (cG v).length) c.length) with
       | false=>rw[hb2] at hh; cases hh
       | true=>rw[hb2] at hh; rw[ih hh,dG]
     have a2:=this hf;have a3:=bC (hzs ρ);rw[a1,a2,p5,<- a3,hzl]
    have hal:=hr.alloc hn (T:=e) h1 (esz:=sz) (tot:=len) hlen.symm (by unfold maxLen; have:len<=len*sz:=Nat.le_mul_of_pos_right _ hT.pos; omega);refine⟨.slice (some ⟨w.heap.size,0,none⟩) len len,_,_,?_,Ext.eU (ct hr hn),hal,?_⟩
    ·have hsz:dQ P e=some sz:=by simp[dQ,hi,hs]
     have hno : ¬ (len*sz>2 ^ 24):=by simpa using hle
     have hzv:∀ w,(zeroValue e).run P w=.ok z w:=λ w=>by simp[zeroValue,typeInfo,hi,hz]
     have hfill:∀ zz:Array Value,(len*sz=0\/zz=z.cells)->Instr.fill (λ i=>some (i*sz,sz)) ((Array.range (len*sz)).map (zz[· % zz.size]!)) qs.toList=some us.toArray:=by
      intro zz hzz;have hm:(Array.range (len*sz)).map (zz[· % zz.size]!)=(tn len z.cells.toList).toArray:=by
       rcases hzz with h0|rfl
       ·have hl0:len=0:=by
         rcases Nat.mul_eq_zero.1 h0 with h|h
         ·exact h
         ·have:=hT.pos; omega
        subst hl0;simp[tn]
       ·have hrm:=CA z.cells len;have hzz:z.cells.size=sz:=hT.zc;rw[hrm,Array.toArray_toList];unfold madeCells;rw[hzz]
      rw[hm];exact h2
     have hnew:∀ c:Array Value,(newRow e c).run P w=.ok (⟨w.heap.size,0,none⟩:Addr) (w.alloc (.cells c e)):=λ c=>by simp[newRow,newObj]; rfl
     by_cases h0:len*sz=0
     ·have h5:=hfill #[] (.inl h0);simp only[Instr.buildSlice,Sem.run_bind,aG hT.u,bZ hsz,Result.andThen_ok,if_neg hno,if_pos h0,Sem.run_pure,h5,hnew]
     ·have h5:=hfill z.cells (.inr rfl);simp only[Instr.buildSlice,Sem.run_bind,aG hT.u,bZ hsz,Result.andThen_ok,if_neg hno,if_neg h0,Sem.run_pure,hzv,h5,hnew]
    ·simp[rv,eU]
  ·cases hg
 ·cases hg
def U7(P:Program)(ty:TypeId)(l c:AV)(h:AH)(n:Nat):Option (AV×AH):=match l,c,zF P ty,h.get n with
 | .int _ (.ofNat l),.int _ (.ofNat c),some (e,sz,by_,zs),none =>
  cond (Nat.ble l c&&Nat.ble (Nat.mul by_ c) 281474976710656&&Nat.ble c 9223372036854775807) (some (.sli n 0 l sz,h.put n (some ⟨e,tn c zs,false⟩))) none
 | _,_,_,_=>none
theorem Rc{P:Program}{ty:TypeId}{l c r:AV}{h h' : AH}{n:Nat}(hg:U7 P ty l c h n=some (r,h')){w0 w:World}{ρ:Names}(hr:fY w0 w ρ h){vl vc:Value}(hl:rv ρ l=some vl)(hc:rv ρ c=some vc) :
  y5 P w0 w ρ (Instr.makeSlice ty vl vc) r h':=by
 unfold U7 at hg
 split at hg
 ·rename_i k l k' c e sz by_ zs he hn
  cases hb:(Nat.ble l c&&Nat.ble (Nat.mul by_ c) 281474976710656&&Nat.ble c 9223372036854775807) with
  | false=>rw[hb] at hg; cases hg
  | true =>
   rw[hb] at hg
   cases hg
   cases cI hl; cases cI hc
   simp only[Bool.and_eq_true] at hb;obtain⟨⟨h1,h2⟩,h3⟩:=hb;have h1:=Nat.le_of_ble_eq_true h1;have h2:by_*c<=281474976710656:=Nat.le_of_ble_eq_true h2;have h3:=Nat.le_of_ble_eq_true h3;obtain⟨z,hT,hzs⟩:=(pg he).slT;obtain⟨i,hi,hz,hs,hby⟩:=hT.i;have hrun:=run_make (P:=P) w ty e i z hT.u hi hz k k' (l:Int) (c:Int) (by omega) (by omega) (by rw[hby,<- Int.natCast_mul]; exact Int.ofNat_le.2 h2) (by omega);have hzl:z.cells.size=sz:=hT.zc;have hcells:eN ρ (tn c zs)=some (madeCells z.cells (c*i.size)).toList:=by
    rw[hs,<- hzl,<- CA];exact Az (hzs ρ) c
   have hal:=hr.alloc hn (T:=e) hcells (esz:=sz) (tot:=c) (by simp[size_madeCells,hs]) h3;refine⟨_,_,_,hrun,Ext.eU (ct hr hn),by simpa using hal,?_⟩;simp[rv,eU,h1]
 ·cases hg
def QS(P:Program)(tys:List TypeId)(s x:AV)(h:AH)(n:Nat):Option (AV×AH):=match tys with
 | [t,t']=>cond (Nat.beq t t') (match zF P t with
  | some (e,sz,by_,_)=>match x with
   | .nils=>match s with
    | .nils=>some (.nils,h)
    | .sli i o l z=>some (.sli i o l z,h)
    | _=>none
   | .sli j o m z=>match cX h j (Nat.mul o z) (Nat.mul m z),h.get n with
    | some news,none=>cond (Nat.beq z sz&&D6 news&&Nat.ble 1 m) (match s with
     | .nils=>cond (Nat.ble (Nat.mul m by_) 140737488355328&&Nat.ble m 9223372036854775807) (some (.sli n 0 m sz,h.put n (some ⟨e,news,false⟩))) none
     | .sli i 0 l z'=>match cX h i 0 (Nat.mul l z'),h.get i with
      | some olds,some (some ao)=>cond (Nat.beq z' sz&&not ao.ro&&Nat.beq ao.T e&&Nat.ble (Nat.mul (Nat.add l m) by_) 140737488355328&&Nat.ble (Nat.add l m) 9223372036854775807)
        (some (.sli n 0 (Nat.add l m) sz,(h.put i none).put n (some ⟨e,olds++news,false⟩))) none
      | _,_=>none
     | _=>none) none
    | _,_=>none
   | _=>none
  | none=>none) none
 | _=>none
theorem E1{P:Program}{w:World}{t ty e:TypeId}{z:Value}{sz by_:Nat}(hT:fZ P t e z sz by_){base:OA}{n c:Nat}(hn:n<=c):(Builtin.append_ #[t,t] ty #[.slice base n c,.slice none 0 0]).run P w=.ok (.slice base n c) w:=by
 obtain⟨i,hi,hz,hs,hby⟩:=hT.i;have hsz:dQ P e=some sz:=by simp[dQ,hi,hs]
 have hni:∀ w,(underlying t).run P w=.ok (.slice e) w:=aG hT.u
 cases base with
 | none=>simp[Builtin.append_,hni,bZ hsz,Builtin.lenOf,hn,Builtin.firstCells]
 | some a=>simp[Builtin.append_,hni,bZ hsz,Builtin.lenOf,hn,Builtin.firstCells,storeCells]
theorem QT{P:Program}{tys:Array TypeId}{dst:TypeId}{s x r:AV}{h h' : AH}{n:Nat}(hg:QS P tys.toList s x h n=some (r,h')){w0 w:World}{ρ:Names}(hr:fY w0 w ρ h){vs vx:Value}(hs:rv ρ s=some vs)(hx:rv ρ x=some vx) :
  y5 P w0 w ρ (Builtin.append_ tys dst #[vs,vx]) r h':=by
 unfold QS at hg
 split at hg
 ·rename_i t t' htys
  cases ht:Nat.beq t t' with
  | false=>rw[ht] at hg; cases hg
  | true =>
   rw[ht] at hg;obtain rfl:=beq_iff.1 ht;have htys' : tys = #[t,t]:=by rw[<- htys]
   subst htys';simp only[cond_true] at hg
   split at hg
   ·rename_i e sz by_ zs he;obtain⟨z0,hT,hzs⟩:=(pg he).slT
    split at hg
    ·cases hx
     split at hg
     ·cases hg; cases hs
      exact⟨_,w,ρ,E1 hT (Nat.le_refl _),Ext.refl _,hr,rfl⟩
     ·cases hg
      obtain⟨L,hL,hle,hz,rfl⟩:=dP hs;exact⟨_,w,ρ,E1 hT (by omega),Ext.refl _,hr,hs⟩
     ·cases hg
    ·rename_i j o m z
     split at hg
     ·rename_i news hnews hn
      cases hb:(Nat.beq z sz&&D6 news&&Nat.ble 1 m) with
      | false=>rw[hb] at hg; cases hg
      | true =>
       rw[hb] at hg;simp only[cond_true] at hg;simp only[Bool.and_eq_true] at hb;obtain⟨⟨hz1,hones⟩,hm1⟩:=hb;obtain rfl:=beq_iff.1 hz1;have hm1:=Nat.le_of_ble_eq_true hm1;obtain⟨Lx,hLx,_,_,rfl⟩:=dP hx;obtain⟨Lx',us,hLx',hus,hul,hat⟩:=hJ hr hnews;obtain rfl:Lx=Lx':=Option.some.inj (hLx.symm.trans hLx');have hul:us.length=m*z:=hul;have hat:af w ⟨Lx.b,o*z,none⟩ 0 us:=hat;have hnews' : ∀ j u,us[j]?=some u->w.cell? ((⟨Lx.b,o*z,none⟩:Addr).add j)=some u:=by
        have:∀ (l:List Value) (i:Nat),af w ⟨Lx.b,o*z,none⟩ i l->∀ j u,l[j]?=some u->w.cell? ((⟨Lx.b,o*z,none⟩:Addr).add (i+j))=some u:=by
         intro l
         induction l with
         | nil=>intro i _ j u hj; simp at hj
         | cons a l ih =>
          intro i hc j u hj
          cases j with
          | zero=>simp at hj; subst hj; exact hc.1
          | succ j =>
           have:=ih (i+1) hc.2 j u (by simpa using hj);rw[show i+(j+1)=i+1+j by omega];exact this
        intro j u hj;have:=this us 0 hat j u hj;simpa using this
       have hone:=yR hones hus
       split at hg
       ·cases hb2:(Nat.ble (Nat.mul m by_) 140737488355328&&Nat.ble m 9223372036854775807) with
        | false=>rw[hb2] at hg; cases hg
        | true =>
         rw[hb2] at hg
         cases hg; cases hs
         simp only[Bool.and_eq_true] at hb2;have g1:m*by_<=140737488355328:=Nat.le_of_ble_eq_true hb2.1;have g2:m<=9223372036854775807:=Nat.le_of_ble_eq_true hb2.2;have own:w.ownsRow 0 e z (.slice none 0 0) 0 []:=⟨by simp,.inl ⟨rfl,rfl⟩⟩;obtain⟨v',w',hrun,hown,hchg,hnxt⟩:=tS (P:=P) (ty:=dst) (c:=Lx.tot-o) hT own hul hnews' hone (by simpa using g1) (by simpa using g2) (K:=λ v' w'=>w'.ownsRow 0 e z v' (0+m) ([]++us)/\aD w w' []/\WD w (.slice none 0 0) v') (λ v' w' h1 h2 h3=>⟨h1,h2,h3⟩);rcases hown.2 with⟨_,h0⟩|⟨g,cap,cur,rfl,_,hgg,hnc,hcm,hcs,htake⟩
         ·omega
         ·have hge:w.heap.size<=g:=(hnxt g rfl).resolve_left (λ h=>by cases h);simp only[Nat.zero_add,List.nil_append] at hnc htake hrun;have hul2:us.length=m*z:=hul;have hext:=Ext.eU (L:=⟨g,z,cap⟩) (ct hr hn);have:=hr.new hn (L:=⟨g,z,cap⟩) (T:=e) (cells:=news) (cur:=cur) (vs:=us) (ro:=false) hchg hgg (λ _=>rfl) hge (cN hext hus) (by rw[hul2]; exact htake) hcs.symm hcm;exact⟨_,w',_,hrun,hext,this,by simp[rv,eU,hnc]⟩
       ·rename_i i l z'
        split at hg
        ·rename_i olds ao holds hi
         cases hb2:(Nat.beq z' z&&not ao.ro&&Nat.beq ao.T e&&Nat.ble (Nat.mul (Nat.add l m) by_) 140737488355328&&Nat.ble (Nat.add l m) 9223372036854775807) with
         | false=>rw[hb2] at hg; cases hg
         | true =>
          rw[hb2] at hg
          cases hg
          simp only[Bool.and_eq_true] at hb2;obtain⟨⟨⟨⟨k1,hro⟩,k2⟩,k3⟩,k4⟩:=hb2;have hro:ao.ro=false:=by cases hq:ao.ro with
           | false=>rfl
           | true=>rw[hq] at hro; cases hro
          obtain rfl:=beq_iff.1 k1;have k2:=beq_iff.1 k2;have g1:(l+m)*by_<=140737488355328:=Nat.le_of_ble_eq_true k3;have g2:l+m<=9223372036854775807:=Nat.le_of_ble_eq_true k4;obtain⟨L,hL,hle,hez,rfl⟩:=dP hs;obtain⟨L1,cur0,vs0,hl⟩:=hr.live i ao hi;obtain rfl:L=L1:=Option.some.inj (hL.symm.trans hl.at_);obtain⟨fz,hblk,hfz⟩:=hl.blk;obtain rfl:=hfz hro;have hold:olds=(ao.cells.drop 0).take (l*z')/\0+l*z'<=ao.cells.length:=by
           unfold cX at holds;simp only[hi] at holds
           cases hb3:Nat.ble (Nat.add 0 (Nat.mul l z')) ao.cells.length with
           | false=>rw[hb3] at holds; cases holds
           | true=>rw[hb3] at holds; cases holds; exact⟨rfl,Nat.le_of_ble_eq_true hb3⟩
          have hvl:=bC hl.val;have hvo:eN ρ olds=some (vs0.take (l*z')):=by rw[hold.1]; simpa using qf (l*z') hl.val
          have own:w.ownsRow 0 e z' (.slice (some ⟨L.b,0,none⟩) l L.tot) l (vs0.take (l*z')):=by
           refine⟨by simp; omega,.inr ⟨L.b,L.tot,cur0,rfl,Nat.zero_le _,by rw[<- k2]; exact hblk,by omega,hl.most,by rw[<- hl.room,hez],?_⟩⟩;rw[<- hl.here,List.take_take]
           congr 1
           omega
          obtain⟨v',w',hrun,hown,hchg,hnxt⟩:=tS (P:=P) (ty:=dst) (c:=Lx.tot-o) hT own hul hnews' hone g1 g2 (K:=λ v' w'=>w'.ownsRow 0 e z' v' (l+m) (vs0.take (l*z')++us)/\aD w w' [L.b]/\WD w (.slice (some ⟨L.b,0,none⟩) l L.tot) v') (λ v' w' h1 h2 h3=>⟨h1,h2,h3⟩);rcases hown.2 with⟨_,h0⟩|⟨g,cap,cur,rfl,_,hgg,hnc,hcm,hcs,htake⟩
          ·omega
          ·have hge:g=L.b\/w.heap.size<=g:=(hnxt g rfl).imp (λ h=>by simp[Value.ownBlock] at h; exact h.symm) id;have hst:=hr.Pc i;have hdead:∀ (j:Nat) (ao' : AO) (L' : Loc),(h.put i none).get j=some (some ao')->ρ j=some L'->L'.b≠L.b:=λ j ao' L' hj hL'=>by
            rw[bY] at hj
            split at hj
            ·cases hj
            ·rename_i hji;exact hr.inj j i ao' ao L' L hji hj hi hL' hL
           have hq:=hst.Ei hchg (λ f hf=>by
            simp at hf; subst hf;exact⟨hl.new,hdead⟩)
           have hni:n≠i:=λ e=>by rw[e,hi] at hn; cases hn
           have hn' : (h.put i none).get n=none:=by rw[bY,if_neg hni]; exact hn
           have hext:=Ext.eU (L:=⟨g,z',cap⟩) (ct hr hn);have hul2:us.length=m*z':=hul;have hnm:=hq.name hn' (ro:=false) (L:=⟨g,z',cap⟩) (T:=e) (cells:=olds++news) (cur:=cur) (vs:=vs0.take (l*z')++us)
            (by
              rcases hge with rfl|hge
              ·exact hl.new
              ·exact Nat.le_trans hr.aC.size hge) hgg (λ _=>rfl)
            (λ j ao' L' hj hL'=>by
             rcases hge with rfl|hge
             ·exact hdead j ao' L' hj hL'
             ·have:=hst.below hj hL';show L'.b≠g;omega)
            (kL (cN hext hvo) (cN hext hus)) (by
             have:(vs0.take (l*z')++us).length=(l+m)*z':=by rw[hown.1]
             rw[this]; exact htake) hcs.symm hcm
           refine⟨_,w',_,by simpa using hrun,hext,hnm,?_⟩;simp[rv,eU,hnc]
        ·cases hg
       ·cases hg
     ·cases hg
    ·cases hg
   ·cases hg
 ·cases hg
def Yn:List AV->Option (List UInt8)
 | []=>some []
 | .int .u8 (.ofNat n) :: l=>match Yn l with
  | some m=>some (UInt8.ofNat n :: m)
  | none=>none
 | _=>none
theorem Pv{ρ:Names}:∀ {l:List AV} {m:List UInt8} {vs:List Value},Yn l=some m->eN ρ l=some vs->∃ xs:List Int,vs=xs.map (Value.int .u8)/\m=xs.map λ n=>UInt8.ofNat n.toNat
 | [],m,vs,h,hv=>by cases h; cases hv; exact⟨[],rfl,rfl⟩
 | a :: l,m,vs,h,hv=>by
  obtain⟨v,us,rfl,h1,h2⟩:=aP hv;unfold Yn at h
  split at h
  ·rename_i heq; cases heq
  ·rename_i n l' heq
   cases heq
   split at h
   ·rename_i m' hm
    cases h
    obtain⟨xs,rfl,rfl⟩:=Pv hm h2
    cases cI h1
    exact⟨(n:Int) :: xs,rfl,rfl⟩
   ·cases h
  ·cases h
def Va(P:Program)(src dst:TypeId)(a:AV)(h:AH):Option AV:=match P.underlying src,P.underlying dst with
 | some (.slice e),some .string=>match P.underlying e,a with
  | some (.int .u8),.nils=>some (.str [])
  | some (.int .u8),.sli i o m 1=>match cX h i o m with
   | some az=>match Yn az with
    | some l=>some (.str l)
    | none=>none
   | none=>none
  | _,_=>none
 | _,_=>none
theorem Rm{P:Program}{src dst:TypeId}{a r:AV}{h:AH}(hg:Va P src dst a h=some r){w0 w:World}{ρ:Names}(hr:fY w0 w ρ h){va:Value}(ha:rv ρ a=some va) :
  y5 P w0 w ρ (convert src dst va) r h:=by
 unfold Va at hg
 split at hg
 ·rename_i e hs hd
  split at hg
  ·rename_i he
   cases hg; cases ha
   exact⟨_,w,ρ,run_convert_bytes_nil (P:=P) w src e hs he 0 0 dst hd,Ext.refl _,hr,rfl⟩
  ·rename_i i o m he
   split at hg
   ·rename_i az haz
    split at hg
    ·rename_i l hl
     cases hg
     obtain⟨L,hL,_,_,rfl⟩:=dP ha;obtain⟨L',us,hL',hus,hul,hat⟩:=hJ hr haz;obtain rfl:L=L':=Option.some.inj (hL.symm.trans hL');obtain⟨xs,rfl,rfl⟩:=Pv hl hus;have hcell:∀ i,i<m->w.cell? ⟨L.b,o+i,none⟩=some (.int .u8 (xs.getD i 0)):=by
      intro i hi;have key:∀ (l:List Value) (k:Nat),af w ⟨L.b,o,none⟩ k l->∀ j u,l[j]?=some u->w.cell? ((⟨L.b,o,none⟩:Addr).add (k+j))=some u:=by
       intro l
       induction l with
       | nil=>intro k _ j u hj; simp at hj
       | cons a l ih =>
        intro k hc j u hj
        cases j with
        | zero=>simp at hj; subst hj; exact hc.1
        | succ j =>
         have:=ih (k+1) hc.2 j u (by simpa using hj);rw[show k+(j+1)=k+1+j by omega];exact this
      have hlt:i<xs.length:=by simp at hul; omega
      have:=key _ 0 hat i (.int .u8 xs[i]) (by simp[hlt]);rw[aZ] at this;simp only[Nat.zero_add] at this;rw[this];simp[hlt]
     have hrun:=run_convert_bytes_arg (P:=P) w src e hs he L.b o m (L.tot-o) xs (by simpa using hul) hcell dst hd;refine⟨.string (strOfNums xs),w,ρ,by simpa using hrun,Ext.refl _,hr,rfl⟩
    ·cases hg
   ·cases hg
  ·cases hg
 ·cases hg
def oW:List UInt8->List AV
 | []=>[]
 | b :: l=>.int .u8 (.ofNat b.toNat) :: oW l
theorem qP(ρ:Names):∀ l:List UInt8,eN ρ (oW l)=some (Lib.byteCells l)
 | []=>rfl
 | _ :: l=>fH rfl (qP ρ l)
theorem tT{P:Program}{w:World}{t u ty e:TypeId}{z:Value}(hT:fZ P t e z 1 1)(hz:z=.int .u8 0)(hu:P.underlying u=some .string){v:Value}{n:Nat}{xs:List Value}(own:w.ownsRow 0 e 1 v n xs){s:ByteArray}(hb:n+s.size<=140737488355328){K:KP}(k:∀ v' w',w'.ownsRow 0 e 1 v' (n+s.size) (xs++Lib.strCells s)->aD w w' v.ownBlock.toList->WD w v v'->K v' w') :
  bn P (Builtin.append_ #[t,u] ty #[v,.string s]) w K:=by
 obtain⟨i,hi,hz',hs,hby⟩:=hT.i;subst hz;have hml:n+s.size<=maxLen:=by unfold maxLen; omega
 obtain⟨v',w',hr,ho,hg,_⟩:=Lib.run_append_own_string (P:=P) w 0 t u ty e i hT.u hu hi hz' hs hby v n xs own s hml hb (Nat.zero_le _);refine⟨v',w',hr,k v' w' ho (aD.grown hg) ?_⟩;rcases own.2 with⟨rfl,rfl⟩|⟨g,cap,cur,rfl,_,hgg,hnc,hcm,hcs,htake⟩
 ·have own' : w.ownsRow w.heap.size e 1 (.slice none 0 0) 0 xs:=⟨own.1,.inl ⟨rfl,rfl⟩⟩;obtain⟨v2,w2,hr2,ho2,_⟩:=Lib.run_append_own_string (P:=P) w w.heap.size t u ty e i hT.u hu hi hz' hs hby _ 0 xs own' s hml hb (Nat.le_refl _);rw[hr] at hr2
  cases hr2
  exact λ j hj=>.inr (ho2.lt j hj).1
 ·by_cases hroom:n+s.size<=cap
  ·have hr2:=Lib.run_append_room_string (P:=P) w t u ty e i hT.u hu hi hs g n cap cur hgg s hroom (by omega);rw[hr] at hr2
   cases hr2
   exact λ j hj=>.inl hj
  ·have holds:∀ j u,xs[j]?=some u->w.cell? ((⟨g,0,none⟩:Addr).add j)=some u:=own.cells (g:=g) rfl;have hr2:=Lib.run_append_grow_string (P:=P) w t u ty e i (.int .u8 0) hT.u hu hi hz' ⟨g,0,none⟩ n cap xs (by rw[hs]; exact own.1) holds s (by omega) (by omega) (by rw[hby]; exact growslice_fits (by omega) (by omega));rw[hr] at hr2
   cases hr2
   intro j hj;simp[Value.ownBlock] at hj;exact .inr (by omega)
def JF(P:Program)(e:TypeId):Bool:=match P.info? e with
 | some i=>match i.zero with
  | some (.int .u8 (.ofNat 0))=>true
  | _=>false
 | none=>false
theorem NH{P:Program}{e:TypeId}(h:JF P e=true):∃ i,P.info? e=some i/\i.zero=some (.int .u8 0):=by
 unfold JF at h
 split at h
 ·rename_i i hi
  split at h
  ·rename_i hz;exact⟨i,hi,hz⟩
  ·cases h
 ·cases h
def QU(P:Program)(tys:List TypeId)(s:AV)(x:List UInt8)(h:AH)(n:Nat):Option (AV×AH):=match tys with
 | [t,u]=>match P.underlying u,zF P t,h.get n with
  | some .string,some (e,sz,by_,_),none=>cond (Nat.beq sz 1&&Nat.beq by_ 1&&JF P e) (match s,x with
   | .nils,[]=>some (.nils,h)
   | .nils,b :: l=>cond (Nat.ble (b :: l).length 140737488355328) (some (.sli n 0 (b :: l).length 1,h.put n (some ⟨e,oW (b :: l),false⟩))) none
   | .sli i o l z,[]=>some (.sli i o l z,h)
   | .sli i 0 l z,b :: x=>match cX h i 0 (Nat.mul l z),h.get i with
    | some olds,some (some ao)=>cond (Nat.beq z 1&&not ao.ro&&Nat.beq ao.T e&&Nat.ble (Nat.add l (b :: x).length) 140737488355328) (some (.sli n 0 (Nat.add l (b :: x).length) 1,(h.put i none).put n (some ⟨e,olds++oW (b :: x),false⟩))) none
    | _,_=>none
   | _,_=>none) none
  | _,_,_=>none
 | _=>none
theorem qw(x:List UInt8):Lib.strCells ⟨x.toArray⟩=Lib.byteCells x:=by simp[Lib.strCells,Lib.byteCells]
theorem tR{P:Program}{w:World}{t u ty e:TypeId}{z:Value}{sz by_:Nat}(hT:fZ P t e z sz by_)(hu:P.underlying u=some .string){base:OA}{n c:Nat}(hn:n<=c):(Builtin.append_ #[t,u] ty #[.slice base n c,.string ⟨#[]⟩]).run P w=.ok (.slice base n c) w:=by
 obtain⟨i,hi,hz,hs,hby⟩:=hT.i;have hsz:dQ P e=some sz:=by simp[dQ,hi,hs]
 have h0:(⟨#[]⟩:ByteArray).size=0:=rfl;have hf:=Lib.run_firstCells_string (P:=P) w sz ⟨#[]⟩;rw[h0] at hf;have hc:(Lib.strCells ⟨#[]⟩).toArray = #[]:=rfl;rw[hc] at hf
 cases base with
 | none=>simp[Builtin.append_,aG hT.u,aG hu,bZ hsz,Builtin.lenOf,hn,h0,hf]
 | some a=>simp[Builtin.append_,aG hT.u,aG hu,bZ hsz,Builtin.lenOf,hn,h0,hf,storeCells]
theorem QV{P:Program}{tys:Array TypeId}{dst:TypeId}{s r:AV}{x:List UInt8}{h h' : AH}{n:Nat}(hg:QU P tys.toList s x h n=some (r,h')){w0 w:World}{ρ:Names}(hr:fY w0 w ρ h){vs:Value}(hs:rv ρ s=some vs) :
  y5 P w0 w ρ (Builtin.append_ tys dst #[vs,.string ⟨x.toArray⟩]) r h':=by
 unfold QU at hg
 split at hg
 ·rename_i t u htys;have htys' : tys = #[t,u]:=by rw[<- htys]
  subst htys'
  split at hg
  ·rename_i e sz by_ zs hu he hn
   cases hb:(Nat.beq sz 1&&Nat.beq by_ 1&&JF P e) with
   | false=>rw[hb] at hg; cases hg
   | true =>
    rw[hb] at hg;simp only[cond_true] at hg;simp only[Bool.and_eq_true] at hb;obtain⟨⟨q1,q2⟩,q3⟩:=hb;obtain rfl:=beq_iff.1 q1;obtain rfl:=beq_iff.1 q2;obtain⟨z0,hT,hzs⟩:=(pg he).slT;have hz0:z0=.int .u8 0:=by
     obtain⟨i,hi,hz,_⟩:=hT.i;obtain⟨i',hi',hz'⟩:=NH q3;obtain rfl:i=i':=Option.some.inj (hi.symm.trans hi');exact Option.some.inj (hz.symm.trans hz')
    split at hg
    ·cases hg; cases hs
     exact⟨_,w,ρ,tR hT hu (Nat.le_refl _),Ext.refl _,hr,rfl⟩
    ·rename_i b l
     cases hb2:Nat.ble (b :: l).length 140737488355328 with
     | false=>rw[hb2] at hg; cases hg
     | true =>
      rw[hb2] at hg
      cases hg; cases hs
      have g1:=Nat.le_of_ble_eq_true hb2;have own:w.ownsRow 0 e 1 (.slice none 0 0) 0 []:=⟨by simp,.inl ⟨rfl,rfl⟩⟩;have hsz:(⟨(b :: l).toArray⟩:ByteArray).size=(b :: l).length:=by simp[ByteArray.size]
      obtain⟨v',w',hrun,hown,hchg,hnxt⟩:=tT (P:=P) (ty:=dst) hT hz0 hu own (s:=⟨(b :: l).toArray⟩) (by rw[hsz]; omega) (K:=λ v' w'=>w'.ownsRow 0 e 1 v' (0+(⟨(b :: l).toArray⟩:ByteArray).size) ([]++Lib.strCells ⟨(b :: l).toArray⟩)/\aD w w' []/\WD w (.slice none 0 0) v') (λ v' w' h1 h2 h3=>⟨h1,h2,h3⟩);rw[hsz,qw] at hown;rcases hown.2 with⟨_,h0⟩|⟨g,cap,cur,rfl,_,hgg,hnc,hcm,hcs,htake⟩
      ·simp at h0
      ·have hge:w.heap.size<=g:=(hnxt g rfl).resolve_left (λ h=>by cases h);simp only[Nat.zero_add,List.nil_append] at hnc htake hrun;have hext:=Ext.eU (L:=⟨g,1,cap⟩) (ct hr hn);have:=hr.new hn (L:=⟨g,1,cap⟩) (T:=e) (cells:=oW (b :: l)) (cur:=cur) (vs:=Lib.byteCells (b :: l)) (ro:=false) hchg hgg (λ _=>rfl) hge (qP _ _) (by rw[Lib.byteCells_length]; simpa using htake) hcs.symm hcm;exact⟨_,w',_,hrun,hext,this,by simp[rv,eU]; simpa using hnc⟩
    ·cases hg
     obtain⟨L,hL,hle,hz,rfl⟩:=dP hs;exact⟨_,w,ρ,tR hT hu (by omega),Ext.refl _,hr,hs⟩
    ·rename_i i l z' b x
     split at hg
     ·rename_i olds ao holds hi
      cases hb2:(Nat.beq z' 1&&not ao.ro&&Nat.beq ao.T e&&Nat.ble (Nat.add l (b :: x).length) 140737488355328) with
      | false=>rw[hb2] at hg; cases hg
      | true =>
       rw[hb2] at hg
       cases hg
       simp only[Bool.and_eq_true] at hb2;obtain⟨⟨⟨k1,hro⟩,k2⟩,k3⟩:=hb2;have hro:ao.ro=false:=by cases hq:ao.ro with
        | false=>rfl
        | true=>rw[hq] at hro; cases hro
       obtain rfl:=beq_iff.1 k1;have k2:=beq_iff.1 k2;have g1:l+(b :: x).length<=140737488355328:=Nat.le_of_ble_eq_true k3;obtain⟨L,hL,hle,hez,rfl⟩:=dP hs;obtain⟨L1,cur0,vs0,hl⟩:=hr.live i ao hi;obtain rfl:L=L1:=Option.some.inj (hL.symm.trans hl.at_);obtain⟨fz,hblk,hfz⟩:=hl.blk;obtain rfl:=hfz hro;have hold:olds=(ao.cells.drop 0).take (l*1)/\0+l*1<=ao.cells.length:=by
        unfold cX at holds;simp only[hi] at holds
        cases hb3:Nat.ble (Nat.add 0 (Nat.mul l 1)) ao.cells.length with
        | false=>rw[hb3] at holds; cases holds
        | true=>rw[hb3] at holds; cases holds; exact⟨rfl,Nat.le_of_ble_eq_true hb3⟩
       have hvl:=bC hl.val;have hvo:eN ρ olds=some (vs0.take (l*1)):=by rw[hold.1]; simpa using qf (l*1) hl.val
       have own:w.ownsRow 0 e 1 (.slice (some ⟨L.b,0,none⟩) l L.tot) l (vs0.take (l*1)):=by
        refine⟨by simp; omega,.inr ⟨L.b,L.tot,cur0,rfl,Nat.zero_le _,by rw[<- k2]; exact hblk,by omega,hl.most,by rw[<- hl.room,hez],?_⟩⟩;rw[<- hl.here,List.take_take]
        congr 1
        omega
       have hsz:(⟨(b :: x).toArray⟩:ByteArray).size=(b :: x).length:=by simp[ByteArray.size]
       obtain⟨v',w',hrun,hown,hchg,hnxt⟩:=tT (P:=P) (ty:=dst) hT hz0 hu own (s:=⟨(b :: x).toArray⟩) (by rw[hsz]; exact g1) (K:=λ v' w'=>w'.ownsRow 0 e 1 v' (l+(⟨(b :: x).toArray⟩:ByteArray).size) (vs0.take (l*1)++Lib.strCells ⟨(b :: x).toArray⟩)/\aD w w' [L.b]/\WD w (.slice (some ⟨L.b,0,none⟩) l L.tot) v') (λ v' w' h1 h2 h3=>⟨h1,h2,h3⟩);rw[hsz,qw] at hown;rcases hown.2 with⟨_,h0⟩|⟨g,cap,cur,rfl,_,hgg,hnc,hcm,hcs,htake⟩
       ·simp at h0
       ·have hge:g=L.b\/w.heap.size<=g:=(hnxt g rfl).imp (λ h=>by simp[Value.ownBlock] at h; exact h.symm) id;have hst:=hr.Pc i;have hdead:∀ (j:Nat) (ao' : AO) (L' : Loc),(h.put i none).get j=some (some ao')->ρ j=some L'->L'.b≠L.b:=λ j ao' L' hj hL'=>by
         rw[bY] at hj
         split at hj
         ·cases hj
         ·rename_i hji;exact hr.inj j i ao' ao L' L hji hj hi hL' hL
        have hq:=hst.Ei hchg (λ f hf=>by
         simp at hf; subst hf;exact⟨hl.new,hdead⟩)
        have hni:n≠i:=λ e=>by rw[e,hi] at hn; cases hn
        have hn' : (h.put i none).get n=none:=by rw[bY,if_neg hni]; exact hn
        have hext:=Ext.eU (L:=⟨g,1,cap⟩) (ct hr hn);have hnm:=hq.name hn' (ro:=false) (L:=⟨g,1,cap⟩) (T:=e) (cells:=olds++oW (b :: x)) (cur:=cur) (vs:=vs0.take (l*1)++Lib.byteCells (b :: x))
         (by
           rcases hge with rfl|hge
           ·exact hl.new
           ·exact Nat.le_trans hr.aC.size hge) hgg (λ _=>rfl)
         (λ j ao' L' hj hL'=>by
          rcases hge with rfl|hge
          ·exact hdead j ao' L' hj hL'
          ·have:=hst.below hj hL';show L'.b≠g;omega)
         (kL (cN hext hvo) (qP _ _)) (by
          have:(vs0.take (l*1)++Lib.byteCells (b :: x)).length=(l+(b :: x).length)*1:=by rw[hown.1]
          rw[this]; exact htake) hcs.symm hcm
        refine⟨_,w',_,by simpa using hrun,hext,hnm,?_⟩;simp only[rv,eU,if_true,Option.bind_some];rw[if_pos]
        ·simp
        ·refine⟨?_,trivial⟩;show 0+(l+(b :: x).length)<=cap;omega
     ·cases hg
    ·cases hg
  ·cases hg
 ·cases hg
def U3(P:Program)(t:TypeId)(d s:AV)(h:AH):Option (AV×AH):=match d,s with
 | .nils,.nils=>some (.int .i64 (.ofNat 0),h)
 | .nils,.sli _ _ _ _=>some (.int .i64 (.ofNat 0),h)
 | .sli _ _ _ _,.nils=>some (.int .i64 (.ofNat 0),h)
 | .sli i o l z,.sli j p m y=>match zF P t,h.get i,cX h j (Nat.mul p y) (Nat.mul (cond (Nat.ble m l) m l) y) with
  | some (_,sz,_,_),some (some ao),some news=>cond (Nat.beq z sz&&Nat.beq y sz&&not ao.ro&&D6 news&&Nat.ble (Nat.add (Nat.mul o z) news.length) ao.cells.length)
    (some (.int .i64 (.ofNat (cond (Nat.ble m l) m l)),h.put i (some ⟨ao.T,setAt ao.cells (Nat.mul o z) news,ao.ro⟩))) none
  | _,_,_=>none
 | _,_=>none
theorem bf{w:World}{a:Addr}:∀ (l:List Value) (k:Nat),af w a k l->∀ j u,l[j]?=some u->w.cell? (a.add (k+j))=some u
 | [],_,_,j,u,hj=>by simp at hj
 | x :: l,k,hc,j,u,hj=>by
  cases j with
  | zero=>simp at hj; subst hj; exact hc.1
  | succ j =>
   have:=bf l (k+1) hc.2 j u (by simpa using hj);rw[show k+(j+1)=k+1+j by omega];exact this
theorem Q4{P:Program}{tys:Array TypeId}{t dst:TypeId}{d s r:AV}{h h' : AH}(hg:U3 P t d s h=some (r,h'))(ht:tys[0]?=some t)(hsl:∃ e,P.underlying t=some (.slice e)/\∃ n,dQ P e=some n){w0 w:World}{ρ:Names}(hr:fY w0 w ρ h){vd vs:Value}(hd:rv ρ d=some vd)(hs:rv ρ s=some vs):y5 P w0 w ρ (Builtin.copy_ tys dst #[vd,vs]) r h':=by
 obtain⟨e,hu,en,hen⟩:=hsl;have zero:∀ {vd vs:Value},(∃ b n c,vd=.slice b n c)->(∃ b n c,vs=.slice b n c)->(vd=.slice none 0 0\/vs=.slice none 0 0)->(Builtin.copy_ tys dst #[vd,vs]).run P w=.ok (.int .i64 0) w:=by
  rintro vd vs ⟨b,n,c,rfl⟩ ⟨b',n',c',rfl⟩ hz;have hmin:Nat.min n' n=0:=by rcases hz with hz|hz<;>cases hz<;>simp
  have hl0:∀ a:Addr,(loadCells a 0).run P w=.ok #[] w:=λ a=>by simp[loadCells,loadCellsFrom]
  cases b<;>cases b' <;> simp[Builtin.copy_,ht,aG hu,Builtin.lenOf,bZ hen,hmin,Builtin.firstCells,hl0,storeCells,goInt]
 unfold U3 at hg
 split at hg
 ·cases hg; cases hd; cases hs
  exact⟨_,w,ρ,zero ⟨_,_,_,rfl⟩ ⟨_,_,_,rfl⟩ (.inl rfl),Ext.refl _,hr,rfl⟩
 ·cases hg; cases hd
  obtain⟨L,_,_,_,rfl⟩:=dP hs;exact⟨_,w,ρ,zero ⟨_,_,_,rfl⟩ ⟨_,_,_,rfl⟩ (.inl rfl),Ext.refl _,hr,rfl⟩
 ·cases hg; cases hs
  obtain⟨L,_,_,_,rfl⟩:=dP hd;exact⟨_,w,ρ,zero ⟨_,_,_,rfl⟩ ⟨_,_,_,rfl⟩ (.inr rfl),Ext.refl _,hr,rfl⟩
 ·rename_i i o l z j p m y
  split at hg
  ·rename_i e1 sz by_ zs ao news he hi hnews;generalize hk:cond (Nat.ble m l) m l=k at hg hnews;have hkmin:Nat.min m l=k:=by
    rw[<- hk];show min m l=_
    cases hb:Nat.ble m l with
    | true=>simp[Nat.min_eq_left (Nat.le_of_ble_eq_true hb)]
    | false =>
     have : ¬ m<=l:=λ h=>by rw[Nat.ble_eq_true_of_le h] at hb; cases hb
     simp[Nat.min_eq_right (Nat.le_of_not_le this)]
   cases hb:(Nat.beq z sz&&Nat.beq y sz&&not ao.ro&&D6 news&&Nat.ble (Nat.add (Nat.mul o z) news.length) ao.cells.length) with
   | false=>rw[hb] at hg; cases hg
   | true =>
    rw[hb] at hg
    cases hg
    simp only[Bool.and_eq_true] at hb;obtain⟨⟨⟨⟨q1,q2⟩,q3⟩,q4⟩,q5⟩:=hb;obtain rfl:=beq_iff.1 q1;have q2:=beq_iff.1 q2;subst q2;have hro:ao.ro=false:=by cases hq:ao.ro with
     | false=>rfl
     | true=>rw[hq] at q3; cases q3
    have q5:o*y+news.length<=ao.cells.length:=Nat.le_of_ble_eq_true q5;obtain⟨z0,hT,hzs⟩:=(pg he).slT;obtain⟨i0,hi0,hz0,hs0,hby0⟩:=hT.i;obtain⟨L,hL,hle,hez,rfl⟩:=dP hd;obtain⟨Lx,hLx,hlex,hezx,rfl⟩:=dP hs;obtain⟨L1,cur,vs,hl⟩:=hr.live i ao hi;obtain rfl:L=L1:=Option.some.inj (hL.symm.trans hl.at_);obtain⟨fz,hblk,hfz⟩:=hl.blk;obtain rfl:=hfz hro;obtain⟨Lx',us,hLx',hus,hul,hat⟩:=hJ hr hnews;obtain rfl:Lx=Lx':=Option.some.inj (hLx.symm.trans hLx');have hul:us.length=k*y:=hul;have hat:af w ⟨Lx.b,p*y,none⟩ 0 us:=hat;have hvl:=bC hl.val;have hnl:=bC hus;have hone:=yR q4 hus;have hcur:vs.length<=cur.toList.length:=by rw[<- hl.here]; simp; omega
    have hfit:o*y+0+us.length<=cur.size:=by simp at hcur; omega
    have hsz:dQ P e1=some y:=by simp[dQ,hi0,hs0]
    have hload:(loadCells ⟨Lx.b,p*y,none⟩ (k*y)).run P w=.ok us.toArray w:=by
     rw[<- hul];have:=qQ (P:=P) us 0 #[] hat;simpa[loadCells] using this
    refine⟨.int .i64 k,_,ρ,?_,Ext.refl _,hr.rewrite hi hL (w':=w.setRow L.b (setAt cur.toList (o*y) us).toArray) (cells:=setAt ao.cells (o*y) news) (cur':=(setAt cur.toList (o*y) us).toArray) (vs':=setAt vs (o*y) us) ?_ ?_ (mA (o*y) hl.val hus) ?_ ?_,rfl⟩
    ·simp only[Builtin.copy_,ht,aG hT.u,Sem.run_bind,Result.andThen_ok,Builtin.lenOf,Sem.run_pure,hkmin,bZ hsz,Builtin.firstCells,hload,List.getElem?_toArray,List.getElem?_cons_zero,List.getElem?_cons_succ];have hst:=run_storeCells_at P L.b (o*y) ao.T us 0 cur w hblk hfit hone;simp only[hst,Result.andThen_ok,goInt];rw[u7 _ _ _ (by simpa using hfit)]
     simp
    ·exact⟨by simp[World.setRow],λ k _ hn=>setRow_other w L.b k _ (by simpa using hn),⟨rfl,rfl,rfl⟩⟩
    ·exact setRow_heap w L.b cur _ ao.T _ hblk
    ·rw[dG,nC _ _ _ _ (by omega)];rw[hl.here]
    ·simp only[List.size_toArray,dG];simpa using hl.room
  ·cases hg
 ·cases hg
def SU:List AV->Option (List UInt8)
 | []=>some []
 | .int .u8 (.ofNat n) :: l=>match SU l with
  | some m=>cond (Nat.ble n 255) (some (UInt8.ofNat n :: m)) none
  | none=>none
 | _=>none
theorem Kn{ρ:Names}:∀ {l:List AV} {m:List UInt8} {vs:List Value},SU l=some m->eN ρ l=some vs->vs=Lib.byteCells m
 | [],m,vs,h,hv=>by cases h; cases hv; rfl
 | a :: l,m,vs,h,hv=>by
  obtain⟨v,us,rfl,h1,h2⟩:=aP hv;unfold SU at h
  split at h
  ·rename_i heq; cases heq
  ·rename_i n l' heq
   cases heq
   split at h
   ·rename_i m' hm
    cases hb:Nat.ble n 255 with
    | false=>rw[hb] at h; cases h
    | true =>
     rw[hb] at h
     cases h
     have:=Nat.le_of_ble_eq_true hb
     cases cI h1
     rw[Kn hm h2];have e:(UInt8.ofNat n).toNat=n:=by simp; omega
     simp[Lib.byteCells,e]
   ·cases h
  ·cases h
def Ve(a:AV):Option AV:=match a with
 | .nils=>some .nilp
 | .sli i o (_+1) z=>some (.ptr i (Nat.mul o z))
 | _=>none
theorem Ro{P:Program}{ρ:Names}{tys:Array TypeId}{ty:TypeId}{a r:AV}{v:Value}(hg:Ve a=some r)(ha:rv ρ a=some v):jz P ρ (Builtin.unsafeSliceData_ tys ty #[v]) r:=by
 unfold Ve at hg
 split at hg
 ·cases hg; cases ha
  exact⟨_,rfl,λ w=>Lib.run_unsafeSliceData_nil w tys ty 0 0⟩
 ·rename_i i o l z
  cases hg
  obtain⟨L,hL,hle,_,rfl⟩:=dP ha;exact⟨_,by simp only[rv,hL,Option.map_some]; rfl,λ w=>Lib.run_unsafeSliceData_row w tys ty _ _ _ (by omega)⟩
 ·cases hg
def Vf(P:Program)(tys:List TypeId)(p m:AV)(h:AH):Option (AV×AH):=match tys,m with
 | [_,_],.int .i64 (.ofNat 0)=>match p with
  | .nilp=>some (.str [],h)
  | .ptr _ _=>some (.str [],h)
  | _=>none
 | [pt,_],.int .i64 (.ofNat (k+1))=>match p,P.underlying pt with
  | .ptr i 0,some (.pointer e)=>match cX h i 0 (Nat.succ k),h.get i with
   | some az,some (some ao)=>match SU az with
    | some l=>cond (Nat.beq ao.T e&&Nat.beq (P.cellsOf e) 1&&Nat.ble (Nat.succ k) 9223372036854775807) (some (.str l,h.put i none)) none
    | none=>none
   | _,_=>none
  | _,_=>none
 | _,_=>none
theorem aD.freeze(w:World)(b o n:Nat):aD w (w.freeze ⟨b,o,none⟩ n) [b]:=by
 unfold World.freeze
 split
 ·exact aD.refl _ _
 ·exact⟨by simp,λ k _ hk=>by
   simp only[Array.getElem?_modify];rw[if_neg (by simpa using λ e=>hk (by simp[e]))],⟨rfl,rfl,rfl⟩⟩
theorem Rp{P:Program}{tys:Array TypeId}{ty:TypeId}{p m r:AV}{h h' : AH}(hg:Vf P tys.toList p m h=some (r,h')){w0 w:World}{ρ:Names}(hr:fY w0 w ρ h){vp vm:Value}(hp:rv ρ p=some vp)(hm:rv ρ m=some vm) :
  y5 P w0 w ρ (Builtin.unsafeString_ tys ty #[vp,vm]) r h':=by
 unfold Vf at hg
 split at hg
 ·rename_i pt it htys;have htys' : tys = #[pt,it]:=by rw[<- htys]
  subst htys'
  cases cI hm
  split at hg
  ·cases hg; cases hp
   exact⟨_,w,ρ,Lib.run_unsafeString_none w pt it ty none,Ext.refl _,hr,rfl⟩
  ·cases hg
   obtain⟨L,_,rfl⟩:=gB hp;exact⟨_,w,ρ,Lib.run_unsafeString_none w pt it ty _,Ext.refl _,hr,rfl⟩
  ·cases hg
 ·rename_i pt it k htys;have htys' : tys = #[pt,it]:=by rw[<- htys]
  subst htys'
  cases cI hm
  split at hg
  ·rename_i i e hpt
   split at hg
   ·rename_i az ao haz hi
    split at hg
    ·rename_i l hl
     cases hb:(Nat.beq ao.T e&&Nat.beq (P.cellsOf e) 1&&Nat.ble (Nat.succ k) 9223372036854775807) with
     | false=>rw[hb] at hg; cases hg
     | true =>
      rw[hb] at hg
      cases hg
      simp only[Bool.and_eq_true] at hb;obtain⟨⟨q1,q2⟩,q3⟩:=hb;have q1:=beq_iff.1 q1;have q2:=beq_iff.1 q2;have q3:=Nat.le_of_ble_eq_true q3;obtain⟨L,hL,rfl⟩:=gB hp;obtain⟨L1,cur,vs,hlv⟩:=hr.live i ao hi;obtain rfl:L=L1:=Option.some.inj (hL.symm.trans hlv.at_);obtain⟨fz,hblk,_⟩:=hlv.blk;obtain⟨L',us,hL',hus,hul,hat⟩:=hJ hr haz;obtain rfl:L=L':=Option.some.inj (hL.symm.trans hL');have hbc:=Kn hl hus;subst hbc;have hll:l.length=k+1:=by rw[<- Lib.byteCells_length,hul]
      have hcell:∀ j x,l[j]?=some x->w.cell? ((⟨L.b,0,none⟩:Addr).add j)=some (.int .u8 x.toNat):=λ j x hj=>by
       have:=bf _ 0 hat j (.int .u8 x.toNat) (by simp[Lib.byteCells,hj]);simpa using this
      have hsh:w.shape? L.b=some (e,cur.size):=by simp[World.shape?,hblk,q1]
      have hlen:l.length<=cur.size:=by
       have hc:=bf _ 0 hat k (.int .u8 (l.getD k 0).toNat) (by
        have hk:k<l.length:=by omega
        simp[Lib.byteCells,hk])
       rw[aZ,Nat.zero_add,cK,hblk,cv] at hc;have:=(Array.getElem?_eq_some_iff.1 hc).1;omega
      have hrun:=Lib.run_unsafeString_row (P:=P) w pt it ty e hpt q2 L.b cur.size hsh l (by intro h0; rw[h0] at hll; simp at hll) hlen (by omega) hcell;rw[hll] at hrun;have hst:=hr.Pc i;refine⟨_,_,ρ,hrun,Ext.refl _,hst.Ei (aD.freeze w L.b 0 (k+1)) (λ f hf=>?_),rfl⟩;simp at hf; subst hf;refine⟨hlv.new,λ j ao' L' hj hL'=>?_⟩;rw[bY] at hj
      split at hj
      ·cases hj
      ·rename_i hji;exact hr.inj j i ao' ao L' L hji hj hi hL' hL
    ·cases hg
   ·cases hg
  ·cases hg
 ·cases hg
def U2(P:Program)(src dst:TypeId)(l:List UInt8)(h:AH)(n:Nat):Option (AV×AH):=match P.underlying src,P.underlying dst,h.get n with
 | some .string,some (.slice e),none=>match P.underlying e with
  | some (.int .u8)=>cond (Nat.ble l.length 4294967296) (some (.sli n 0 l.length 1,h.put n (some ⟨e,oW l,true⟩))) none
  | _=>none
 | _,_,_=>none
theorem QY{P:Program}{src dst:TypeId}{l:List UInt8}{r:AV}{h h' : AH}{n:Nat}(hg:U2 P src dst l h n=some (r,h')){w0 w:World}{ρ:Names}(hr:fY w0 w ρ h) :
  y5 P w0 w ρ (convert src dst (.string ⟨l.toArray⟩)) r h':=by
 unfold U2 at hg
 split at hg
 ·rename_i e hs hd hn
  split at hg
  ·rename_i he
   cases hb:Nat.ble l.length 4294967296 with
   | false=>rw[hb] at hg; cases hg
   | true =>
    rw[hb] at hg
    cases hg
    have hle:=Nat.le_of_ble_eq_true hb;have hsz:(⟨l.toArray⟩:ByteArray).size=l.length:=by simp[ByteArray.size]
    have hge:=grownCap_ge w (⟨l.toArray⟩:ByteArray).size 0 e;have hrun:=Lib.run_convert_string_bytes (P:=P) w src dst e ⟨l.toArray⟩ hs hd he;have hcs:(Lib.bytesCells w e ⟨l.toArray⟩).size=grownCap w (⟨l.toArray⟩:ByteArray).size 0 e:=by
     simp only[Lib.bytesCells,Array.size_append,Array.size_map,Array.size_replicate];have e1:l.toArray.size=l.length:=by simp
     have e2:(⟨l.toArray⟩:ByteArray).data.size=l.length:=by simp
     omega
    have hchg:aD w (Lib.bytesWorld w e ⟨l.toArray⟩) []:=⟨by rw[Lib.bytesWorld_size]; omega,λ j hj _=>Lib.bytesWorld_at_old w e _ j hj,by
     unfold Lib.bytesWorld World.freeze
     split<;>exact⟨rfl,rfl,rfl⟩⟩
    have hext:=Ext.eU (L:=⟨w.heap.size,1,grownCap w (⟨l.toArray⟩:ByteArray).size 0 e⟩) (ct hr hn);have hnew:=hr.new hn (ro:=true) (T:=e) (L:=⟨w.heap.size,1,grownCap w (⟨l.toArray⟩:ByteArray).size 0 e⟩) (cells:=oW l) (vs:=Lib.byteCells l) hchg (Lib.bytesWorld_at_new w e ⟨l.toArray⟩) (λ h=>by cases h) (Nat.le_refl _) (qP _ _)
     (by
      simp only[Lib.bytesCells,Array.toList_append];have e1:((⟨l.toArray⟩:ByteArray).data.map λ b=>Value.int .u8 b.toNat).toList=Lib.byteCells l:=by simp[Lib.byteCells]
      rw[e1,List.take_left]) (by rw[Nat.mul_one,hcs]) (grownCap_le_maxLen w _ 0 e (by rw[hsz]; unfold maxLen; omega))
    refine⟨_,_,_,hrun,hext,hnew,?_⟩;simp only[rv,eU,if_true,Option.bind_some];rw[if_pos]
    ·simp[hsz]
    ·exact⟨by show 0+l.length<=_; omega,trivial⟩
  ·cases hg
 ·cases hg
def YY(P:Program)(src dst:TypeId)(a:AV)(h:AH):Option AV:=match a with
 | .ptr i 0=>match h.get i with
  | some (some ao)=>match P.underlying src,P.underlying dst with
   | some (.pointer t),some .unsafePointer=>match P.info? t,ao.cells with
    | some j,_ :: _=>cond (Nat.beq j.size 0) none (some (.ptr i 0))
    | _,_=>none
   | some .unsafePointer,some (.pointer u)=>match P.info? u with
    | some j=>cond (Nat.beq ao.T u&&Nat.ble 1 j.size&&Nat.ble j.size ao.cells.length) (some (.ptr i 0)) none
    | none=>none
   | _,_=>none
  | _=>none
 | _=>none
theorem FY{P:Program}{e:TypeId}{c:Nat}(hc:P.cellsOf e=c)(h0:0<c)(count:Nat)(hn:1<=count):liesAt P P.depth e count 0 e 1=true:=by
 have hd:P.depth=(2*(P.types.size+Made.depth)+1)+1:=rfl;rw[hd];simp only[liesAt,Bool.or_eq_true]
 left
 rw[hd];have h1:c≠0:=by omega
 simp[rowAt,hc,h1,hn,sameLayout]
theorem Vd{P:Program}{src dst:TypeId}{a r:AV}{h:AH}(hg:YY P src dst a h=some r){w0 w:World}{ρ:Names}(hr:fY w0 w ρ h){va:Value}(ha:rv ρ a=some va):y5 P w0 w ρ (convert src dst va) r h:=by
 unfold YY at hg
 split at hg
 ·rename_i i
  split at hg
  ·rename_i ao hi;obtain⟨L,hL,rfl⟩:=gB ha;obtain⟨L1,cur,vs,hlv⟩:=hr.live i ao hi;obtain rfl:L=L1:=Option.some.inj (hL.symm.trans hlv.at_);obtain⟨fz,hblk,_⟩:=hlv.blk;have hvl:=bC hlv.val;have hcur:vs.length<=cur.size:=by
    have:vs.length<=cur.toList.length:=by rw[<- hlv.here]; simp; omega
    simpa using this
   have hsh:w.shape? L.b=some (ao.T,cur.size):=by simp[World.shape?,hblk]
   split at hg
   ·rename_i t hs hd
    split at hg
    ·rename_i j c cs hj hcs
     cases hb:Nat.beq j.size 0 with
     | true=>rw[hb] at hg; cases hg
     | false =>
      rw[hb] at hg
      cases hg
      have hj0:j.size≠0:=λ e=>by rw[e] at hb; cases hb
      exact⟨_,w,ρ,Lib.run_to_unsafe w ⟨L.b,0,none⟩ hs hd hj hj0 hsh (by show 0<cur.size; rw[hcs] at hvl; simp at hvl; omega),Ext.refl _,hr,ha⟩
    ·cases hg
   ·rename_i u hs hd
    split at hg
    ·rename_i j hj
     cases hb:(Nat.beq ao.T u&&Nat.ble 1 j.size&&Nat.ble j.size ao.cells.length) with
     | false=>rw[hb] at hg; cases hg
     | true =>
      rw[hb] at hg
      cases hg
      simp only[Bool.and_eq_true] at hb;obtain⟨⟨q1,q2⟩,q3⟩:=hb;have q1:=beq_iff.1 q1;have q2:=Nat.le_of_ble_eq_true q2;have q3:=Nat.le_of_ble_eq_true q3;rw[q1] at hsh;have hco:P.cellsOf u=j.size:=by simp[Program.cellsOf,hj]
      exact⟨_,w,ρ,Lib.run_from_unsafe w ⟨L.b,0,none⟩ hs hd hj hsh (by
       show liesAt P P.depth u (cur.size / P.cellsOf u) 0 u 1=true;refine FY hco q2 _ ?_;rw[hco,Nat.le_div_iff_mul_le q2];omega),Ext.refl _,hr,ha⟩
    ·cases hg
   ·cases hg
  ·cases hg
 ·cases hg
def Uh(P:Program)(f:FuncId)(e:Array Value->Sem Value):Prop :=
 ∃ fn,P.funcs[f]?=some fn/\(fn.name== "runtime.NumGoroutine")=false/\fn.body.isNone=true/\Extern.findNext fn=none/\Extern.find fn=some e
structure XT where
 noEsc:Nat
 idx:Nat
 cnt:Nat
 mnz:Nat
 mps:Array TypeId
 mt:TypeId
 me:TypeId
def U5(x:XT):List AV->AH->Nat->FuncId->Option (AV×AH×Nat):=λ args h n f =>
 cond (Nat.beq f x.noEsc) (match args with
  | [a]=>some (a,h,n)
  | _=>none)
 (cond (Nat.beq f x.idx) (match args with
  | [.str l,.int .u8 c]=>some (DQ .i64 (Lib.indexByte l c.toNat.toUInt8),h,n)
  | _=>none)
 (cond (Nat.beq f x.cnt) (match args with
  | [.str l,.int .u8 c]=>some (DQ .i64 (.ofNat (Lib.countByte l c.toNat.toUInt8)),h,n)
  | _=>none)
 (cond (Nat.beq f x.mnz) (match args,h.get n with
  | [.int .i64 (.ofNat m)],none=>cond (Nat.ble m 281474976710656) (some (.sli n 0 m 1,h.put n (some ⟨x.me,[],false⟩),Nat.succ n)) none
  | _,_=>none) none)))
structure XT.OK (P:Program) (x:XT):Prop where
 noEsc:Uh P x.noEsc Extern.AbiNoEscape.same
 idx:Uh P x.idx Extern.BytealgIndexByte.indexByte
 cnt:Uh P x.cnt Extern.BytealgCount.count
 mnz:Uh P x.mnz (Extern.BytealgMakeNoZero.makeNoZero x.mps #[x.mt])
 me:P.underlying x.mt=some (.slice x.me)
theorem Uh.run{P:Program}{f:FuncId}{e:Array Value->Sem Value}(h:Uh P f e){args:Array Value}{w w' : World}{v:Value}(hr:(e args).run P w=.ok v w'):(callFunc f args).run P w=.ok (.value v) w':=by
 obtain⟨fn,h1,h2,h3,h4,h5⟩:=h;rw[run_callFunc_extern h1 h2 h3 h4 h5,hr];rfl
theorem Q6{P:Program}{x:XT}(hx:x.OK P){f:FuncId}{args:List AV}{h h' : AH}{n n' : Nat}{a:AV}(hg:U5 x args h n f=some (a,h',n')){w0 w:World}{ρ:Names}{vs:List Value}(hr:fY w0 w ρ h)(hv:eN ρ args=some vs) :
  ∃ v w' ρ',(callFunc f vs.toArray).run P w=.ok (.value v) w'/\Ext ρ ρ'/\fY w0 w' ρ' h'/\rv ρ' a=some v:=by
 unfold U5 at hg
 cases h1:Nat.beq f x.noEsc with
 | true =>
  have:=beq_iff.1 h1;subst this;rw[h1] at hg;simp only[cond_true] at hg
  split at hg
  ·rename_i a
   cases hg
   obtain⟨v,us,rfl,k1,k2⟩:=aP hv
   cases k2
   exact⟨v,w,ρ,hx.noEsc.run (Lib.run_noEscape w v),Ext.refl _,hr,k1⟩
  ·cases hg
 | false =>
  rw[h1] at hg;simp only[cond_false] at hg
  cases h2:Nat.beq f x.idx with
  | true =>
   have:=beq_iff.1 h2;subst this;rw[h2] at hg;simp only[cond_true] at hg
   split at hg
   ·rename_i l c
    cases hg
    obtain⟨v,us,rfl,k1,k2⟩:=aP hv;obtain⟨v2,us2,rfl,k3,k4⟩:=aP k2
    cases k4
    cases gC k1; cases cI k3
    exact⟨_,w,ρ,hx.idx.run (Lib.run_indexByteString _ c w),Ext.refl _,hr,by rw[fC]; rfl⟩
   ·cases hg
  | false =>
   rw[h2] at hg;simp only[cond_false] at hg
   cases h3:Nat.beq f x.cnt with
   | true =>
    have:=beq_iff.1 h3;subst this;rw[h3] at hg;simp only[cond_true] at hg
    split at hg
    ·rename_i l c
     cases hg
     obtain⟨v,us,rfl,k1,k2⟩:=aP hv;obtain⟨v2,us2,rfl,k3,k4⟩:=aP k2
     cases k4
     cases gC k1; cases cI k3
     exact⟨_,w,ρ,hx.cnt.run (Lib.run_countString _ c w),Ext.refl _,hr,by rw[fC]; rfl⟩
    ·cases hg
   | false =>
    rw[h3] at hg;simp only[cond_false] at hg
    cases h4:Nat.beq f x.mnz with
    | false=>rw[h4] at hg; cases hg
    | true =>
     have:=beq_iff.1 h4;subst this;rw[h4] at hg;simp only[cond_true] at hg
     split at hg
     ·rename_i m hn
      cases hb:Nat.ble m 281474976710656 with
      | false=>rw[hb] at hg; cases hg
      | true =>
       rw[hb] at hg
       cases hg
       have hle:=Nat.le_of_ble_eq_true hb;obtain⟨v,us,rfl,k1,k2⟩:=aP hv
       cases k2
       cases cI k1
       obtain⟨cs,hrun,hcs,hcm⟩:=Lib.run_makeNoZero (P:=P) w x.mps x.mt x.me hx.me m hle;have hchg:aD w (w.drew.drew.alloc (.cells cs x.me)) []:=((aD.drew w []).trans (aD.drew w.drew []) (by simp)).trans (aD.new w.drew.drew _ []) (by simp);have hext:=Ext.eU (L:=⟨w.heap.size,1,cs.size⟩) (ct hr hn);have hnew:=hr.new hn (ro:=false) (T:=x.me) (L:=⟨w.heap.size,1,cs.size⟩) (cells:=[]) (vs:=[]) (cur:=cs) (fz:=(0,0)) hchg (by
        have:=cw w.drew.drew (.cells cs x.me) w.heap.size;rw[this]
        simp) (λ _=>rfl) (Nat.le_refl _) rfl rfl (by simp) (hcm (by unfold maxLen; omega))
       refine⟨_,_,_,hx.mnz.run hrun,hext,hnew,?_⟩;simp only[rv,eU,if_true,Option.bind_some];rw[if_pos]
       ·simp
       ·exact⟨by show 0+m<=cs.size; omega,trivial⟩
     ·cases hg
mutual
def oz:AV->AV->Bool
 | .int k n,.int k' m=>cond (Fm k k') (Mh n m) false
 | .bool a,.bool b=>cond a b (not b)
 | .str l,.str m=>DY l m
 | .nilp,.nilp=>true
 | .ptr i o,.ptr j p=>cond (Nat.beq i j) (Nat.beq o p) false
 | .nils,.nils=>true
 | .sli i o l z,.sli i' o' l' z'=>cond (Nat.beq i i') (cond (Nat.beq o o') (cond (Nat.beq l l') (Nat.beq z z') false) false) false
 | .nili,.nili=>true
 | .iface T v,.iface T' v'=>cond (Nat.beq T T') (oz v v') false
 | .nilf,.nilf=>true
 | .fn f x y,.fn f' x' y'=>cond (Nat.beq f f') (cond (zh x x') (zh y y') false) false
 | .yld i,.yld j=>Nat.beq i j
 | .agg cs,.agg cs'=>zh cs cs'
 | .tup cs,.tup cs'=>zh cs cs'
 | _,_=>false
def zh:List AV->List AV->Bool
 | [],[]=>true
 | a :: l,b :: m=>cond (oz a b) (zh l m) false
 | _,_=>false
end
theorem gS{a b:Bool}(h:cond a b false=true):a=true/\b=true:=by cases a<;>simp_all
mutual
theorem Dh:∀ {a b:AV},oz a b=true->a=b
 | .int k n,b,h=>by
  cases b<;>simp only[oz] at h<;>try cases h
  obtain⟨h1,h2⟩:=gS h;rw[vX] at h2;rw[jM h1,eq_of_beq h2]
 | .bool x,b,h=>by
  cases b<;>simp only[oz] at h<;>try cases h
  rename_i y
  cases x<;>cases y<;>first|rfl|cases h
 | .str l,b,h=>by
  cases b<;>simp only[oz] at h<;>try cases h
  rw[nr] at h;rw[eq_of_beq h]
 | .nilp,b,h=>by cases b<;>simp only[oz] at h<;>first|rfl|cases h
 | .nils,b,h=>by cases b<;>simp only[oz] at h<;>first|rfl|cases h
 | .nili,b,h=>by cases b<;>simp only[oz] at h<;>first|rfl|cases h
 | .nilf,b,h=>by cases b<;>simp only[oz] at h<;>first|rfl|cases h
 | .ptr i o,b,h=>by
  cases b<;>simp only[oz] at h<;>try cases h
  obtain⟨h1,h2⟩:=gS h;rw[beq_iff.1 h1,beq_iff.1 h2]
 | .sli i o l z,b,h=>by
  cases b<;>simp only[oz] at h<;>try cases h
  obtain⟨h1,h⟩:=gS h;obtain⟨h2,h⟩:=gS h;obtain⟨h3,h4⟩:=gS h;rw[beq_iff.1 h1,beq_iff.1 h2,beq_iff.1 h3,beq_iff.1 h4]
 | .iface T v,b,h=>by
  cases b<;>simp only[oz] at h<;>try cases h
  obtain⟨h1,h2⟩:=gS h;rw[beq_iff.1 h1,Dh h2]
 | .fn f x y,b,h=>by
  cases b<;>simp only[oz] at h<;>try cases h
  obtain⟨h1,h⟩:=gS h;obtain⟨h2,h3⟩:=gS h;rw[beq_iff.1 h1,mO h2,mO h3]
 | .yld i,b,h=>by
  cases b<;>simp only[oz] at h<;>try cases h
  rw[beq_iff.1 h]
 | .agg cs,b,h=>by
  cases b<;>simp only[oz] at h<;>try cases h
  rw[mO h]
 | .tup cs,b,h=>by
  cases b<;>simp only[oz] at h<;>try cases h
  rw[mO h]
theorem mO:∀ {l m:List AV},zh l m=true->l=m
 | [],[],_=>rfl
 | [],_ :: _,h=>by simp[zh] at h
 | _ :: _,[],h=>by simp[zh] at h
 | a :: l,b :: m,h=>by
  simp only[zh] at h;obtain⟨h1,h2⟩:=gS h;rw[Dh h1,mO h2]
end
def Ht{α:Type}(f:α->α->Bool):List (Nat×α)->List (Nat×α)->Bool
 | [],[]=>true
 | a :: l,b :: m=>cond (Nat.beq a.1 b.1) (cond (f a.2 b.2) (Ht f l m) false) false
 | _,_=>false
theorem Ja{α:Type}{f:α->α->Bool}(hf:∀ {a b},f a b=true->a=b):∀ {l m:List (Nat×α)},Ht f l m=true->l=m
 | [],[],_=>rfl
 | [],_ :: _,h=>by simp[Ht] at h
 | _ :: _,[],h=>by simp[Ht] at h
 | (i,a) :: l,(j,b) :: m,h=>by
  simp only[Ht] at h;obtain⟨h1,h⟩:=gS h;obtain⟨h2,h3⟩:=gS h;rw[beq_iff.1 h1,hf h2,Ja hf h3]
def Tr.beq{α:Type}(f:α->α->Bool):Tr α->Tr α->Bool
 | .leaf l,.leaf m=>Ht f l m
 | .node a b,.node c d=>cond (Tr.beq f a c) (Tr.beq f b d) false
 | _,_=>false
theorem Tr.beq_eq{α:Type}{f:α->α->Bool}(hf:∀ {a b},f a b=true->a=b):∀ {t u:Tr α},Tr.beq f t u=true->t=u
 | .leaf l,.leaf m,h=>by rw[Ja hf (show Ht f l m=true from h)]
 | .leaf _,.node _ _,h=>by simp[Tr.beq] at h
 | .node _ _,.leaf _,h=>by simp[Tr.beq] at h
 | .node a b,.node c d,h=>by
  simp only[Tr.beq] at h;obtain⟨h1,h2⟩:=gS h;rw[Tr.beq_eq hf h1,Tr.beq_eq hf h2]
def MD:Option AO->Option AO->Bool
 | none,none=>true
 | some a,some b=>cond (Nat.beq a.T b.T) (cond (zh a.cells b.cells) (cond a.ro b.ro (not b.ro)) false) false
 | _,_=>false
theorem P8:∀ {a b:Option AO},MD a b=true->a=b
 | none,none,_=>rfl
 | none,some _,h=>by simp[MD] at h
 | some _,none,h=>by simp[MD] at h
 | some ⟨T,c,r⟩,some ⟨T',c',r'⟩,h=>by
  simp only[MD] at h;obtain⟨h1,h2⟩:=gS h;obtain⟨h2,h3⟩:=gS h2;have:r=r':=by cases r<;>cases r' <;> first|rfl|cases h3
  rw[beq_iff.1 h1,mO h2,this]
structure AD where
 f:FuncId
 cap:List AV
 args:List AV
def dv(ρ:Names)(d:AD):Option Deferred:=match eN ρ d.cap,eN ρ d.args with
 | some c,some a=>some { target:=.fn (.func d.f) c.toArray,args:=a.toArray }
 | _,_=>none
def HD(ρ:Names):List AD->Option (List Deferred)
 | []=>some []
 | d :: l=>match dv ρ d,HD ρ l with
  | some x,some xs=>some (x :: xs)
  | _,_=>none
theorem Qz{ρ σ:Names}(hx:Ext ρ σ){d:AD}{x:Deferred}(h:dv ρ d=some x):dv σ d=some x:=by
 unfold dv at h ⊢
 split at h
 ·rename_i c a h1 h2;rw[cN hx h1,cN hx h2]; exact h
 ·cases h
theorem uh{ρ σ:Names}(hx:Ext ρ σ):∀ {l:List AD} {xs:List Deferred},HD ρ l=some xs->HD σ l=some xs
 | [],_,h=>h
 | d :: l,xs,h=>by
  simp only[HD] at h ⊢
  split at h
  ·rename_i x xs' h1 h2;rw[Qz hx h1,uh hx h2]; exact h
  ·cases h
theorem Jl{ρ:Names}:∀ {l m:List AD} {xs ys:List Deferred},HD ρ l=some xs->HD ρ m=some ys->HD ρ (l++m)=some (xs++ys)
 | [],_,_,_,h,k=>by cases h; exact k
 | d :: l,m,xs,ys,h,k=>by
  simp only[HD] at h
  split at h
  ·rename_i x xs' h1 h2
   cases h
   simp only[List.cons_append,HD,h1,Jl h2 k]
  ·cases h
abbrev br:=FuncId->List AV->AH->Nat->Option (AV×AH×Nat)
def jy(P:Program)(w0:World)(call:br):Prop:=∀ (f:FuncId) (args:List AV) (h:AH) (n:Nat) (a:AV) (h' : AH) (n' : Nat),call f args h n=some (a,h',n') ->
 ∀ (ρ:Names) (w:World) (vs:List Value) (R:Ending->World->Prop),fY w0 w ρ h->eN ρ args=some vs->(∀ (ρ' : Names) (w' : World) (v:Value),Ext ρ ρ'->fY w0 w' ρ' h'->rv ρ' a=some v->R (.returned v) w')->Calls P f vs.toArray w R
def EU(P:Program)(w0:World)(ext:br):Prop:=∀ (f:FuncId) (args:List AV) (h:AH) (n:Nat) (a:AV) (h' : AH) (n' : Nat),ext f args h n=some (a,h',n') ->
 ∀ (ρ:Names) (w:World) (vs:List Value),fY w0 w ρ h->eN ρ args=some vs ->
  ∃ v w' ρ',(callFunc f vs.toArray).run P w=.ok (.value v) w'/\Ext ρ ρ'/\fY w0 w' ρ' h'/\rv ρ' a=some v
abbrev GO:=Option (AV×List AD×AH×Nat)
def Mf(n:Nat):Option (AV×AH)->GO
 | some (a,h)=>some (a,[],h,n)
 | none=>none
def Rt(P:Program)(t:TypeId):Bool:=match P.underlying t with
 | some (.slice e)=>(dQ P e).isSome
 | _=>false
theorem Ru{P:Program}{t:TypeId}(h:Rt P t=true):∃ e,P.underlying t=some (.slice e)/\∃ n,dQ P e=some n:=by
 unfold Rt at h
 split at h
 ·rename_i e hu;exact⟨e,hu,Option.isSome_iff_exists.1 h⟩
 ·cases h
def He(P:Program)(call ext:br)(o:Oper)(e:Tr AV)(h:AH)(n:Nat):GO:=match o.op with
 | .store ty x v=>match fN e x,fN e v with
  | some p,some a=>match K3 P ty p a h with
   | some h'=>some (.tup [],[],h',n)
   | none=>none
  | _,_=>none
 | .alloc T=>match xJ P T with
  | some z=>Mf (Nat.succ n) (Fz T z h n)
  | none=>none
 | .box T x=>match fN e x with
  | some a=>Mf (Nat.succ n) (Fz T a h n)
  | none=>none
 | .buildSlice ty len ps=>match xO e ps.toList with
  | some az=>Mf (Nat.succ n) (No P ty len az h n)
  | none=>none
 | .makeSlice ty l c=>match fN e l,fN e c with
  | some a,some b=>Mf (Nat.succ n) (U7 P ty a b h n)
  | _,_=>none
 | .convert src dst x=>match Hf P o e with
  | some a=>some (a,[],h,n)
  | none=>match fN e x with
   | some a=>match Va P src dst a h with
    | some r=>some (r,[],h,n)
    | none=>match YY P src dst a h with
     | some r=>some (r,[],h,n)
     | none=>match a with
      | .str l=>Mf (Nat.succ n) (U2 P src dst l h n)
      | _=>none
   | none=>none
 | .call { callee:=.builtin .copy,args:=args,argTypes:=tys }=>match lF e args.toList,tys[0]? with
  | some [d,s],some t=>cond (Rt P t) (Mf n (U3 P t d s h)) none
  | _,_=>none
 | .call { callee:=.builtin .unsafeSliceData,args:=args,argTypes:=_ }=>match lF e args.toList with
  | some [s]=>match Ve s with
   | some r=>some (r,[],h,n)
   | none=>none
  | _=>none
 | .call { callee:=.builtin .unsafeString,args:=args,argTypes:=tys }=>match lF e args.toList with
  | some [p,m]=>Mf n (Vf P tys.toList p m h)
  | _=>none
 | .call { callee:=.builtin .append,args:=args,argTypes:=tys }=>match lF e args.toList with
  | some [s,x]=>match x with
   | .str l=>Mf (Nat.succ n) (QU P tys.toList s l h n)
   | x=>Mf (Nat.succ n) (QS P tys.toList s x h n)
  | _=>none
 | .call { callee:=.value f,args:=args,argTypes:=_ }=>match fN e f,lF e args.toList with
  | some (.fn g xs ys),some az=>match cond (bU P g) (call g (xs++az++ys) h n) (ext g (xs++az++ys) h n) with
   | some (r,h',n')=>some (r,[],h',n')
   | none=>none
  | _,_=>none
 | .defer { callee:=.value f,args:=args,argTypes:=_ }=>match fN e f,lF e args.toList with
  | some (.fn g xs ys),some az=>some (.tup [],[⟨g,ys,xs++az⟩],h,n)
  | _,_=>none
 | _=>match Ri P o e h with
  | some (a,_)=>some (a,[],h,n)
  | none=>none
theorem TY{ρ:Names}{f:FuncId}{x y:List AV}{v:Value}(h:rv ρ (.fn f x y)=some v):∃ xs ys,eN ρ x=some xs/\eN ρ y=some ys/\v=.func (.func f) xs.toArray ys.toArray:=by
 simp only[rv] at h
 split at h
 ·rename_i xs ys h1 h2
  cases h; exact⟨xs,ys,h1,h2,rfl⟩
 ·cases h
theorem Nw{P:Program}{w0:World}{call ext:br}(hcall:jy P w0 call)(hext:EU P w0 ext){o:Oper}{e:Tr AV}{h h' : AH}{n n' : Nat}{a:AV}{ds:List AD}(hg:He P call ext o e h n=some (a,ds,h',n')){w:World}{ρ:Names}(hr:fY w0 w ρ h){t:Tm}(he:eZ ρ e t){K:Value->List Deferred->World->Prop}(k:∀ (ρ' : Names) (v:Value) (nd:List Deferred) (w' : World),Ext ρ ρ'->fY w0 w' ρ' h'->rv ρ' a=some v->HD ρ' ds=some nd->K v nd w'):PT P o t w K:=by
 have fin:∀ {s:Sem Value},execOp (ev t) o=(do pure (.value (<- s)):Sem Next)->ds=[]->y5 P w0 w ρ s a h'->PT P o t w K:=λ {s} hs hd hw=>by
  obtain⟨v,w',ρ',h1,h2,h3,h4⟩:=hw;refine⟨.value v,w',by rw[hs]; simp only[Sem.run_bind,h1,Result.andThen_ok,Sem.run_pure],?_⟩;subst hd;exact k ρ' v [] w' h2 h3 h4 rfl
 have rd:(∃ T,Ri P o e h=some (a,T))->ds=[]->h' = h->PT P o t w K:=λ ⟨T,hT⟩ hd hh=>by
  obtain⟨v,h1,h2,h3⟩:=NA hT hr he;subst hd hh;exact⟨.value v,w,h3 w h2,k ρ v [] w (Ext.refl _) hr h1 rfl⟩
 have goO_ok:∀ {x:Option (AV×AH)} {m:Nat},Mf m x=some (a,ds,h',n')->x=some (a,h')/\ds=[]:=λ {x m} hx=>by
  unfold Mf at hx
  split at hx
  ·cases hx; exact⟨rfl,rfl⟩
  ·cases hx
 unfold He at hg
 split at hg
 ·rename_i ty x v hx
  split at hg
  ·rename_i p b hp hb
   split at hg
   ·rename_i h2 hs
    cases hg
    obtain⟨w',hrun,hr'⟩:=Rk hs hr (bp he hp) (bp he hb);exact⟨.skip,w',by simp[execOp,hx,hrun],k ρ undef [] w' (Ext.refl _) hr' rfl rfl⟩
   ·cases hg
  ·cases hg
 ·rename_i T hx
  split at hg
  ·rename_i z hz;obtain⟨hn,rfl⟩:=goO_ok hg;obtain⟨v,hv,_,hrun⟩:=vB hz ρ;obtain⟨u,w',ρ',h1,h2,h3,h4⟩:=Jv (P:=P) hn hr hv;refine fin (s:=Instr.alloc T true (.tuple #[])) (by simp[execOp,hx]) rfl ⟨u,w',ρ',?_,h2,h3,h4⟩;simp only[Instr.alloc,Sem.run_bind,hrun,Result.andThen_ok];simpa only[Sem.run_bind] using h1
  ·cases hg
 ·rename_i T x hx
  split at hg
  ·rename_i b hb;obtain⟨hn,rfl⟩:=goO_ok hg;exact fin (s:=Instr.box T (ev t x)) (by simp[execOp,hx]) rfl (Jv (P:=P) hn hr (bp he hb))
  ·cases hg
 ·rename_i ty len ps hx
  split at hg
  ·rename_i az haz;obtain⟨hn,rfl⟩:=goO_ok hg;refine fin (s:=Instr.buildSlice ty len (ps.map λ (i,x)=>(i,ev t x))) (by simp[execOp,hx]) rfl (QZ hn hr ?_);simpa using C5 he haz
  ·cases hg
 ·rename_i ty l c hx
  split at hg
  ·rename_i a1 b1 ha hb;obtain⟨hn,rfl⟩:=goO_ok hg;exact fin (s:=Instr.makeSlice ty (ev t l) (ev t c)) (by simp[execOp,hx]) rfl (Rc hn hr (bp he ha) (bp he hb))
  ·cases hg
 ·rename_i src dst x hx
  split at hg
  ·rename_i b hb
   cases hg
   obtain⟨v,h1,h2⟩:=Nz hb he;exact⟨.value v,w,h2 w,k ρ v [] w (Ext.refl _) hr h1 rfl⟩
  ·split at hg
   ·rename_i b hb
    split at hg
    ·rename_i r hr2
     cases hg
     exact fin (s:=convert src dst (ev t x)) (by simp[execOp,hx]) rfl (Rm hr2 hr (bp he hb))
    ·split at hg
     ·rename_i r hr2
      cases hg
      exact fin (s:=convert src dst (ev t x)) (by simp[execOp,hx]) rfl (Vd hr2 hr (bp he hb))
     ·split at hg
      ·rename_i l;obtain⟨hn,rfl⟩:=goO_ok hg;exact fin (s:=convert src dst (ev t x)) (by simp[execOp,hx]) rfl (by rw[gC (bp he hb)]; exact QY hn hr)
      ·cases hg
   ·cases hg
 ·rename_i args tys hx
  split at hg
  ·rename_i d s ty hds ht
   cases hsl:Rt P ty with
   | false=>rw[hsl] at hg; cases hg
   | true =>
    rw[hsl] at hg;obtain⟨hn,rfl⟩:=goO_ok hg;have hv:=gj he hds;obtain⟨vs,us,hm,h1,h2⟩:=aP hv;obtain⟨vx,us',rfl,h3,h4⟩:=aP h2
    cases h4
    have hargs:args.map (ev t) = #[vs,vx]:=Array.ext' (by rw[Array.toList_map,hm]);refine fin (s:=Builtin.copy_ tys o.type #[vs,vx]) ?_ rfl (Q4 hn ht (Ru hsl) hr h1 h3);simp[execOp,hx,resolve,invoke,builtin,hargs]
  ·cases hg
 ·rename_i args tys hx
  split at hg
  ·rename_i s hs
   split at hg
   ·rename_i r hr2
    cases hg
    have hv:=gj he hs;obtain⟨vs,us,hm,h1,h2⟩:=aP hv
    cases h2
    have hargs:args.map (ev t) = #[vs]:=Array.ext' (by rw[Array.toList_map,hm]);obtain⟨v,k1,k2⟩:=Ro (P:=P) (tys:=tys) (ty:=o.type) hr2 h1;refine fin (s:=Builtin.unsafeSliceData_ tys o.type #[vs]) ?_ rfl ⟨v,w,ρ,k2 w,Ext.refl _,hr,k1⟩;simp[execOp,hx,resolve,invoke,builtin,hargs]
   ·cases hg
  ·cases hg
 ·rename_i args tys hx
  split at hg
  ·rename_i p m hpm;obtain⟨hn,rfl⟩:=goO_ok hg;have hv:=gj he hpm;obtain⟨vs,us,hm,h1,h2⟩:=aP hv;obtain⟨vx,us',rfl,h3,h4⟩:=aP h2
   cases h4
   have hargs:args.map (ev t) = #[vs,vx]:=Array.ext' (by rw[Array.toList_map,hm]);refine fin (s:=Builtin.unsafeString_ tys o.type #[vs,vx]) ?_ rfl (Rp hn hr h1 h3);simp[execOp,hx,resolve,invoke,builtin,hargs]
  ·cases hg
 ·rename_i args tys hx
  split at hg
  ·rename_i s x hs;have hv:=gj he hs;obtain⟨vs,us,hm,h1,h2⟩:=aP hv;obtain⟨vx,us',rfl,h3,h4⟩:=aP h2
   cases h4
   have hargs:args.map (ev t) = #[vs,vx]:=Array.ext' (by rw[Array.toList_map,hm]);have hex:execOp (ev t) o=(do pure (.value (<- Builtin.append_ tys o.type #[vs,vx])):Sem Next):=by simp[execOp,hx,resolve,invoke,builtin,hargs]
   split at hg
   ·rename_i l;obtain⟨hn,rfl⟩:=goO_ok hg;exact fin hex rfl (by rw[gC h3]; exact QV hn hr h1)
   ·obtain⟨hn,rfl⟩:=goO_ok hg;exact fin hex rfl (QT hn hr h1 h3)
  ·cases hg
 ·rename_i f args tys hx
  split at hg
  ·rename_i g xs ys az hf haz;obtain⟨vxs,vys,h1,h2,h3⟩:=TY (bp he hf);have h4:=gj he haz;have hall:=kL (kL h1 h4) h2;have hargs:args.map (ev t)=(args.toList.map (ev t)).toArray:=Array.ext' (by rw[Array.toList_map]);have hex:∀ w,(execOp (ev t) o).run P w=(callFunc g (vxs++args.toList.map (ev t)++vys).toArray).run P w:=λ w=>by
    have:(vxs++args.toList.map (ev t)++vys).toArray=vxs.toArray++args.map (ev t)++vys.toArray:=by rw[hargs]; simp
    rw[this];simp only[execOp,hx,resolve,h3,Deferred.ofValue,Sem.run_bind,Sem.run_pure,Result.andThen_ok,invoke]
   split at hg
   ·rename_i r h2' n2 hc
    cases hg
    cases hen:bU P g with
    | true =>
     rw[hen] at hc;refine⟨.enter g (vxs++args.toList.map (ev t)++vys).toArray,w,by rw[hex w]; exact jL hen _ w,?_⟩;exact hcall g _ h n a h' n' hc ρ w _ _ hr hall λ ρ' w' v hx hr' hv=>⟨v,rfl,k ρ' v [] w' hx hr' hv rfl⟩
    | false =>
     rw[hen] at hc;obtain⟨v,w',ρ',g1,g2,g3,g4⟩:=hext g _ h n a h' n' hc ρ w _ hr hall;exact⟨.value v,w',by rw[hex w]; exact g1,k ρ' v [] w' g2 g3 g4 rfl⟩
   ·cases hg
  ·cases hg
 ·rename_i f args tys hx
  split at hg
  ·rename_i g xs ys az hf haz
   cases hg
   obtain⟨vxs,vys,h1,h2,h3⟩:=TY (bp he hf);have h4:=gj he haz;have hargs:args.map (ev t)=(args.toList.map (ev t)).toArray:=Array.ext' (by rw[Array.toList_map]);refine⟨.defer { target:=.fn (.func g) vys.toArray,args:=(vxs++args.toList.map (ev t)).toArray },w,?_,?_⟩
   ·simp[execOp,hx,resolve,h3,Deferred.ofValue]
   ·refine k ρ undef _ w (Ext.refl _) hr rfl ?_;simp only[HD,dv,h2,kL h1 h4]
  ·cases hg
 ·split at hg
  ·rename_i b T hb
   cases hg
   exact rd ⟨_,hb⟩ rfl rfl
  ·cases hg
