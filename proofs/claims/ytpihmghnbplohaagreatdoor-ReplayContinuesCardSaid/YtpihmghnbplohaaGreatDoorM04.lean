import Derived.Deep.Slices
import Derived.OpenShut
import Derived.Test.YtpihmghnbplohaaGreatDoorM03
set_option linter.unusedVariables false
set_option maxRecDepth 100000
namespace Go.Vc
theorem aj{P:Program}{f:FuncId}{args:Array Value}{w:World}{K:KP}{R:Ending->World->Prop}(h:Calls P f args w (qw K))(k:∀ v w',K v w'->R (.returned v) w'):Calls P f args w R :=
  h.mono λ e w' ⟨v,he,hv⟩=>by subst he; exact k v w' hv
theorem bG(g i j:Nat):(⟨g,i,none⟩:Addr).add j=⟨g,i+j,none⟩:=by unfold Addr.add; split<;>simp_all
theorem wT{w:World}{e:TypeId}{sz n:Nat}{a:OA}{c:Nat}{xs:List Value}(own:w.ownsRow 0 e sz (.slice a n c) n xs)(hn:0<n):∃ g,a=some ⟨g,0,none⟩/\∀ (k:Nat) (v:Value),xs[k]? = some v->w.cell? ⟨g,k,none⟩=some v:=by
  rcases own.2 with⟨hv,rfl⟩ | ⟨g,cap,cur,hv,_,hg,h1,_,h3,h4⟩
  · omega
  · cases hv
    refine⟨g,rfl,λ k v hk=>?_⟩;rw[cK,hg,cG,<- Array.getElem?_toList,<- hk,<- h4,List.getElem?_take];rw[<- h4,List.getElem?_take] at hk
    split at hk
    · rename_i hlt; rw[if_pos hlt]
    · cases hk
def Rd(w:World)(a:OA)(xs:List Value):Prop:=∀ (i:Nat) (v:Value),xs[i]? = some v->∃ q,a=some q/\w.cell? (q.add (i*1))=some v
theorem Rd.av{w w' : World}{a:OA}{xs:List Value}(h:Rd w a xs)(hc:az w w' []):Rd w' a xs:=λ i v hi =>
  let ⟨q,hq,hv⟩:=h i v hi
  ⟨q,hq,bT hv hc⟩
theorem PM{r:Nat}{cs:Array Value}{T:TypeId}{n:Nat}(hn:cs.size=n)(hm:n<=maxLen):bH (ai r cs T) (cw T 1 (.slice (some ⟨r,0,none⟩) n n) n cs.toList):=by
  rintro w F ⟨h,rfl⟩;refine⟨[r],⟨⟨by simp[hn],.inr ⟨r,n,cs,rfl,Nat.zero_le _,h,Nat.le_refl _,hm,by omega,?_⟩⟩,by simp[Value.ownBlock]⟩,by simp⟩;rw[Nat.mul_one];exact List.take_of_length_le (by simp[hn])
theorem bH.left{A B C:aD}(h:bH A B):bH (star A C) (star B C):=by
  rintro w F ⟨F1,F2,rfl,h1,h2,hd⟩;obtain⟨F1',h1',hj⟩:=h w F1 h1;exact⟨F1'++F2,⟨F1',F2,rfl,h1',h2,λ k hk hk2=>hd k (hj k hk) hk2⟩,λ j hj'=>by rcases List.mem_append.1 hj' with h | h<;>simp[h,hj j]⟩
theorem aL{α:Type}{l:List α}{i:Nat}{a:α}(h:l[i]? = some a):l.take (i+1)=l.take i++[a]:=by
  rw[List.take_add_one,h]; rfl
theorem St.after{w0 w w' : World}{A B:aD}(h:St w0 w A)(k:St w w' B):St w0 w' (star B A):=by
  obtain⟨F,hA,hc,hn⟩:=h;obtain⟨G,hB,hc',hn'⟩:=k;refine⟨G++F,⟨G,F,rfl,hB,A.loc hA hc' (by simp),λ k hk hk2=>?_⟩,hc.trans hc' (by simp),λ k hk=>?_⟩
  · have:=hn' k hk;have:=A.lt hA k hk2;omega
  · rcases List.mem_append.1 hk with h | h
    · exact Nat.le_trans hc.size (hn' k h)
    · exact hn k h
theorem Ra{a:OA}{c:Nat}:(if c=0 then a else Option.map (λ x=>Addr.add x (0*1)) a)=a:=by
  split
  · rfl
  · cases a with
    | none=>rfl
    | some q=>rw[Option.map_some]; unfold Addr.add; rfl
theorem LF{w0 w1 w:World}{A:aD}(hc:az w0 w1 [])(h:St w1 w A):St w0 w A :=
  let ⟨F,hF,hc',hn⟩:=h
  ⟨F,hF,hc.trans hc' (by simp),λ k hk=>Nat.le_trans hc.size (hn k hk)⟩
theorem yL{w:World}{e:TypeId}{sz n c:Nat}{a:OA}{xs:List Value}(own:w.ownsRow 0 e sz (.slice a n c) n xs):n<=c/\(a=none->c=0):=by
  rcases own.2 with⟨hv,rfl⟩ | ⟨g,cap,cur,hv,_,_,h1,_⟩
  · cases hv; exact⟨Nat.zero_le _,λ _=>rfl⟩
  · cases hv; exact⟨h1,λ h=>by cases h⟩
theorem bE{w:World}{a:Addr}:∀ (vs:List Value) (i:Nat),(∀ (j:Nat) (v:Value),vs[j]? = some v->w.cell? (a.add (i+j))=some v)->af w a i vs
  | [],_,_=>trivial
  | v :: vs,i,h=>⟨h 0 v rfl,bE vs (i+1) λ j u hj=>by have:=h (j+1) u (by simpa using hj); rwa [show i+(j+1)=i+1+j by omega] at this⟩
theorem St.cellsIn{w0 w:World}{l:List aD}{r:Nat}{cs:Array Value}{T:TypeId}(h:St w0 w (Sep l))(i:Nat)(e:l[i]? = some (ai r cs T)):af w ⟨r,0,none⟩ 0 cs.toList :=
  bE _ 0 λ j v hj=>by
    rw[fQ,Nat.zero_add,h.ag i e];simpa using hj
theorem ux{P:Program}{gf:FuncId}{lb:Array Value}{F:FuncId->List Value->Prop}(he:dw P gf=true)(h:F gf lb.toList):qS P (.func (.func gf) #[] lb) F:=by
  show cond (true&&dw P gf) (F gf lb.toList) False;rw[he];exact h
theorem bx{P:Program}{g:FuncId}{x y args:Array Value}{w:World}{R:Ending->World->Prop}(he:dw P g=true)(h:Calls P g (x++args++y) w R):cC P (.func (.func g) x y) args w R:=by
  show cond (dw P g) (Calls P g (x++args++y) w R) False;rw[he];exact h
end Go.Vc
namespace Go.Vc
open Go Go.Deep
def mc(P:Program)(w:World):Nat->TypeId->List Value->Prop
  | 0,_,_=>True
  | d+1,t,cs=>match P.underlying t with
    | some .bool=>∃ b:Bool,cs=[.bool b]
    | some (.int k)=>∃ n:Int,cs=[.int k n]/\(Lit.int k n).wf=true
    | some .string=>∃ s:ByteArray,cs=[.string s]/\s.size<=maxLen
    | some (.slice e)=>∃ (a:OA) (l c:Nat),cs=[.slice a l c]/\l<=c/\c<=maxLen/\(a=none->c=0)/\l*P.bytesOf e<=reachBytes /\
        ∀ i,i<l->∃ q cs',a=some q/\w.cells? 0 (q.add (i*P.cellsOf e)) (P.cellsOf e)=some cs'/\mc P w d e cs'
    | some (.struct fs)=>cs.length=P.cellsOf t/\∀ f∈fs.toList,mc P w d f.type ((cs.drop f.offset).take (P.cellsOf f.type))
    | some (.array n e)=>cs.length=P.cellsOf t/\∀ i,i<n->mc P w d e ((cs.drop (i*P.cellsOf e)).take (P.cellsOf e))
    | _=>True
theorem Me{H:Type}{P:Program}{e:TypeId}:∀ {l:List (DataW H)} {d:DataW H} {y:Nat},d∈l->y∈d.weights P e->y∈DataW.weightsAll P e l
  | [],_,_,h,_=>by cases h
  | x :: l,d,y,h,hy=>by
    simp only[DataW.weightsAll,List.mem_append];rcases List.mem_cons.1 h with rfl | h
    · exact .inl hy
    · exact .inr (Me h hy)
theorem j4{H:Type}{P:Program}:∀ {ts:List TypeId} {l:List (DataW H)} {i:Nat} {t:TypeId} {d:DataW H} {y:Nat},ts[i]? = some t->l[i]? = some d->y∈d.weights P t->y∈DataW.weightsEach P ts l
  | [],_,_,_,_,_,h,_,_=>by simp at h
  | _ :: _,[],_,_,_,_,_,h,_=>by simp at h
  | t0 :: ts,d0 :: l,i,t,d,y,h1,h2,hy=>by
    simp only[DataW.weightsEach,List.mem_append]
    cases i with
    | zero=>simp at h1 h2; subst h1 h2; exact .inl hy
    | succ i=>exact .inr (j4 (i:=i) (by simpa using h1) (by simpa using h2) hy)
theorem di{H:Type}{enc:TypeId×Value->H}{P:Program}{w:World}{spare:Nat->Bool}{held:Bool}:∀ (d:Nat) {fuel:Nat} {t:TypeId} {cs:List Value} {x:DataW H×List MemPlace},
    DataW.trod enc P w 0 spare held fuel t cs=some x->(∀ y∈x.1.weights P t,y<=reachBytes)->mc P w d t cs
  | 0,_,_,_,_,_,_=>trivial
  | d+1,fuel,t,cs,x,h,hw=>by
    unfold mc
    split
    · rename_i hu;obtain⟨b,rfl,_⟩:=DataW.trod_bool hu h;exact⟨b,rfl⟩
    · rename_i k hu;obtain⟨n,rfl,_,hw⟩:=DataW.trod_int hu h;exact⟨n,rfl,hw⟩
    · rename_i hu;obtain⟨s,rfl,_,hs⟩:=DataW.trod_string hu h;exact⟨s,rfl,hs⟩
    · rename_i e hu;rcases open_slice hu h with⟨rfl,_⟩ | ⟨a,l,c,m,n,D,Pl,rfl,_,hl,hc,hm,hx,hi⟩
      · exact⟨none,0,0,rfl,Nat.le_refl _,Nat.zero_le _,λ _=>rfl,by simp,λ i hi=>by omega⟩
      · subst hx;simp only[DataW.weights,hu,List.length_map,List.length_range,List.mem_cons,List.mem_append] at hw;have hlm:l<=m:=by rw[hm]; split<;>omega
        have hb:=hw _ (.inl rfl);refine⟨some a,l,c,rfl,hl,hc,λ h=>(by cases h),?_,λ i hil=>?_⟩
        · exact Nat.le_trans (Nat.mul_le_mul_right _ (by omega)) hb
        · obtain⟨cs',h1,h2⟩:=hi i (by omega);exact⟨a,cs',rfl,h1,di d h2 λ y hy=>hw y (.inr (.inl (Me (List.mem_map.2 ⟨i,by simpa using hil,rfl⟩) hy)))⟩
    · rename_i fs hu;obtain⟨xs,n,_,rfl,hc,hl,hf⟩:=DataW.trod_struct hu h;refine⟨hc,λ f hm=>?_⟩;obtain⟨i,hi,rfl⟩:=List.mem_iff_getElem.1 hm;have hi' : i<fs.size:=by simpa using hi
      have h2:=hf i fs.toList[i] (by simp[hi']);rw[List.getElem?_eq_getElem (by omega)] at h2;simp only[DataW.weights,hu] at hw;exact di d h2 λ y hy=>hw y (j4 (i:=i) (by simp[hi']) (by rw[List.getElem?_map,List.getElem?_eq_getElem (by omega)]; rfl) hy)
    · rename_i n e hu;obtain⟨xs,m,_,rfl,hc,hl,hf⟩:=DataW.trod_array hu h;refine⟨hc,λ i hi=>?_⟩;have h2:=hf i hi;rw[List.getElem?_eq_getElem (by omega)] at h2;simp only[DataW.weights,hu] at hw;exact di d h2 λ y hy=>hw y (Me (List.mem_map.2 ⟨_,List.getElem_mem (by omega),rfl⟩) hy)
    · trivial
end Go.Vc
namespace Go.Vc
open Go
abbrev sv (l:List UInt8):Value:=.string (bs l)
def In(n:Int):Prop:=-9223372036854775808<=n/\n<=9223372036854775807
theorem aC{n:Int}(h:In n):IntKind.i64.wrap n=n:=by
  obtain⟨h0,h1⟩:=h;simp only[IntKind.wrap,IntKind.signed,IntKind.bits]
  simp
  omega
theorem inc{k n:Nat}(h:n<=9223372036854775807)(hk:k<n):IntKind.i64.wrap ((k:Int)+1)=((k+1:Nat):Int):=aC ⟨by omega,by omega⟩
theorem jY(l:List UInt8)(i:Nat):(bs l)[i]? = l[i]?:=by
  by_cases h:i<l.length
  · rw[getElem?_pos (bs l) i h,List.getElem?_eq_getElem h]; rfl
  · rw[getElem?_neg (bs l) i h,List.getElem?_eq_none (by omega)]
theorem Bn(l:List UInt8)(m n:Nat):(bs l).extract m n=bs ((l.drop m).take (n-m)):=by
  apply ByteArray.ext;rw[ByteArray.data_extract];apply Array.toList_inj.1;rw[Array.toList_extract,List.extract_eq_take_drop];simp[bs]
theorem JG(l:List UInt8)(n:Nat):(bs l).extract 0 n=bs (l.take n):=by rw[Bn]; simp
theorem ia(l:List UInt8):(bs l).toList=l:=by rw[Go.ByteArray.toList_eq]; simp[bs]
theorem fm(l:List UInt8):(bs l).size=l.length:=by simp[bs,ByteArray.size]
theorem lA(l m:List UInt8):bs l++bs m=bs (l++m):=by
  apply ByteArray.ext; simp[bs]
theorem OK(b:ByteArray):b=bs b.data.toList:=by cases b; simp[bs]
namespace I6
def l(u:I6):List Int:=[u.a,u.b,u.c,u.d,u.e,u.f]
def at'(u:I6):Nat->Int
  | 0=>u.a
  | 1=>u.b
  | 2=>u.c
  | 3=>u.d
  | 4=>u.e
  | 5=>u.f
  | _=>0
theorem get(u:I6)(k:Nat)(hk:k<6):(u.vs.toArray:Array Value)[k*1]? = some (iv (u.at' k)):=by
  match k,hk with
  | 0,_ | 1,_ | 2,_ | 3,_ | 4,_ | 5,_=>rfl
theorem vY(u:I6)(k:Nat)(hk:k<6):u.l[k]? = some (u.at' k):=by
  match k,hk with
  | 0,_ | 1,_ | 2,_ | 3,_ | 4,_ | 5,_=>rfl
theorem size(u:I6):u.vs.toArray.size=6:=rfl
theorem len(u:I6):u.l.length=6:=rfl
theorem one(u:I6):∀ v∈u.vs,v.oneCell' = true:=by
  intro v hv; simp[vs] at hv; rcases hv with rfl | rfl | rfl | rfl | rfl | rfl<;>rfl
theorem ext'{u v:I6}(h:∀ k,k<6->u.at' k=v.at' k):u=v:=by
  cases u; cases v
  have h0:=h 0 (by decide); have h1:=h 1 (by decide); have h2:=h 2 (by decide); have h3:=h 3 (by decide); have h4:=h 4 (by decide); have h5:=h 5 (by decide);simp only[at'] at h0 h1 h2 h3 h4 h5;subst h0 h1 h2 h3 h4 h5; rfl
theorem beq_iff{u v:I6}:u.beq v=true<->u=v:=by
  cases u; cases v
  simp[beq]
instance:DecidableEq I6:=λ u v=>if h:u.beq v=true then .isTrue (beq_iff.1 h) else .isFalse λ e=>h (beq_iff.2 e)
theorem beq_eq(u v:I6):u.beq v=decide (u=v):=by
  cases h:u.beq v with
  | true=>rw[decide_eq_true (beq_iff.1 h)]
  | false=>rw[decide_eq_false λ e=>by rw[beq_iff.2 e] at h; cases h]
def Tx(l:List Int):I6:=⟨l.getD 0 0,l.getD 1 0,l.getD 2 0,l.getD 3 0,l.getD 4 0,l.getD 5 0⟩
def map(f:Int->Int)(u:I6):I6:=⟨f u.a,f u.b,f u.c,f u.d,f u.e,f u.f⟩
def zip(f:Int->Int->Int)(u v:I6):I6:=⟨f u.a v.a,f u.b v.b,f u.c v.c,f u.d v.d,f u.e v.e,f u.f v.f⟩
theorem jh(f:Int->Int->Int)(u v:I6)(k:Nat)(hk:k<6):(zip f u v).at' k=f (u.at' k) (v.at' k):=by
  match k,hk with
  | 0,_ | 1,_ | 2,_ | 3,_ | 4,_ | 5,_=>rfl
def mix(k:Nat)(u v:I6):I6:=⟨if 0<k then u.a else v.a,if 1<k then u.b else v.b,if 2<k then u.c else v.c,if 3<k then u.d else v.d,if 4<k then u.e else v.e,if 5<k then u.f else v.f⟩
theorem KQ(u v:I6):mix 0 u v=v:=rfl
theorem wM(u v:I6):mix 6 u v=u:=rfl
theorem bS(u v:I6)(k j:Nat)(hj:j<6):(mix k u v).at' j=if j<k then u.at' j else v.at' j:=by
  match j,hj with
  | 0,_ | 1,_ | 2,_ | 3,_ | 4,_ | 5,_=>rfl
theorem fM(u v:I6)(k:Nat)(hk:k<6):(mix k u v).vs.toArray.setIfInBounds k (iv (u.at' k))=(mix (k+1) u v).vs.toArray:=by
  match k,hk with
  | 0,_ | 1,_ | 2,_ | 3,_ | 4,_ | 5,_=>rfl
def put(u:I6)(k:Nat)(x:Int):I6:=match k with
  | 0=>{ u with a:=x }
  | 1=>{ u with b:=x }
  | 2=>{ u with c:=x }
  | 3=>{ u with d:=x }
  | 4=>{ u with e:=x }
  | 5=>{ u with f:=x }
  | _=>u
theorem pg(u:I6)(k:Nat)(x:Int)(hk:k<6):u.vs.toArray.setIfInBounds k (iv x)=(u.put k x).vs.toArray:=by
  match k,hk with
  | 0,_ | 1,_ | 2,_ | 3,_ | 4,_ | 5,_=>rfl
theorem uw(u:I6)(k j:Nat)(x:Int)(hk:k<6)(hj:j<6):(u.put k x).at' j=if j=k then x else u.at' j:=by
  match k,hk,j,hj with
  | 0,_,0,_ | 0,_,1,_ | 0,_,2,_ | 0,_,3,_ | 0,_,4,_ | 0,_,5,_=>rfl
  | 1,_,0,_ | 1,_,1,_ | 1,_,2,_ | 1,_,3,_ | 1,_,4,_ | 1,_,5,_=>rfl
  | 2,_,0,_ | 2,_,1,_ | 2,_,2,_ | 2,_,3,_ | 2,_,4,_ | 2,_,5,_=>rfl
  | 3,_,0,_ | 3,_,1,_ | 3,_,2,_ | 3,_,3,_ | 3,_,4,_ | 3,_,5,_=>rfl
  | 4,_,0,_ | 4,_,1,_ | 4,_,2,_ | 4,_,3,_ | 4,_,4,_ | 4,_,5,_=>rfl
  | 5,_,0,_ | 5,_,1,_ | 5,_,2,_ | 5,_,3,_ | 5,_,4,_ | 5,_,5,_=>rfl
end I6
theorem az.cat{w w1 w2:World}{F G:List Nat}(h:az w w1 F)(k:az w1 w2 G):az w w2 (F++G) :=
  ⟨Nat.le_trans h.size k.size,λ i hi hn=>(k.same i (Nat.lt_of_lt_of_le hi h.size) λ hg=>hn (List.mem_append_right _ hg)).trans (h.same i hi λ hf=>hn (List.mem_append_left _ hf)),h.env.trans k.env⟩
def held(Q:World->Prop):aD where
  p w F:=(∀ w' G,az w w' G->(∀ k∈F,k∉G)->Q w')/\∀ k∈F,k<w.heap.size
  loc:=λ {_ _ _ G} ⟨h,hl⟩ hc hd=>⟨λ w'' G' hc' hd'=>h w'' (G++G') (hc.cat hc') λ k hk hm=>(List.mem_append.1 hm).elim (hd k hk) (hd' k hk),λ k hk=>Nat.lt_of_lt_of_le (hl k hk) hc.size⟩
  lt:=λ ⟨_,hl⟩=>hl
theorem Kr{Q:World->Prop}{w:World}{F:List Nat}(h:(held Q).p w F):Q w:=h.1 w [] (az.refl _ _) (by simp)
def iu(A:aD)(Q:World->Prop):Prop:=∀ w F,A.p w F->Q w
theorem iu.weak{A:aD}{Q:World->Prop}(h:iu A Q):bH A (held Q):=λ _ F hA =>
  ⟨F,⟨λ w' _ hc hd=>h w' F (A.loc hA hc hd),λ k hk=>A.lt hA k hk⟩,λ _ hj=>hj⟩
theorem iu.star{A B:aD}{Q R:World->Prop}(h:iu A Q)(k:iu B R):iu (star A B) λ w=>Q w/\R w:=λ w _ ⟨F1,F2,_,h1,h2,_⟩=>⟨h w F1 h1,k w F2 h2⟩
theorem iu.mono{A:aD}{Q R:World->Prop}(h:iu A Q)(k:∀ w,Q w->R w):iu A R:=λ w F hA=>k w (h w F hA)
theorem bn(Q:World->Prop):iu (held Q) Q:=λ _ _ h=>Kr h
theorem o8{Q R:World->Prop}(k:∀ w,Q w->R w):bH (held Q) (held R):=((bn Q).mono k).weak
theorem St.held{w0 w:World}{A:aD}{Q:World->Prop}(h:St w0 w A)(k:iu A Q):St w0 w (Vc.held Q):=h.weak k.weak
theorem St.imp{w0 w:World}{A:aD}{Q:World->Prop}(h:St w0 w A)(k:iu A Q):Q w:=let ⟨F,hA,_⟩:=h; k w F hA
theorem St.iP{w0 w:World}{l:List aD}{Q:World->Prop}(h:St w0 w (Sep l))(i:Nat)(e:l[i]? = some (Vc.held Q)):Q w:=(h.out i e).first.imp (bn Q)
theorem St.ax{w0 w:World}{l:List aD}(h:St w0 w (Sep l))(cs:Array Value){T:TypeId}{R:Nat->World->Prop}(k:∀ r w',St w0 w' (Sep (ai r cs T :: l))->R r w'):ak w (.cells cs T) R:=k _ _ (h.bI cs T)
theorem au{α:Type}{p:Option α}{F:α->Prop}{q:α}(h:p=some q)(k:F q):an p F:=by rw[h]; exact k
def Jf{α:Type}(sz:Nat)(R:World->α->List Value->Prop)(w:World)(a:OA)(l:List α):Prop :=
  ∀ (i:Nat) (x:α),l[i]? = some x->∃ q cs,a=some q/\af w (q.add (i*sz)) 0 cs/\cs.length=sz/\R w x cs
abbrev cH {α:Type} (sz:Nat) (f:α->List Value) (w:World) (a:OA) (l:List α):Prop:=Jf sz (λ _ x cs=>cs=f x) w a l
theorem Jf.av{α:Type}{sz:Nat}{R:World->α->List Value->Prop}{w w' : World}{a:OA}{l:List α}(h:Jf sz R w a l)(hc:az w w' [])(hR:∀ x cs,R w x cs->R w' x cs):Jf sz R w' a l:=λ i x hi =>
  let ⟨q,cs,h1,h2,h3,h4⟩:=h i x hi
  ⟨q,cs,h1,br hc h2,h3,hR _ _ h4⟩
theorem cH.av{α:Type}{sz:Nat}{f:α->List Value}{w w' : World}{a:OA}{l:List α}(h:cH sz f w a l)(hc:az w w' []):cH sz f w' a l:=Jf.av h hc λ _ _ h=>h
theorem Jf.take{α:Type}{sz:Nat}{R:World->α->List Value->Prop}{w:World}{a:OA}{l:List α}(h:Jf sz R w a l)(n:Nat):Jf sz R w a (l.take n):=λ i x hi=>by
  rw[List.getElem?_take] at hi
  split at hi
  · exact h i x hi
  · cases hi
theorem Jf.nil{α:Type}{sz:Nat}{R:World->α->List Value->Prop}{w:World}{a:OA}:Jf sz R w a []:=λ i x hi=>by simp at hi
theorem cH.at{α:Type}{sz:Nat}{f:α->List Value}{w:World}{a:OA}{l:List α}(h:cH sz f w a l){i:Nat}{x:α}(hi:l[i]? = some x):∃ q,a=some q/\af w (q.add (i*sz)) 0 (f x) :=
  let ⟨q,_,h1,h2,_,h4⟩:=h i x hi
  ⟨q,h1,h4▸h2⟩
theorem bC{w:World}{a:Addr}:∀ {vs:List Value} {i:Nat},af w a i vs->∀ (j:Nat) (v:Value),vs[j]? = some v->w.cell? (a.add (i+j))=some v
  | _ :: _,i,h,0,v,hj=>by simp at hj; subst hj; exact h.1
  | _ :: vs,i,h,j+1,v,hj=>by
    have:=bC h.2 j v (by simpa using hj)
    rwa [show i+(j+1)=i+1+j by omega]
theorem Di{α:Type}{sz:Nat}{f:α->List Value}(hf:∀ x,(f x).length=sz):∀ {l:List α} {i:Nat} {x:α},l[i]? = some x->∀ (j:Nat) (v:Value),(f x)[j]? = some v->(l.flatMap f)[i*sz+j]? = some v
  | [],_,_,h,_,_,_=>by simp at h
  | y :: l,0,x,h,j,v,hj=>by
    simp at h; subst h;have hlt:j<(f y).length:=(List.getElem?_eq_some_iff.1 hj).1;rw[List.flatMap_cons,Nat.zero_mul,Nat.zero_add,List.getElem?_append_left hlt]; exact hj
  | y :: l,i+1,x,h,j,v,hj=>by
    have h1:=Di hf (l:=l) (i:=i) (by simpa using h) j v hj;rw[List.flatMap_cons,List.getElem?_append_right (by rw[hf,Nat.add_mul]; omega),hf,Nat.add_mul];rw[show i*sz+1*sz+j-sz=i*sz+j by omega];exact h1
theorem cL{α:Type}{sz:Nat}{f:α->List Value}(hf:∀ x,(f x).length=sz):∀ (l:List α),(l.flatMap f).length=l.length*sz
  | []=>by simp
  | x :: l=>by rw[List.flatMap_cons,List.length_append,hf,cL hf l,List.length_cons,Nat.add_mul]; omega
theorem Lq{α:Type}{sz:Nat}{f:α->List Value}(hf:∀ x,(f x).length=sz){w:World}{e:TypeId}{a:OA}{c:Nat}{l:List α}(own:w.ownsRow 0 e sz (.slice a l.length c) l.length (l.flatMap f)):cH sz f w a l:=λ i x hi=>by
  have hlt:=(List.getElem?_eq_some_iff.1 hi).1;obtain⟨g,rfl,hget⟩:=wT own (by omega);refine⟨_,f x,rfl,bE _ 0 λ j v hj=>?_,hf x,rfl⟩;rw[fQ,Nat.zero_add];have h1:=Di hf hi j v hj;show w.cell? (Addr.add ⟨g,i*sz,none⟩ j)=some v;have:(⟨g,i*sz,none⟩:Addr).add j=⟨g,i*sz+j,none⟩:=by unfold Addr.add; split<;>simp_all
  rw[this];exact hget _ _ h1
end Go.Vc
namespace Go.Vc
open Go
theorem CS{P:Program}{w:World}{t ty e:TypeId}{z:Value}{sz by_:Nat}(hT:gL P t e z sz by_){a:OA}{n c c' : Nat}(hnc:n<=c):(Builtin.append_ #[t,t] ty #[.slice a n c,.slice none 0 c']).run P w=.ok (.slice a n c) w:=by
  obtain⟨i,hi,hz,hs,hby⟩:=hT.i;simp[Builtin.append_,run_underlying hT.u,sizeOf,typeInfo,hi,Builtin.lenOf,hnc,Builtin.firstCells]
  cases a<;>simp[storeCells]
abbrev bW {α:Type} (e:TypeId) (sz:Nat) (f:α->List Value) (a:OA) (c:Nat) (l:List α):aD:=cw e sz (.slice a l.length c) l.length (l.flatMap f)
section
variable {α:Type} {e:TypeId} {sz:Nat} {f:α->List Value} {w0 w:World} {B:aD} {a:OA} {c:Nat} {l:List α}
theorem bK(hf:∀ x,(f x).length=sz):iu (bW e sz f a c l) λ w=>cH sz f w a l:=λ _ _ h=>Lq hf h.1
theorem St.rd(hf:∀ x,(f x).length=sz)(h:St w0 w (star (bW e sz f a c l) B)):cH sz f w a l:=Lq hf h.rowOf
theorem St.mK(h:St w0 w (star (bW e sz f a c l) B)):l.length<=c/\(a=none->c=0):=yL h.rowOf
theorem St.uC(h:St w0 w (star (bW e sz f a c l) B))(hl:0<l.length):∃ g,a=some ⟨g,0,none⟩:=let ⟨g,hg,_⟩:=wT h.rowOf hl; ⟨g,hg⟩
theorem St.eZ(h:St w0 w B):St w0 w (star (bW e sz f none 0 []) B):=h.Fj e sz |>.swap
theorem Dj(hf:∀ x,(f x).length=sz):∀ (l:List α) (i:Nat) (x:α),i<l.length->(l.set i x).flatMap f=(l.flatMap f).take (i*sz)++f x++(l.flatMap f).drop (i*sz+sz)
  | [],_,_,h=>absurd h (by simp)
  | y :: l,0,x,_=>by
    have h0:(f y).length=sz:=hf y;simp[List.flatMap_cons,<- h0]
  | y :: l,i+1,x,h=>by
    have ih:=Dj hf l i x (by simpa using h);have h0:(f y).length=sz:=hf y;rw[List.set_cons_succ,List.flatMap_cons,ih,List.flatMap_cons];have e1:(i+1)*sz=(f y).length+i*sz:=by rw[h0,Nat.add_mul]; omega
    rw[e1,List.take_length_add_append,Nat.add_assoc,List.drop_length_add_append]
    simp
theorem St.Em(hf:∀ x,(f x).length=sz){x:α}(h1:∀ v∈f x,v.oneCell' = true){g:Nat}(h:St w0 w (star (bW e sz f (some ⟨g,0,none⟩) c l) B)){i:Nat}(hi:i<l.length){R:World->Prop}(k:∀ w',St w0 w' (star (bW e sz f (some ⟨g,0,none⟩) c (l.set i x)) B)->R w'):aQ (Addr.add ⟨g,0,none⟩ (i*sz)) 0 (f x) w R:=by
  obtain⟨F,⟨own,rfl⟩,use⟩:=h.use;rcases own.2 with⟨hv,_⟩ | ⟨g',cap,cur,hv,hb,hg,hnc,hcm,hcs,htake⟩
  · cases hv
  · cases hv
    have hx:=hf x;have hfl:=cL hf l;have hlen:(cur.toList.take (l.length*sz)).length=l.length*sz:=by rw[htake,hfl]
    have hcur:l.length*sz<=cur.size:=by rw[List.length_take] at hlen; simp at hlen; omega
    have h4:i*sz+sz<=l.length*sz:=by
      have:=Nat.mul_le_mul_right sz (show i+1<=l.length by omega);rw[Nat.add_mul] at this; omega
    rw[fQ];refine yY (f x) 0 w cur hg (by omega) h1 λ w' hb' hc' _=>k w' (use w' _ ⟨[g],⟨⟨?_,.inr ⟨g,c,_,?_,hb,hb',?_,hcm,?_,?_⟩⟩,rfl⟩,hc',λ j hj=>.inl hj⟩)
    · rw[cL hf,List.length_set]
    · rw[List.length_set]
    · rw[List.length_set]; exact hnc
    · simp only[List.size_toArray,List.length_append,List.length_take,List.length_drop,Array.length_toList]; omega
    · rw[List.length_set,Dj hf l i x hi,<- htake];simp only[Nat.add_zero,List.append_assoc];rw[List.take_append,List.take_append,List.take_take,List.take_take,Nat.min_eq_right (by omega),Nat.min_eq_left (by omega),hx,List.drop_take];have e1:(List.take (i*sz) cur.toList).length=i*sz:=by rw[List.length_take]; simp; omega
      rw[e1,List.take_of_length_le (by omega:(f x).length<=l.length*sz-i*sz)]
      congr 3
      omega
theorem St.iZ{v:α->Value}{x:α}(h1:(v x).oneCell' = true){g:Nat}(h:St w0 w (star (bW e 1 (λ x=>[v x]) (some ⟨g,0,none⟩) c l) B)){i:Nat}(hi:i<l.length){R:World->Prop}(k:∀ w',St w0 w' (star (bW e 1 (λ x=>[v x]) (some ⟨g,0,none⟩) c (l.set i x)) B)->R w'):aN w (Addr.add ⟨g,0,none⟩ (i*1)) (v x) R:=by
  have:=St.Em (f:=λ x=>[v x]) (λ _=>rfl) (x:=x) (by simpa using h1) h hi (R:=R) k;have e0:(Addr.add ⟨g,0,none⟩ (i*1)).add 0=Addr.add ⟨g,0,none⟩ (i*1):=by rw[Addr.add_add]; simp
  simpa only[aQ,e0] using this
end
section
variable {α:Type} {P:Program} {t ty e:TypeId} {z:Value} {sz by_:Nat} {f:α->List Value} {w0 w:World} {B:aD} {a:OA} {c:Nat} {l:List α}
theorem cH.cell(hf:∀ x,(f x).length=sz)(h:cH sz f w a l):∀ (j:Nat) (u:Value),(l.flatMap f)[j]? = some u->∃ q,a=some q/\w.cell? (q.add j)=some u:=by
  suffices H:∀ (l:List α) (j:Nat) (u:Value),(l.flatMap f)[j]? = some u->∃ i r x,j=i*sz+r/\l[i]? = some x/\(f x)[r]? = some u by
    intro j u hj;obtain⟨i,r,x,rfl,hi,hr⟩:=H l j u hj;obtain⟨q,hq,hc⟩:=h.at hi;refine⟨q,hq,?_⟩;have:=bC hc r u hr;rw[Nat.zero_add,Addr.add_add] at this;exact this
  intro l
  induction l with
  | nil=>intro j u h; simp at h
  | cons x l ih =>
    intro j u h;rw[List.flatMap_cons] at h
    by_cases hj:j<sz
    · rw[List.getElem?_append_left (by rw[hf]; exact hj)] at h;exact⟨0,j,x,by omega,rfl,h⟩
    · rw[List.getElem?_append_right (by rw[hf]; omega),hf] at h;obtain⟨i,r,y,e1,h1,h2⟩:=ih _ _ h;exact⟨i+1,r,y,by rw[Nat.add_mul]; omega,by simpa using h1,h2⟩
theorem eK(hT:gL P t e z sz by_)(hf:∀ x,(f x).length=sz)(h1:∀ x,∀ v∈f x,v.oneCell' = true)(h:St w0 w (star (bW e sz f a c l) B)){a2:OA}{c2:Nat}{l2:List α}(hr:cH sz f w a2 l2)(hb:(l.length+l2.length)*by_<=140737488355328)(hm:l.length+l2.length<=9223372036854775807){R:Option Addr->Nat->Nat->World->Prop}(k:∀ a' c' w',St w0 w' (star (bW e sz f a' c' (l++l2)) B)->R a' (l++l2).length c' w') :
    aZ P (Builtin.append_ #[t,t] ty #[.slice a l.length c,.slice a2 l2.length c2]) w λ e w1=>∃ a l c,e=.slice a l c/\R a l c w1:=by
  have one:∀ u∈l2.flatMap f,u.oneCell' = true:=λ u hu=>by
    obtain⟨x,_,hx⟩:=List.mem_flatMap.1 hu;exact h1 x u hx
  cases a2 with
  | some q =>
    refine Bi hT h (cL hf l2) (λ j u hj=>?_) one hb hm λ v' w' h''=>?_
    · obtain⟨q',hq,hc⟩:=hr.cell hf j u hj
      cases hq; exact hc
    · obtain⟨a',c',rfl⟩:=bA h''.rowOf;refine⟨a',_,c',rfl,?_⟩;have h3:St w0 w' (star (bW e sz f a' c' (l++l2)) B):=by
        show St w0 w' (star (cw e sz (.slice a' (l++l2).length c') (l++l2).length ((l++l2).flatMap f)) B);rw[List.length_append,List.flatMap_append]; exact h''
      have:=k a' c' w' h3
      rwa [List.length_append] at this
  | none =>
    have hn:l2=[]:=by
      cases l2 with
      | nil=>rfl
      | cons x l2=>obtain⟨q,_,hq,_⟩:=hr 0 x rfl; cases hq
    subst hn;rw[List.length_nil];refine⟨_,w,CS hT (yL h.rowOf).1,a,_,c,rfl,?_⟩;rw[List.append_nil] at k;exact k a c w h
theorem iC(hT:gL P t e z sz by_)(hf:∀ x,(f x).length=sz){x:α}(h1:∀ v∈f x,v.oneCell' = true)(h:St w0 w (star (bW e sz f a c l) B))(hb:(l.length+1)*by_<=140737488355328)(hm:l.length+1<=9223372036854775807){R:Option Addr->Nat->Nat->World->Prop}(k:∀ a' c' w',St w0 w' (star (bW e sz f a' c' (l++[x])) B)->R a' (l++[x]).length c' w'){cs:Array Value}(hcs:cs=(f x).toArray) :
    ak w (.cells cs e) λ r w1=>aZ P (Builtin.append_ #[t,t] ty #[.slice a l.length c,.slice (some ⟨r,0,none⟩) 1 1]) w1 λ e w2=>∃ a l c,e=.slice a l c/\R a l c w2:=by
  refine wD hT h (hf x) h1 hb hm (λ a' c' w' h'=>?_) hcs;have h3:St w0 w' (star (bW e sz f a' c' (l++[x])) B):=by
    show St w0 w' (star (cw e sz (.slice a' (l++[x]).length c') (l++[x]).length ((l++[x]).flatMap f)) B);rw[List.length_append,List.flatMap_append,List.flatMap_singleton]; exact h'
  have:=k a' c' w' h3
  rwa [List.length_append] at this
theorem yy{g:Nat}{cs:Array Value}(hf:∀ x,(f x).length=sz)(hg:w.heap[g]? = some (.cells cs e (0,0)))(hc:cs.toList=l.flatMap f)(hm:l.length<=maxLen) :
    w.ownsRow 0 e sz (.slice (some ⟨g,0,none⟩) l.length l.length) l.length (l.flatMap f):=by
  have hl:cs.size=l.length*sz:=by rw[<- Array.length_toList,hc,cL hf]
  refine⟨cL hf l,.inr ⟨g,l.length,cs,rfl,Nat.zero_le _,hg,Nat.le_refl _,hm,hl,?_⟩⟩;rw[hc];exact List.take_of_length_le (by rw[cL hf]; exact Nat.le_refl _)
theorem Ir{cs:Array Value}{x:α}(hx:cs.toList=f x)(h0:0<cs.size):∀ n,(madeCells cs (n*cs.size)).toList=(List.replicate n x).flatMap f:=by
  have get:∀ m j,j<m->(madeCells cs m)[j]? = cs[j%cs.size]?:=λ m j hj=>by
    have:j%cs.size<cs.size:=Nat.mod_lt _ h0;simp[madeCells,hj,this]
  intro n;apply List.ext_getElem?;intro j;rw[Array.getElem?_toList];have hsz:∀ y:α,y=x->(f y).length=cs.size:=λ y hy=>by rw[hy,<- hx]; simp
  by_cases hj:j<n*cs.size
  · rw[get _ _ hj];have hq:j / cs.size<n:=Nat.div_lt_of_lt_mul (by rw[Nat.mul_comm]; exact hj);have e1:((List.replicate n x).flatMap f)[j / cs.size*cs.size+j%cs.size]? = cs[j%cs.size]?:=by
      suffices H:∀ n q r,q<n->r<cs.size->((List.replicate n x).flatMap f)[q*cs.size+r]? = cs[r]? from H n _ _ hq (Nat.mod_lt _ h0)
      intro n
      induction n with
      | zero=>intro q r h; omega
      | succ n ih =>
        intro q r h hr;rw[List.replicate_succ,List.flatMap_cons]
        cases q with
        | zero =>
          rw[Nat.zero_mul,Nat.zero_add,List.getElem?_append_left (by rw[hsz x rfl]; exact hr),<- hx,Array.getElem?_toList]
        | succ q =>
          rw[List.getElem?_append_right (by rw[hsz x rfl,Nat.add_mul]; omega),hsz x rfl];rw[show(q+1)*cs.size+r-cs.size=q*cs.size+r by rw[Nat.add_mul]; omega];exact ih q r (by omega) hr
    rw[Nat.div_add_mod' j cs.size] at e1;rw[e1]
  · rw[Array.getElem?_eq_none (by rw[size_madeCells]; omega),List.getElem?_eq_none];have:∀ n,((List.replicate n x).flatMap f).length=n*cs.size:=λ n=>by
      induction n with
      | zero=>simp
      | succ n ih=>rw[List.replicate_succ,List.flatMap_cons,List.length_append,ih,hsz x rfl,Nat.add_mul]; omega
    rw[this]; omega
theorem cW(hT:gL P t e z sz by_)(hf:∀ x,(f x).length=sz){x:α}(hz:z.cells.toList=f x)(h:St w0 w B){n:Nat}(hn:by_*n<=281474976710656)(h63:n<=9223372036854775807){R:Option Addr->Nat->Nat->World->Prop}(k:∀ g w',az w w' []->St w0 w' (star (bW e sz f (some ⟨g,0,none⟩) n (List.replicate n x)) B)->R (some ⟨g,0,none⟩) n n w') :
    aZ P (Instr.makeSlice t (iv n) (iv n)) w λ e w1=>∃ a l c,e=.slice a l c/\R a l c w1:=by
  obtain⟨i,hi,hzz,hs,hby⟩:=hT.i;have hb' : (i.bytes:Int)*(n:Int)<=281474976710656:=by
    have h:((i.bytes*n:Nat):Int)<=281474976710656:=by rw[hby]; omega
    rwa [Int.natCast_mul] at h
  have hr:=run_make (P:=P) w t e i z hT.u hi hzz .i64 .i64 (n:Int) (n:Int) (by omega) (Int.le_refl _) hb' (by omega);rw[Int.toNat_natCast,hs,<- hT.zc] at hr;refine⟨_,_,hr,_,_,_,rfl,k _ _ (az.new _ _ _) ?_⟩;have own:(w.alloc (.cells (madeCells z.cells (n*z.cells.size)) e)).ownsRow 0 e sz (.slice (some ⟨w.heap.size,0,none⟩) (List.replicate n x).length (List.replicate n x).length) (List.replicate n x).length ((List.replicate n x).flatMap f) :=
    yy hf (by rw[ct,if_pos rfl]) (Ir hz (by rw[hT.zc]; exact hT.pos) n) (by rw[List.length_replicate]; unfold maxLen; exact h63)
  have s:=h.add (az.new w (.cells (madeCells z.cells (n*z.cells.size)) e) []) (B:=cw e sz _ _ _) (G:=[w.heap.size]) ⟨own,rfl⟩ (by simp);have s2:=s.swap;rw[List.length_replicate] at s2;unfold bW;rw[List.length_replicate];exact s2
theorem yM(w:World)(dT sT ty elem:TypeId)(g n dCap:Nat)(ad:Addr)(sCap:Nat)(cur:Array Value)(t:TypeId)(cs:List Value){sz:Nat}(hu:P.underlying dT=some (.slice elem))(hs:(P.info? elem).map (·.size)=some sz)(hg:w.heap[g]? = some (.cells cur t (0,0)))(hn:cs.length=n*sz)(hsrc:∀ j v,cs[j]? = some v->w.cell? (ad.add j)=some v)(hfit:cs.length<=cur.size)(h1:∀ v∈cs,v.oneCell' = true) :
    (Builtin.copy_ #[dT,sT] ty #[.slice (some ⟨g,0,none⟩) n dCap,.slice (some ad) n sCap]).run P w =
      .ok (goInt n) (w.setRow g (cs++cur.toList.drop cs.length).toArray):=by
  have hl:=run_loadCells_list (P:=P) w ad cs hsrc;have hst:=run_storeCells_at P g 0 t cs 0 cur w hg (by simpa using hfit) h1
  cases hq:P.info? elem with
  | none=>simp[hq] at hs
  | some i =>
    have hi:i.size=sz:=by simpa[hq] using hs
    rw[Nat.zero_add,List.take_zero,List.nil_append] at hst;simp[Builtin.copy_,run_underlying hu,Builtin.lenOf,Builtin.firstCells,sizeOf,typeInfo,hq,hi,<- hn,hl,hst]
theorem Gs(hT:gL P t e z sz by_)(hf:∀ x,(f x).length=sz)(h1:∀ x,∀ v∈f x,v.oneCell' = true){g n:Nat}(hn:l.length=n)(h:St w0 w (star (bW e sz f (some ⟨g,0,none⟩) c l) B)){a2:OA}{c2:Nat}{l2:List α}(hl:l2.length=n)(hr:cH sz f w a2 l2){K:KP}(k:∀ v w',St w0 w' (star (bW e sz f (some ⟨g,0,none⟩) c l2) B)->K v w') :
    aZ P (Builtin.copy_ #[t,t] ty #[.slice (some ⟨g,0,none⟩) n c,.slice a2 n c2]) w K:=by
  obtain⟨i,hi,hzz,hs,hby⟩:=hT.i;have hsz:(P.info? e).map (·.size)=some sz:=by simp[hi,hs]
  subst hn;have one:∀ u∈l2.flatMap f,u.oneCell' = true:=λ u hu=>by
    obtain⟨x,_,hx⟩:=List.mem_flatMap.1 hu;exact h1 x u hx
  have hfl:=cL hf l2;have hfl1:=cL hf l;obtain⟨F,⟨own,rfl⟩,use⟩:=h.use;rcases own.2 with⟨hv,_⟩ | ⟨g',cap,cur,hv,hb,hg,hnc,hcm,hcs,htake⟩
  · cases hv
  · cases hv
    have hcur:l.length*sz<=cur.size:=by
      have:=congrArg List.length htake;rw[List.length_take,hfl1] at this; simp at this; omega
    by_cases h0:l.length=0
    · obtain rfl:l=[]:=List.eq_nil_of_length_eq_zero h0;obtain rfl:l2=[]:=List.eq_nil_of_length_eq_zero hl
      cases a2 with
      | some ad =>
        have hr2:=yM (P:=P) w t t ty e g 0 c ad c2 cur e [] hT.u hsz hg (by simp) (by simp) (by simp) (by simp);refine⟨_,_,hr2,k _ _ ?_⟩;have:w.setRow g ([]++cur.toList.drop ([]:List Value).length).toArray=w.setRow g cur:=by simp
        rw[this];refine h.quiet ⟨by simp[World.setRow],λ j _ _=>?_,⟨rfl,rfl,rfl⟩⟩
        by_cases hj:j=g
        · subst hj; rw[setRow_heap w j cur _ e _ hg,hg]
        · exact setRow_other w g j _ hj
      | none =>
        refine⟨goInt 0,w,?_,k _ _ h⟩;simp[Builtin.copy_,run_underlying hT.u,Builtin.lenOf,Builtin.firstCells,sizeOf,typeInfo,hi,storeCells]
    · obtain⟨x,hx⟩:∃ x,l2[0]? = some x:=by
        cases l2 with
        | nil=>simp at hl; omega
        | cons x l2=>exact⟨x,rfl⟩
      obtain⟨ad,rfl,_⟩:=hr.at hx;have hr2:=yM (P:=P) w t t ty e g l.length c ad c2 cur e (l2.flatMap f) hT.u hsz hg (by rw[hfl,hl]) (λ j v hj=>by obtain⟨q,hq,hc⟩:=hr.cell hf j v hj; cases hq; exact hc) (by rw[hfl,hl]; exact hcur) one;refine⟨_,_,hr2,k _ _ (use _ _ ⟨[g],⟨⟨hfl,.inr ⟨g,c,_,by rw[hl],hb,setRow_heap w g cur _ e _ hg,by rw[hl]; exact hnc,hcm,?_,?_⟩⟩,rfl⟩,⟨by simp[World.setRow],λ j _ hj=>setRow_other w g j _ (by simp[Value.ownBlock] at hj; exact hj),⟨rfl,rfl,rfl⟩⟩,λ j hj=>.inl (by simpa[Value.ownBlock] using hj)⟩)⟩
      · rw[<- hcs];simp only[List.size_toArray,List.length_append,List.length_drop,Array.length_toList,hfl,hl];omega
      · rw[List.take_append_of_le_length (by rw[hfl,hl]; exact Nat.le_refl _)];exact List.take_of_length_le (by rw[hfl,hl]; exact Nat.le_refl _)
theorem HP(hT:gL P t e z sz by_)(hf:∀ x,(f x).length=sz){x:α}(h1:∀ v∈f x,v.oneCell' = true)(s:St w0 w B)(h:cH sz f w a l){r:Nat}(hx:∀ j u,(f x)[j]? = some u->w.cell? ⟨r,j,none⟩=some u)(hb:(l.length+1)*by_<=140737488355328)(hm:l.length+1<=9223372036854775807){R:Option Addr->Nat->Nat->World->Prop}(k:∀ a' c' w',St w0 w' (star (bW e sz f a' c' (l++[x])) B)->R a' (l++[x]).length c' w') :
    aZ P (Builtin.append_ #[t,t] ty #[.slice a l.length l.length,.slice (some ⟨r,0,none⟩) 1 1]) w λ e w2=>∃ a l c,e=.slice a l c/\R a l c w2:=by
  cases a with
  | none =>
    have hn:l=[]:=by
      cases l with
      | nil=>rfl
      | cons x l=>obtain⟨q,_,hq,_⟩:=h 0 x rfl; cases hq
    subst hn;refine Bi hT (s.eZ (e:=e) (sz:=sz) (f:=f)) (m:=1) (news:=f x) (by rw[hf]; omega) (λ j u hj=>by rw[fQ]; exact hx j u hj) h1 (by simpa using hb) (by simp) λ v' w' h'=>?_;obtain⟨a',c',rfl⟩:=bA h'.rowOf;have h2:St w0 w' (star (bW e sz f a' c' ([]++[x])) B):=by
      show St w0 w' (star (cw e sz (.slice a' 1 c') 1 ([x].flatMap f)) B);rw[List.flatMap_singleton]; simpa using h'
    exact⟨a',_,c',rfl,k a' c' w' h2⟩
  | some q =>
    obtain⟨i,hi,hz,hs,hby⟩:=hT.i;have hfl:=cL hf l;have hr:=run_append_grow (P:=P) w t ty e i z hT.u hi hz q l.length l.length (l.flatMap f) (by rw[hfl,hs]) (λ j u hj=>by obtain⟨q',hq,hc⟩:=h.cell hf j u hj; cases hq; exact hc)
      ⟨r,0,none⟩ 1 1 (f x) (by rw[hf,hs]; omega) (λ j u hj=>by rw[fQ]; exact hx j u hj) (by omega) (by omega) (growslice_fits (by omega) (by rw[hby]; exact hb))
    have hge:=grownCap_ge w (l.length+1) l.length e;have hcm:grownCap w (l.length+1) l.length e<=maxLen:=grownCap_le_maxLen w (l.length+1) l.length e (by unfold maxLen; omega);generalize grownCap w (l.length+1) l.length e=cap at hr hge hcm;refine⟨_,_,hr,_,_,_,rfl,?_⟩;have c0:az w w.drew []:=az.drew w [];have c1:az w (w.drew.alloc (.cells ((l.flatMap f).toArray++(f x).toArray++Builtin.zeroCells z.cells (cap-(l.length+1))) e)) []:=c0.trans (az.new _ _ []) (by simp);have own:(w.drew.alloc (.cells ((l.flatMap f).toArray++(f x).toArray++Builtin.zeroCells z.cells (cap-(l.length+1))) e)).ownsRow 0 e sz (.slice (some ⟨w.heap.size,0,none⟩) (l++[x]).length cap) (l++[x]).length ((l++[x]).flatMap f):=by
      have hx1:=hf x;refine⟨cL hf _,.inr ⟨w.heap.size,cap,_,by simp,Nat.zero_le _,by rw[ct,if_pos (show w.heap.size=w.drew.heap.size from rfl)],by simpa using hge,hcm,?_,?_⟩⟩
      · have hzs:z.cells.size=sz:=hT.zc;simp only[Array.size_append,List.size_toArray,size_zeroCells,hzs,hfl,hx1];rw[show l.length*sz+sz=(l.length+1)*sz by rw[Nat.add_mul]; omega,<- Nat.add_mul]
        congr 1; omega
      · rw[List.length_append,List.length_singleton,List.flatMap_append,List.flatMap_singleton];simp only[Array.toList_append,List.append_assoc];rw[<- List.append_assoc];have:(l.length+1)*sz=(l.flatMap f++f x).length:=by rw[List.length_append,hfl,hx1,Nat.add_mul]; omega
        rw[this,List.take_left]
    have s2:=s.add c1 (B:=cw e sz _ _ _) (G:=[w.heap.size]) ⟨own,rfl⟩ (by simp);have:=k _ _ _ s2.swap
    rwa [List.length_append] at this
theorem nM(hT:gL P t e z sz by_)(hf:∀ x,(f x).length=sz)(h1:∀ x,∀ v∈f x,v.oneCell' = true)(s:St w0 w B)(h:cH sz f w a l)(hb:l.length*by_<=140737488355328)(hm:l.length<=9223372036854775807){K:KP}(k:∀ a' c' w',St w0 w' (star (bW e sz f a' c' l) B)->K (.slice a' l.length c') w') :
    cond (a).isNone (K (.slice none 0 0) w) (ak w (.cells #[] e) λ r1 w1=>aZ P (Builtin.append_ #[t,t] ty #[.slice (some ⟨r1,0,none⟩) 0 0,.slice a l.length c]) w1 λ e1 w2=>∃ (a2:OA) (l2 c2:Nat),e1=(.slice a2 l2 c2)/\K (.slice a2 l2 c2) w2):=by
  cases a with
  | none =>
    have hn:l=[]:=by
      cases l with
      | nil=>rfl
      | cons x l=>obtain⟨q,_,hq,_⟩:=h 0 x rfl; cases hq
    subst hn;exact cT rfl (k none 0 w s.eZ)
  | some q =>
    refine cF rfl (aG ?_);have s1:=s.box #[] e;have c1:=az.new w (.cells #[] e) [];generalize w.alloc _=w1 at s1 c1 ⊢;generalize w.heap.size=r1 at s1 ⊢;have s2:St w0 w1 (star (bW e sz f (some ⟨r1,0,none⟩) 0 []) B):=s1.swap.weak (bH.left (by
      rintro w F ⟨h,rfl⟩;exact⟨[r1],⟨yy (f:=f) hf h rfl (by simp),by simp[Value.ownBlock]⟩,by simp⟩))
    exact eK (a2:=some q) (c2:=c) (l2:=l) hT hf h1 s2 (h.av c1) (by simp; omega) (by simp; omega) (R:=λ a' n c' w'=>K (.slice a' n c') w') (λ a' c' w' h'=>by rw[List.nil_append] at h' ⊢; exact k a' c' w' h')
theorem tV(hT:gL P t e z sz by_)(hf:∀ x,(f x).length=sz)(h1:∀ x,∀ v∈f x,v.oneCell' = true){x0:α}(hz:z.cells.toList=f x0)(s:St w0 w B)(h:cH sz f w a l)(hb:by_*l.length<=140737488355328)(hm:l.length<=9223372036854775807){K:KP}(k:∀ g w',St w0 w' (star (bW e sz f (some ⟨g,0,none⟩) l.length l) B)->K (.slice (some ⟨g,0,none⟩) l.length l.length) w') :
    aZ P (Instr.makeSlice t (iv l.length) (iv l.length)) w λ e1 w1=>∃ (a2:OA) (l2 c2:Nat),e1=(.slice a2 l2 c2) /\
      aZ P (Builtin.copy_ #[t,t] ty #[.slice a2 l2 c2,.slice a l.length c]) w1 λ _ w2=>K (.slice a2 l2 c2) w2:=by
  exact cW hT hf hz s (n:=l.length) (by omega) hm λ g w' hc s'=>Gs hT hf h1 (by simp) s' rfl (h.av hc) λ _ w2 s2=>k g w2 s2
end
theorem St.and{w0 w w' : World}{A B:aD}(h:St w0 w A)(k:St w w' B):St w0 w' (star B A) :=
  let ⟨_,hB,hc,hG⟩:=k
  (h.add hc hB hG).swap
theorem cB{b:Bool}{A B:Prop}(h:A)(k:B):cond b A B:=by cases b; exact k; exact h
theorem St.open{w0 w:World}{B:aD}{l:List aD}(h:St w0 w (star (Sep l) B)):St w0 w (Sep (l++[B])):=St.cat (h.eqv (aS.right (aS.unit B)))
theorem St.shut{w0 w:World}{B:aD}{l:List aD}(h:St w0 w (Sep (l++[B]))):St w0 w (star (Sep l) B):=(h.split l).eqv (aS.right (aS.unit' B))
theorem iu.nil:iu (Sep []) λ _=>True:=λ _ _ _=>trivial
theorem iu.cons{A:aD}{l:List aD}{Q R:World->Prop}(h:iu A Q)(k:iu (Sep l) R):iu (Sep (A :: l)) λ w=>Q w/\R w:=h.star k
theorem St.aP{w0 w:World}{l:List aD}{r:Nat}{cs:Array Value}{T:TypeId}(h:St w0 w (Sep l))(i j:Nat)(e:l[i]? = some (ai r cs T)){vs:List Value}(hv:(cs.toList.drop j).take vs.length=vs):af w ⟨r,j,none⟩ 0 vs :=
  bE _ 0 λ k v hk=>by
    have hl:k<vs.length:=(List.getElem?_eq_some_iff.1 hk).1;have ha:(⟨r,j,none⟩:Addr).add (0+k)=⟨r,j+k,none⟩:=by unfold Addr.add; split<;>simp_all
    have h2:((cs.toList.drop j).take vs.length)[k]? = vs[k]?:=by rw[hv]
    rw[List.getElem?_take,if_pos hl,List.getElem?_drop,hk] at h2;rw[ha,h.ag i e]; simpa using h2
theorem St.oF{w0 w:World}{l:List aD}{x:Nat}{cs:Array Value}{T:TypeId}{R:World->Prop}(h:St w0 w (Sep l))(i j:Nat)(e:l[i]? = some (ai x cs T)){vs:List Value}(cs' : Array Value)(hn:j+vs.length<=cs.size)(h1:∀ v∈vs,v.oneCell' = true)(hc:(cs.toList.take j++vs++cs.toList.drop (j+vs.length)).toArray=cs')(k:∀ w',St w0 w' (Sep (l.set i (ai x cs' T)))->R w'):aQ ⟨x,j,none⟩ 0 vs w R:=by
  obtain⟨F,⟨ho,rfl⟩,use⟩:=(h.out i e).use;refine yY vs 0 w cs ho (by omega) h1 λ w' hb hc' _=>k w' ((use w' (ai x cs' T) ⟨[x],⟨?_,rfl⟩,hc',λ j hj=>.inl hj⟩).back (dO e));rw[hb,<- hc]; simp
theorem St.su{w0 w:World}{l:List aD}{Q:World->Prop}(h:St w0 w (Sep l))(hq:∀ w',Q w'):St w0 w (Sep (Vc.held Q :: l)) :=
  (h.add (az.refl w []) (B:=Vc.held Q) (G:=[]) ⟨λ _ _ _ _=>hq _,by simp⟩ (by simp)).swap
theorem St.Dn{w0 w:World}{A:aD}{l:List aD}{Q:World->Prop}(h:St w0 w (Sep (A :: l)))(k:iu A Q):St w0 w (Sep (Vc.held Q :: l)):=h.weak (bH.left k.weak)
theorem St.qj{w0 w:World}{A B:aD}{l:List aD}{Q R S:World->Prop}(h:St w0 w (Sep (A :: B :: l)))(hA:iu A Q)(hB:iu B R)(k:∀ w,Q w->R w->S w):St w0 w (Sep (Vc.held S :: l)) :=
  h.join.Dn ((hA.star hB).mono λ w ⟨h1,h2⟩=>k w h1 h2)
theorem CZ{w:World}{a:Addr}{vs us:List Value}(h:af w a 0 vs)(hv:vs.take us.length=us):af w a 0 us :=
  bE _ 0 λ k v hk=>bC h k v (by
    have h2:(vs.take us.length)[k]? = us[k]?:=by rw[hv]
    rwa [List.getElem?_take,if_pos (List.getElem?_eq_some_iff.1 hk).1,hk] at h2)
theorem St.AS{w0 w:World}{A B:aD}{m:List aD}(h:St w0 w (Sep (A :: B :: m))):St w0 w (Sep [A,B,Sep m]):=h.eqv (aS.right (aS.right (aS.unit _)))
theorem St.bN{w0 w:World}{m:List aD}(l:List aD)(h:St w0 w (Sep (l++[Sep m]))):St w0 w (Sep (l++m)):=St.cat ((h.split l).eqv (aS.right (aS.unit' _)))
def qQ{α:Type}(a b:List α)(k:Nat):List α:=a.take k++b.drop k
section
variable {α:Type} {a b:List α}
theorem DL(h:a.length=b.length){k:Nat}(hk:k<=a.length):(qQ a b k).length=b.length:=by
  rw[qQ,List.length_append,List.length_take,List.length_drop]; omega
theorem sG(h:a.length=b.length){k:Nat}(hk:k<=a.length)(i:Nat):(qQ a b k)[i]? = if i<k then a[i]? else b[i]?:=by
  have e:(a.take k).length=k:=by rw[List.length_take]; omega
  split
  · rename_i hi;rw[qQ,List.getElem?_append_left (by omega),List.getElem?_take,if_pos hi]
  · rename_i hi;rw[qQ,List.getElem?_append_right (by omega),e,List.getElem?_drop,show k+(i-k)=i by omega]
theorem KO(h:a.length=b.length){k:Nat}{v:α}(hv:a[k]? = some v):(qQ a b k).set k v=qQ a b (k+1):=by
  have hk:k<a.length:=(List.getElem?_eq_some_iff.1 hv).1;refine List.ext_getElem? λ i=>?_;rw[sG h (by omega),List.getElem?_set,sG h (by omega),DL h (by omega)]
  by_cases e:k=i
  · subst e; rw[if_pos rfl,if_pos (by omega),if_pos (by omega),hv]
  · rw[if_neg e]
    by_cases e2:i<k
    · rw[if_pos e2,if_pos (by omega)]
    · rw[if_neg e2,if_neg (by omega)]
theorem Iw(h:a.length=b.length){k:Nat}(hk:k<a.length)(hv:a[k]? = b[k]?):qQ a b k=qQ a b (k+1):=by
  refine List.ext_getElem? λ i=>?_;rw[sG h (by omega),sG h (by omega)]
  by_cases e:k=i
  · subst e; rw[if_neg (by omega),if_pos (by omega),hv]
  · by_cases e2:i<k
    · rw[if_pos e2,if_pos (by omega)]
    · rw[if_neg e2,if_neg (by omega)]
theorem Ix:qQ a b 0=b:=by simp[qQ]
theorem Iv(h:a.length=b.length):qQ a b b.length=a:=by
  rw[qQ,<- h,List.take_length,h,List.drop_length,List.append_nil]
end
theorem RO{a:OA}{n k:Nat}:(if n=0 then a else Option.map (λ x=>Addr.add x (0*k)) a)=a:=by
  cases a with
  | none=>simp
  | some q=>simp[Addr.add]
end Go.Vc
