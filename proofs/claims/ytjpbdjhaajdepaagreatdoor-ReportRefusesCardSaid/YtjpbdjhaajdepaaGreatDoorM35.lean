import Derived.Lib.UnsafeStr
import Derived.Lib.ConvBytes
import Derived.Lib.Bytealg
import Derived.Lib.MakeNoZero
import Derived.Lib.Builder
import Derived.Laws.Externs
import Derived.Test.YtjpbdjhaajdepaaGreatDoorM34
set_option linter.unusedVariables false
set_option maxRecDepth 100000
noncomputable section
namespace Go.Gx
open Go Go.Vc
def oe:List UInt8->List AV
  | []=>[]
  | b :: l=>.int .u8 (.ofNat b.toNat) :: oe l
theorem pZ(ρ:Names):∀ l:List UInt8,dH ρ (oe l)=some (Lib.byteCells l)
  | []=>rfl
  | _ :: l=>eL rfl (pZ ρ l)
theorem sE{P:Program}{w:World}{t u ty e:TypeId}{z:Value}(hT:fZ P t e z 1 1)(hz:z=.int .u8 0)(hu:P.underlying u=some .string){v:Value}{n:Nat}{xs:List Value}(own:w.ownsRow 0 e 1 v n xs){s:ByteArray}(hb:n+s.size<=140737488355328){K:KP}(k:∀ v' w',w'.ownsRow 0 e 1 v' (n+s.size) (xs++Lib.strCells s)->aF w w' v.ownBlock.toList->R9 w v v'->K v' w') :
    bg P (Builtin.append_ #[t,u] ty #[v,.string s]) w K:=by
  obtain⟨i,hi,hz',hs,hby⟩:=hT.i;subst hz;have hml:n+s.size<=maxLen:=by unfold maxLen; omega
  obtain⟨v',w',hr,ho,hg,_⟩:=Lib.run_append_own_string (P:=P) w 0 t u ty e i hT.u hu hi hz' hs hby v n xs own s hml hb (Nat.zero_le _);refine⟨v',w',hr,k v' w' ho (aF.grown hg) ?_⟩;rcases own.2 with⟨rfl,rfl⟩ | ⟨g,cap,cur,rfl,_,hgg,hnc,hcm,hcs,htake⟩
  · have own' : w.ownsRow w.heap.size e 1 (.slice none 0 0) 0 xs:=⟨own.1,.inl ⟨rfl,rfl⟩⟩;obtain⟨v2,w2,hr2,ho2,_⟩:=Lib.run_append_own_string (P:=P) w w.heap.size t u ty e i hT.u hu hi hz' hs hby _ 0 xs own' s hml hb (Nat.le_refl _);rw[hr] at hr2
    cases hr2
    exact λ j hj=>.inr (ho2.lt j hj).1
  · by_cases hroom:n+s.size<=cap
    · have hr2:=Lib.run_append_room_string (P:=P) w t u ty e i hT.u hu hi hs g n cap cur hgg s hroom (by omega);rw[hr] at hr2
      cases hr2
      exact λ j hj=>.inl hj
    · have holds:∀ j u,xs[j]? = some u->w.cell? ((⟨g,0,none⟩:Addr).add j)=some u:=own.cells (g:=g) rfl;have hr2:=Lib.run_append_grow_string (P:=P) w t u ty e i (.int .u8 0) hT.u hu hi hz' ⟨g,0,none⟩ n cap xs (by rw[hs]; exact own.1) holds s (by omega) (by omega) (by rw[hby]; exact growslice_fits (by omega) (by omega));rw[hr] at hr2
      cases hr2
      intro j hj;simp[Value.ownBlock] at hj;exact .inr (by omega)
def GQ(P:Program)(e:TypeId):Bool:=match P.info? e with
  | some i=>match i.zero with
    | some (.int .u8 (.ofNat 0))=>true
    | _=>false
  | none=>false
theorem Ks{P:Program}{e:TypeId}(h:GQ P e=true):∃ i,P.info? e=some i/\i.zero=some (.int .u8 0):=by
  unfold GQ at h
  split at h
  · rename_i i hi
    split at h
    · rename_i hz;exact⟨i,hi,hz⟩
    · cases h
  · cases h
def Nc(P:Program)(tys:List TypeId)(s:AV)(x:List UInt8)(h:AH)(n:Nat):Option (AV×AH):=match tys with
  | [t,u]=>match P.underlying u,yg P t,h.get n with
    | some .string,some (e,sz,by_,_),none=>cond (Nat.beq sz 1&&Nat.beq by_ 1&&GQ P e) (match s,x with
      | .nils,[]=>some (.nils,h)
      | .nils,b :: l=>cond (Nat.ble (b :: l).length 140737488355328) (some (.sli n 0 (b :: l).length 1,h.put n (some ⟨e,oe (b :: l),false⟩))) none
      | .sli i o l z,[]=>some (.sli i o l z,h)
      | .sli i 0 l z,b :: x=>match cE h i 0 (Nat.mul l z),h.get i with
        | some olds,some (some ao)=>cond (Nat.beq z 1&&not ao.ro&&Nat.beq ao.T e&&Nat.ble (Nat.add l (b :: x).length) 140737488355328) (some (.sli n 0 (Nat.add l (b :: x).length) 1,(h.put i none).put n (some ⟨e,olds++oe (b :: x),false⟩))) none
        | _,_=>none
      | _,_=>none) none
    | _,_,_=>none
  | _=>none
theorem pJ(x:List UInt8):Lib.strCells ⟨x.toArray⟩=Lib.byteCells x:=by simp[Lib.strCells,Lib.byteCells]
theorem sD{P:Program}{w:World}{t u ty e:TypeId}{z:Value}{sz by_:Nat}(hT:fZ P t e z sz by_)(hu:P.underlying u=some .string){base:OA}{n c:Nat}(hn:n<=c):(Builtin.append_ #[t,u] ty #[.slice base n c,.string ⟨#[]⟩]).run P w=.ok (.slice base n c) w:=by
  obtain⟨i,hi,hz,hs,hby⟩:=hT.i;have hsz:cZ P e=some sz:=by simp[cZ,hi,hs]
  have h0:(⟨#[]⟩:ByteArray).size=0:=rfl;have hf:=Lib.run_firstCells_string (P:=P) w sz ⟨#[]⟩;rw[h0] at hf;have hc:(Lib.strCells ⟨#[]⟩).toArray = #[]:=rfl;rw[hc] at hf
  cases base with
  | none=>simp[Builtin.append_,aE hT.u,aE hu,bO hsz,Builtin.lenOf,hn,h0,hf]
  | some a=>simp[Builtin.append_,aE hT.u,aE hu,bO hsz,Builtin.lenOf,hn,h0,hf,storeCells]
theorem Nd{P:Program}{tys:Array TypeId}{dst:TypeId}{s r:AV}{x:List UInt8}{h h' : AH}{n:Nat}(hg:Nc P tys.toList s x h n=some (r,h')){w0 w:World}{ρ:Names}(hr:fk w0 w ρ h){vs:Value}(hs:rv ρ s=some vs) :
    xD P w0 w ρ (Builtin.append_ tys dst #[vs,.string ⟨x.toArray⟩]) r h':=by
  unfold Nc at hg
  split at hg
  · rename_i t u htys;have htys' : tys = #[t,u]:=by rw[<- htys]
    subst htys'
    split at hg
    · rename_i e sz by_ zs hu he hn
      cases hb:(Nat.beq sz 1&&Nat.beq by_ 1&&GQ P e) with
      | false=>rw[hb] at hg; cases hg
      | true =>
        rw[hb] at hg;simp only[cond_true] at hg;simp only[Bool.and_eq_true] at hb;obtain⟨⟨q1,q2⟩,q3⟩:=hb;obtain rfl:=beq_iff.1 q1;obtain rfl:=beq_iff.1 q2;obtain⟨z0,hT,hzs⟩:=(oB he).slT;have hz0:z0=.int .u8 0:=by
          obtain⟨i,hi,hz,_⟩:=hT.i;obtain⟨i',hi',hz'⟩:=Ks q3;obtain rfl:i=i':=Option.some.inj (hi.symm.trans hi');exact Option.some.inj (hz.symm.trans hz')
        split at hg
        · cases hg; cases hs
          exact⟨_,w,ρ,sD hT hu (Nat.le_refl _),Ext.refl _,hr,rfl⟩
        · rename_i b l
          cases hb2:Nat.ble (b :: l).length 140737488355328 with
          | false=>rw[hb2] at hg; cases hg
          | true =>
            rw[hb2] at hg
            cases hg; cases hs
            have g1:=Nat.le_of_ble_eq_true hb2;have own:w.ownsRow 0 e 1 (.slice none 0 0) 0 []:=⟨by simp,.inl ⟨rfl,rfl⟩⟩;have hsz:(⟨(b :: l).toArray⟩:ByteArray).size=(b :: l).length:=by simp[ByteArray.size]
            obtain⟨v',w',hrun,hown,hchg,hnxt⟩:=sE (P:=P) (ty:=dst) hT hz0 hu own (s:=⟨(b :: l).toArray⟩) (by rw[hsz]; omega) (K:=λ v' w'=>w'.ownsRow 0 e 1 v' (0+(⟨(b :: l).toArray⟩:ByteArray).size) ([]++Lib.strCells ⟨(b :: l).toArray⟩)/\aF w w' []/\R9 w (.slice none 0 0) v') (λ v' w' h1 h2 h3=>⟨h1,h2,h3⟩);rw[hsz,pJ] at hown;rcases hown.2 with⟨_,h0⟩ | ⟨g,cap,cur,rfl,_,hgg,hnc,hcm,hcs,htake⟩
            · simp at h0
            · have hge:w.heap.size<=g:=(hnxt g rfl).resolve_left (λ h=>by cases h);simp only[Nat.zero_add,List.nil_append] at hnc htake hrun;have hext:=Ext.dK (L:=⟨g,1,cap⟩) (bR hr hn);have:=hr.new hn (L:=⟨g,1,cap⟩) (T:=e) (cells:=oe (b :: l)) (cur:=cur) (vs:=Lib.byteCells (b :: l)) (ro:=false) hchg hgg (λ _=>rfl) hge (pZ _ _) (by rw[Lib.byteCells_length]; simpa using htake) hcs.symm hcm;exact⟨_,w',_,hrun,hext,this,by simp[rv,dK]; simpa using hnc⟩
        · cases hg
          obtain⟨L,hL,hle,hz,rfl⟩:=cY hs;exact⟨_,w,ρ,sD hT hu (by omega),Ext.refl _,hr,hs⟩
        · rename_i i l z' b x
          split at hg
          · rename_i olds ao holds hi
            cases hb2:(Nat.beq z' 1&&not ao.ro&&Nat.beq ao.T e&&Nat.ble (Nat.add l (b :: x).length) 140737488355328) with
            | false=>rw[hb2] at hg; cases hg
            | true =>
              rw[hb2] at hg
              cases hg
              simp only[Bool.and_eq_true] at hb2;obtain⟨⟨⟨k1,hro⟩,k2⟩,k3⟩:=hb2;have hro:ao.ro=false:=by cases hq:ao.ro with
                | false=>rfl
                | true=>rw[hq] at hro; cases hro
              obtain rfl:=beq_iff.1 k1;have k2:=beq_iff.1 k2;have g1:l+(b :: x).length<=140737488355328:=Nat.le_of_ble_eq_true k3;obtain⟨L,hL,hle,hez,rfl⟩:=cY hs;obtain⟨L1,cur0,vs0,hl⟩:=hr.live i ao hi;obtain rfl:L=L1:=Option.some.inj (hL.symm.trans hl.at_);obtain⟨fz,hblk,hfz⟩:=hl.blk;obtain rfl:=hfz hro;have hold:olds=(ao.cells.drop 0).take (l*1)/\0+l*1<=ao.cells.length:=by
                unfold cE at holds;simp only[hi] at holds
                cases hb3:Nat.ble (Nat.add 0 (Nat.mul l 1)) ao.cells.length with
                | false=>rw[hb3] at holds; cases holds
                | true=>rw[hb3] at holds; cases holds; exact⟨rfl,Nat.le_of_ble_eq_true hb3⟩
              have hvl:=bt hl.val;have hvo:dH ρ olds=some (vs0.take (l*1)):=by rw[hold.1]; simpa using o9 (l*1) hl.val
              have own:w.ownsRow 0 e 1 (.slice (some ⟨L.b,0,none⟩) l L.tot) l (vs0.take (l*1)):=by
                refine⟨by simp; omega,.inr ⟨L.b,L.tot,cur0,rfl,Nat.zero_le _,by rw[<- k2]; exact hblk,by omega,hl.most,by rw[<- hl.room,hez],?_⟩⟩;rw[<- hl.here,List.take_take]
                congr 1
                omega
              have hsz:(⟨(b :: x).toArray⟩:ByteArray).size=(b :: x).length:=by simp[ByteArray.size]
              obtain⟨v',w',hrun,hown,hchg,hnxt⟩:=sE (P:=P) (ty:=dst) hT hz0 hu own (s:=⟨(b :: x).toArray⟩) (by rw[hsz]; exact g1) (K:=λ v' w'=>w'.ownsRow 0 e 1 v' (l+(⟨(b :: x).toArray⟩:ByteArray).size) (vs0.take (l*1)++Lib.strCells ⟨(b :: x).toArray⟩)/\aF w w' [L.b]/\R9 w (.slice (some ⟨L.b,0,none⟩) l L.tot) v') (λ v' w' h1 h2 h3=>⟨h1,h2,h3⟩);rw[hsz,pJ] at hown;rcases hown.2 with⟨_,h0⟩ | ⟨g,cap,cur,rfl,_,hgg,hnc,hcm,hcs,htake⟩
              · simp at h0
              · have hge:g=L.b\/w.heap.size<=g:=(hnxt g rfl).imp (λ h=>by simp[Value.ownBlock] at h; exact h.symm) id;have hst:=hr.LC i;have hdead:∀ (j:Nat) (ao' : AO) (L' : Loc),(h.put i none).get j=some (some ao')->ρ j=some L'->L'.b≠L.b:=λ j ao' L' hj hL'=>by
                  rw[bN] at hj
                  split at hj
                  · cases hj
                  · rename_i hji;exact hr.inj j i ao' ao L' L hji hj hi hL' hL
                have hq:=hst.Co hchg (λ f hf=>by
                  simp at hf; subst hf;exact⟨hl.new,hdead⟩)
                have hni:n≠i:=λ e=>by rw[e,hi] at hn; cases hn
                have hn' : (h.put i none).get n=none:=by rw[bN,if_neg hni]; exact hn
                have hext:=Ext.dK (L:=⟨g,1,cap⟩) (bR hr hn);have hnm:=hq.name hn' (ro:=false) (L:=⟨g,1,cap⟩) (T:=e) (cells:=olds++oe (b :: x)) (cur:=cur) (vs:=vs0.take (l*1)++Lib.byteCells (b :: x))
                  (by rcases hge with rfl | hge
                      · exact hl.new
                      · exact Nat.le_trans hr.aC.size hge) hgg (λ _=>rfl)
                  (λ j ao' L' hj hL'=>by
                    rcases hge with rfl | hge
                    · exact hdead j ao' L' hj hL'
                    · have:=hst.below hj hL';show L'.b≠g;omega)
                  (jZ (cq hext hvo) (pZ _ _)) (by
                    have:(vs0.take (l*1)++Lib.byteCells (b :: x)).length=(l+(b :: x).length)*1:=by rw[hown.1]
                    rw[this]; exact htake) hcs.symm hcm
                refine⟨_,w',_,by simpa using hrun,hext,hnm,?_⟩;simp only[rv,dK,if_true,Option.bind_some];rw[if_pos]
                · simp
                · refine⟨?_,trivial⟩;show 0+(l+(b :: x).length)<=cap;omega
          · cases hg
        · cases hg
    · cases hg
  · cases hg
def QE(P:Program)(t:TypeId)(d s:AV)(h:AH):Option (AV×AH):=match d,s with
  | .nils,.nils=>some (.int .i64 (.ofNat 0),h)
  | .nils,.sli _ _ _ _=>some (.int .i64 (.ofNat 0),h)
  | .sli _ _ _ _,.nils=>some (.int .i64 (.ofNat 0),h)
  | .sli i o l z,.sli j p m y=>match yg P t,h.get i,cE h j (Nat.mul p y) (Nat.mul (cond (Nat.ble m l) m l) y) with
    | some (_,sz,_,_),some (some ao),some news=>cond (Nat.beq z sz&&Nat.beq y sz&&not ao.ro&&Ca news&&Nat.ble (Nat.add (Nat.mul o z) news.length) ao.cells.length)
        (some (.int .i64 (.ofNat (cond (Nat.ble m l) m l)),h.put i (some ⟨ao.T,setAt ao.cells (Nat.mul o z) news,ao.ro⟩))) none
    | _,_,_=>none
  | _,_=>none
theorem aU{w:World}{a:Addr}:∀ (l:List Value) (k:Nat),af w a k l->∀ j u,l[j]? = some u->w.cell? (a.add (k+j))=some u
  | [],_,_,j,u,hj=>by simp at hj
  | x :: l,k,hc,j,u,hj=>by
    cases j with
    | zero=>simp at hj; subst hj; exact hc.1
    | succ j =>
      have:=aU l (k+1) hc.2 j u (by simpa using hj);rw[show k+(j+1)=k+1+j by omega];exact this
theorem Nk{P:Program}{tys:Array TypeId}{t dst:TypeId}{d s r:AV}{h h' : AH}(hg:QE P t d s h=some (r,h'))(ht:tys[0]? = some t)(hsl:∃ e,P.underlying t=some (.slice e)/\∃ n,cZ P e=some n){w0 w:World}{ρ:Names}(hr:fk w0 w ρ h){vd vs:Value}(hd:rv ρ d=some vd)(hs:rv ρ s=some vs):xD P w0 w ρ (Builtin.copy_ tys dst #[vd,vs]) r h':=by
  obtain⟨e,hu,en,hen⟩:=hsl;have zero:∀ {vd vs:Value},(∃ b n c,vd=.slice b n c)->(∃ b n c,vs=.slice b n c)->(vd=.slice none 0 0\/vs=.slice none 0 0)->(Builtin.copy_ tys dst #[vd,vs]).run P w=.ok (.int .i64 0) w:=by
    rintro vd vs ⟨b,n,c,rfl⟩ ⟨b',n',c',rfl⟩ hz;have hmin:Nat.min n' n=0:=by rcases hz with hz | hz<;>cases hz<;>simp
    have hl0:∀ a:Addr,(loadCells a 0).run P w=.ok #[] w:=λ a=>by simp[loadCells,loadCellsFrom]
    cases b<;>cases b' <;> simp[Builtin.copy_,ht,aE hu,Builtin.lenOf,bO hen,hmin,Builtin.firstCells,hl0,storeCells,goInt]
  unfold QE at hg
  split at hg
  · cases hg; cases hd; cases hs
    exact⟨_,w,ρ,zero ⟨_,_,_,rfl⟩ ⟨_,_,_,rfl⟩ (.inl rfl),Ext.refl _,hr,rfl⟩
  · cases hg; cases hd
    obtain⟨L,_,_,_,rfl⟩:=cY hs;exact⟨_,w,ρ,zero ⟨_,_,_,rfl⟩ ⟨_,_,_,rfl⟩ (.inl rfl),Ext.refl _,hr,rfl⟩
  · cases hg; cases hs
    obtain⟨L,_,_,_,rfl⟩:=cY hd;exact⟨_,w,ρ,zero ⟨_,_,_,rfl⟩ ⟨_,_,_,rfl⟩ (.inr rfl),Ext.refl _,hr,rfl⟩
  · rename_i i o l z j p m y
    split at hg
    · rename_i e1 sz by_ zs ao news he hi hnews;generalize hk:cond (Nat.ble m l) m l=k at hg hnews;have hkmin:Nat.min m l=k:=by
        rw[<- hk];show min m l=_
        cases hb:Nat.ble m l with
        | true=>simp[Nat.min_eq_left (Nat.le_of_ble_eq_true hb)]
        | false =>
          have : ¬ m<=l:=λ h=>by rw[Nat.ble_eq_true_of_le h] at hb; cases hb
          simp[Nat.min_eq_right (Nat.le_of_not_le this)]
      cases hb:(Nat.beq z sz&&Nat.beq y sz&&not ao.ro&&Ca news&&Nat.ble (Nat.add (Nat.mul o z) news.length) ao.cells.length) with
      | false=>rw[hb] at hg; cases hg
      | true =>
        rw[hb] at hg
        cases hg
        simp only[Bool.and_eq_true] at hb;obtain⟨⟨⟨⟨q1,q2⟩,q3⟩,q4⟩,q5⟩:=hb;obtain rfl:=beq_iff.1 q1;have q2:=beq_iff.1 q2;subst q2;have hro:ao.ro=false:=by cases hq:ao.ro with
          | false=>rfl
          | true=>rw[hq] at q3; cases q3
        have q5:o*y+news.length<=ao.cells.length:=Nat.le_of_ble_eq_true q5;obtain⟨z0,hT,hzs⟩:=(oB he).slT;obtain⟨i0,hi0,hz0,hs0,hby0⟩:=hT.i;obtain⟨L,hL,hle,hez,rfl⟩:=cY hd;obtain⟨Lx,hLx,hlex,hezx,rfl⟩:=cY hs;obtain⟨L1,cur,vs,hl⟩:=hr.live i ao hi;obtain rfl:L=L1:=Option.some.inj (hL.symm.trans hl.at_);obtain⟨fz,hblk,hfz⟩:=hl.blk;obtain rfl:=hfz hro;obtain⟨Lx',us,hLx',hus,hul,hat⟩:=gu hr hnews;obtain rfl:Lx=Lx':=Option.some.inj (hLx.symm.trans hLx');have hul:us.length=k*y:=hul;have hat:af w ⟨Lx.b,p*y,none⟩ 0 us:=hat;have hvl:=bt hl.val;have hnl:=bt hus;have hone:=xw q4 hus;have hcur:vs.length<=cur.toList.length:=by rw[<- hl.here]; simp; omega
        have hfit:o*y+0+us.length<=cur.size:=by simp at hcur; omega
        have hsz:cZ P e1=some y:=by simp[cZ,hi0,hs0]
        have hload:(loadCells ⟨Lx.b,p*y,none⟩ (k*y)).run P w=.ok us.toArray w:=by
          rw[<- hul];have:=p4 (P:=P) us 0 #[] hat;simpa[loadCells] using this
        refine⟨.int .i64 k,_,ρ,?_,Ext.refl _,hr.rewrite hi hL (w':=w.setRow L.b (setAt cur.toList (o*y) us).toArray) (cells:=setAt ao.cells (o*y) news) (cur':=(setAt cur.toList (o*y) us).toArray) (vs':=setAt vs (o*y) us) ?_ ?_ (lF (o*y) hl.val hus) ?_ ?_,rfl⟩
        · simp only[Builtin.copy_,ht,aE hT.u,Sem.run_bind,Result.andThen_ok,Builtin.lenOf,Sem.run_pure,hkmin,bO hsz,Builtin.firstCells,hload,List.getElem?_toArray,List.getElem?_cons_zero,List.getElem?_cons_succ];have hst:=run_storeCells_at P L.b (o*y) ao.T us 0 cur w hblk hfit hone;simp only[hst,Result.andThen_ok,goInt];rw[tT _ _ _ (by simpa using hfit)]
          simp
        · exact⟨by simp[World.setRow],λ k _ hn=>setRow_other w L.b k _ (by simpa using hn),⟨rfl,rfl,rfl⟩⟩
        · exact setRow_heap w L.b cur _ ao.T _ hblk
        · rw[cQ,mG _ _ _ _ (by omega)];rw[hl.here]
        · simp only[List.size_toArray,cQ];simpa using hl.room
    · cases hg
  · cases hg
def OV:List AV->Option (List UInt8)
  | []=>some []
  | .int .u8 (.ofNat n) :: l=>match OV l with
    | some m=>cond (Nat.ble n 255) (some (UInt8.ofNat n :: m)) none
    | none=>none
  | _=>none
theorem HG{ρ:Names}:∀ {l:List AV} {m:List UInt8} {vs:List Value},OV l=some m->dH ρ l=some vs->vs=Lib.byteCells m
  | [],m,vs,h,hv=>by cases h; cases hv; rfl
  | a :: l,m,vs,h,hv=>by
    obtain⟨v,us,rfl,h1,h2⟩:=aL hv;unfold OV at h
    split at h
    · rename_i heq; cases heq
    · rename_i n l' heq
      cases heq
      split at h
      · rename_i m' hm
        cases hb:Nat.ble n 255 with
        | false=>rw[hb] at h; cases h
        | true =>
          rw[hb] at h
          cases h
          have:=Nat.le_of_ble_eq_true hb
          cases bX h1
          rw[HG hm h2];have e:(UInt8.ofNat n).toNat=n:=by simp; omega
          simp[Lib.byteCells,e]
      · cases h
    · cases h
def QO(a:AV):Option AV:=match a with
  | .nils=>some .nilp
  | .sli i o (_+1) z=>some (.ptr i (Nat.mul o z))
  | _=>none
theorem ND{P:Program}{ρ:Names}{tys:Array TypeId}{ty:TypeId}{a r:AV}{v:Value}(hg:QO a=some r)(ha:rv ρ a=some v):iP P ρ (Builtin.unsafeSliceData_ tys ty #[v]) r:=by
  unfold QO at hg
  split at hg
  · cases hg; cases ha
    exact⟨_,rfl,λ w=>Lib.run_unsafeSliceData_nil w tys ty 0 0⟩
  · rename_i i o l z
    cases hg
    obtain⟨L,hL,hle,_,rfl⟩:=cY ha;exact⟨_,by simp only[rv,hL,Option.map_some]; rfl,λ w=>Lib.run_unsafeSliceData_row w tys ty _ _ _ (by omega)⟩
  · cases hg
def QS(P:Program)(tys:List TypeId)(p m:AV)(h:AH):Option (AV×AH):=match tys,m with
  | [_,_],.int .i64 (.ofNat 0)=>match p with
    | .nilp=>some (.str [],h)
    | .ptr _ _=>some (.str [],h)
    | _=>none
  | [pt,_],.int .i64 (.ofNat (k+1))=>match p,P.underlying pt with
    | .ptr i 0,some (.pointer e)=>match cE h i 0 (Nat.succ k),h.get i with
      | some az,some (some ao)=>match OV az with
        | some l=>cond (Nat.beq ao.T e&&Nat.beq (P.cellsOf e) 1&&Nat.ble (Nat.succ k) 9223372036854775807) (some (.str l,h.put i none)) none
        | none=>none
      | _,_=>none
    | _,_=>none
  | _,_=>none
theorem aF.freeze(w:World)(b o n:Nat):aF w (w.freeze ⟨b,o,none⟩ n) [b]:=by
  unfold World.freeze
  split
  · exact aF.refl _ _
  · exact⟨by simp,λ k _ hk=>by
      simp only[Array.getElem?_modify];rw[if_neg (by simpa using λ e=>hk (by simp[e]))],⟨rfl,rfl,rfl⟩⟩
theorem NF{P:Program}{tys:Array TypeId}{ty:TypeId}{p m r:AV}{h h' : AH}(hg:QS P tys.toList p m h=some (r,h')){w0 w:World}{ρ:Names}(hr:fk w0 w ρ h){vp vm:Value}(hp:rv ρ p=some vp)(hm:rv ρ m=some vm) :
    xD P w0 w ρ (Builtin.unsafeString_ tys ty #[vp,vm]) r h':=by
  unfold QS at hg
  split at hg
  · rename_i pt it htys;have htys' : tys = #[pt,it]:=by rw[<- htys]
    subst htys'
    cases bX hm
    split at hg
    · cases hg; cases hp
      exact⟨_,w,ρ,Lib.run_unsafeString_none w pt it ty none,Ext.refl _,hr,rfl⟩
    · cases hg
      obtain⟨L,_,rfl⟩:=fL hp;exact⟨_,w,ρ,Lib.run_unsafeString_none w pt it ty _,Ext.refl _,hr,rfl⟩
    · cases hg
  · rename_i pt it k htys;have htys' : tys = #[pt,it]:=by rw[<- htys]
    subst htys'
    cases bX hm
    split at hg
    · rename_i i e hpt
      split at hg
      · rename_i az ao haz hi
        split at hg
        · rename_i l hl
          cases hb:(Nat.beq ao.T e&&Nat.beq (P.cellsOf e) 1&&Nat.ble (Nat.succ k) 9223372036854775807) with
          | false=>rw[hb] at hg; cases hg
          | true =>
            rw[hb] at hg
            cases hg
            simp only[Bool.and_eq_true] at hb;obtain⟨⟨q1,q2⟩,q3⟩:=hb;have q1:=beq_iff.1 q1;have q2:=beq_iff.1 q2;have q3:=Nat.le_of_ble_eq_true q3;obtain⟨L,hL,rfl⟩:=fL hp;obtain⟨L1,cur,vs,hlv⟩:=hr.live i ao hi;obtain rfl:L=L1:=Option.some.inj (hL.symm.trans hlv.at_);obtain⟨fz,hblk,_⟩:=hlv.blk;obtain⟨L',us,hL',hus,hul,hat⟩:=gu hr haz;obtain rfl:L=L':=Option.some.inj (hL.symm.trans hL');have hbc:=HG hl hus;subst hbc;have hll:l.length=k+1:=by rw[<- Lib.byteCells_length,hul]
            have hcell:∀ j x,l[j]? = some x->w.cell? ((⟨L.b,0,none⟩:Addr).add j)=some (.int .u8 x.toNat):=λ j x hj=>by
              have:=aU _ 0 hat j (.int .u8 x.toNat) (by simp[Lib.byteCells,hj]);simpa using this
            have hsh:w.shape? L.b=some (e,cur.size):=by simp[World.shape?,hblk,q1]
            have hlen:l.length<=cur.size:=by
              have hc:=aU _ 0 hat k (.int .u8 (l.getD k 0).toNat) (by
                have hk:k<l.length:=by omega
                simp[Lib.byteCells,hk])
              rw[aV,Nat.zero_add,iW,hblk,eH] at hc;have:=(Array.getElem?_eq_some_iff.1 hc).1;omega
            have hrun:=Lib.run_unsafeString_row (P:=P) w pt it ty e hpt q2 L.b cur.size hsh l (by intro h0; rw[h0] at hll; simp at hll) hlen (by omega) hcell;rw[hll] at hrun;have hst:=hr.LC i;refine⟨_,_,ρ,hrun,Ext.refl _,hst.Co (aF.freeze w L.b 0 (k+1)) (λ f hf=>?_),rfl⟩;simp at hf; subst hf;refine⟨hlv.new,λ j ao' L' hj hL'=>?_⟩;rw[bN] at hj
            split at hj
            · cases hj
            · rename_i hji;exact hr.inj j i ao' ao L' L hji hj hi hL' hL
        · cases hg
      · cases hg
    · cases hg
  · cases hg
def QD(P:Program)(src dst:TypeId)(l:List UInt8)(h:AH)(n:Nat):Option (AV×AH):=match P.underlying src,P.underlying dst,h.get n with
  | some .string,some (.slice e),none=>match P.underlying e with
    | some (.int .u8)=>cond (Nat.ble l.length 4294967296) (some (.sli n 0 l.length 1,h.put n (some ⟨e,oe l,true⟩))) none
    | _=>none
  | _,_,_=>none
theorem Nh{P:Program}{src dst:TypeId}{l:List UInt8}{r:AV}{h h' : AH}{n:Nat}(hg:QD P src dst l h n=some (r,h')){w0 w:World}{ρ:Names}(hr:fk w0 w ρ h) :
    xD P w0 w ρ (convert src dst (.string ⟨l.toArray⟩)) r h':=by
  unfold QD at hg
  split at hg
  · rename_i e hs hd hn
    split at hg
    · rename_i he
      cases hb:Nat.ble l.length 4294967296 with
      | false=>rw[hb] at hg; cases hg
      | true =>
        rw[hb] at hg
        cases hg
        have hle:=Nat.le_of_ble_eq_true hb;have hsz:(⟨l.toArray⟩:ByteArray).size=l.length:=by simp[ByteArray.size]
        have hge:=grownCap_ge w (⟨l.toArray⟩:ByteArray).size 0 e;have hrun:=Lib.run_convert_string_bytes (P:=P) w src dst e ⟨l.toArray⟩ hs hd he;have hcs:(Lib.bytesCells w e ⟨l.toArray⟩).size=grownCap w (⟨l.toArray⟩:ByteArray).size 0 e:=by
          simp only[Lib.bytesCells,Array.size_append,Array.size_map,Array.size_replicate];have e1:l.toArray.size=l.length:=by simp
          have e2:(⟨l.toArray⟩:ByteArray).data.size=l.length:=by simp
          omega
        have hchg:aF w (Lib.bytesWorld w e ⟨l.toArray⟩) []:=⟨by rw[Lib.bytesWorld_size]; omega,λ j hj _=>Lib.bytesWorld_at_old w e _ j hj,by
          unfold Lib.bytesWorld World.freeze
          split<;>exact⟨rfl,rfl,rfl⟩⟩
        have hext:=Ext.dK (L:=⟨w.heap.size,1,grownCap w (⟨l.toArray⟩:ByteArray).size 0 e⟩) (bR hr hn);have hnew:=hr.new hn (ro:=true) (T:=e) (L:=⟨w.heap.size,1,grownCap w (⟨l.toArray⟩:ByteArray).size 0 e⟩) (cells:=oe l) (vs:=Lib.byteCells l) hchg (Lib.bytesWorld_at_new w e ⟨l.toArray⟩) (λ h=>by cases h) (Nat.le_refl _) (pZ _ _)
          (by
            simp only[Lib.bytesCells,Array.toList_append];have e1:((⟨l.toArray⟩:ByteArray).data.map λ b=>Value.int .u8 b.toNat).toList=Lib.byteCells l:=by simp[Lib.byteCells]
            rw[e1,List.take_left]) (by rw[Nat.mul_one,hcs]) (grownCap_le_maxLen w _ 0 e (by rw[hsz]; unfold maxLen; omega))
        refine⟨_,_,_,hrun,hext,hnew,?_⟩;simp only[rv,dK,if_true,Option.bind_some];rw[if_pos]
        · simp[hsz]
        · exact⟨by show 0+l.length<=_; omega,trivial⟩
    · cases hg
  · cases hg
def Uv(P:Program)(src dst:TypeId)(a:AV)(h:AH):Option AV:=match a with
  | .ptr i 0=>match h.get i with
    | some (some ao)=>match P.underlying src,P.underlying dst with
      | some (.pointer t),some .unsafePointer=>match P.info? t,ao.cells with
        | some j,_ :: _=>cond (Nat.beq j.size 0) none (some (.ptr i 0))
        | _,_=>none
      | some .unsafePointer,some (.pointer u)=>match P.info? u with
        | some j=>cond (Nat.beq ao.T u&&Nat.ble 1 j.size&&Nat.ble j.size ao.cells.length) (some (.ptr i 0)) none
        | none=>none
      | _,_=>none
    | _=>none
  | _=>none
theorem DR{P:Program}{e:TypeId}{c:Nat}(hc:P.cellsOf e=c)(h0:0<c)(count:Nat)(hn:1<=count):liesAt P P.depth e count 0 e 1=true:=by
  have hd:P.depth=(2*(P.types.size+Made.depth)+1)+1:=rfl;rw[hd];simp only[liesAt,Bool.or_eq_true]
  left
  rw[hd];have h1:c≠0:=by omega
  simp[rowAt,hc,h1,hn,sameLayout]
theorem QN{P:Program}{src dst:TypeId}{a r:AV}{h:AH}(hg:Uv P src dst a h=some r){w0 w:World}{ρ:Names}(hr:fk w0 w ρ h){va:Value}(ha:rv ρ a=some va):xD P w0 w ρ (convert src dst va) r h:=by
  unfold Uv at hg
  split at hg
  · rename_i i
    split at hg
    · rename_i ao hi;obtain⟨L,hL,rfl⟩:=fL ha;obtain⟨L1,cur,vs,hlv⟩:=hr.live i ao hi;obtain rfl:L=L1:=Option.some.inj (hL.symm.trans hlv.at_);obtain⟨fz,hblk,_⟩:=hlv.blk;have hvl:=bt hlv.val;have hcur:vs.length<=cur.size:=by
        have:vs.length<=cur.toList.length:=by rw[<- hlv.here]; simp; omega
        simpa using this
      have hsh:w.shape? L.b=some (ao.T,cur.size):=by simp[World.shape?,hblk]
      split at hg
      · rename_i t hs hd
        split at hg
        · rename_i j c cs hj hcs
          cases hb:Nat.beq j.size 0 with
          | true=>rw[hb] at hg; cases hg
          | false =>
            rw[hb] at hg
            cases hg
            have hj0:j.size≠0:=λ e=>by rw[e] at hb; cases hb
            exact⟨_,w,ρ,Lib.run_to_unsafe w ⟨L.b,0,none⟩ hs hd hj hj0 hsh (by show 0<cur.size; rw[hcs] at hvl; simp at hvl; omega),Ext.refl _,hr,ha⟩
        · cases hg
      · rename_i u hs hd
        split at hg
        · rename_i j hj
          cases hb:(Nat.beq ao.T u&&Nat.ble 1 j.size&&Nat.ble j.size ao.cells.length) with
          | false=>rw[hb] at hg; cases hg
          | true =>
            rw[hb] at hg
            cases hg
            simp only[Bool.and_eq_true] at hb;obtain⟨⟨q1,q2⟩,q3⟩:=hb;have q1:=beq_iff.1 q1;have q2:=Nat.le_of_ble_eq_true q2;have q3:=Nat.le_of_ble_eq_true q3;rw[q1] at hsh;have hco:P.cellsOf u=j.size:=by simp[Program.cellsOf,hj]
            exact⟨_,w,ρ,Lib.run_from_unsafe w ⟨L.b,0,none⟩ hs hd hj hsh (by
              show liesAt P P.depth u (cur.size / P.cellsOf u) 0 u 1=true;refine DR hco q2 _ ?_;rw[hco,Nat.le_div_iff_mul_le q2];omega),Ext.refl _,hr,ha⟩
        · cases hg
      · cases hg
    · cases hg
  · cases hg
def PZ(P:Program)(f:FuncId)(e:Array Value->Sem Value):Prop :=
  ∃ fn,P.funcs[f]? = some fn/\(fn.name== "runtime.NumGoroutine")=false/\fn.body.isNone=true/\Extern.findNext fn=none/\Extern.find fn=some e
structure XT where
  noEsc:Nat
  idx:Nat
  cnt:Nat
  mnz:Nat
  mps:Array TypeId
  mt:TypeId
  me:TypeId
def QG(x:XT):List AV->AH->Nat->FuncId->Option (AV×AH×Nat):=λ args h n f =>
  cond (Nat.beq f x.noEsc) (match args with
    | [a]=>some (a,h,n)
    | _=>none)
  (cond (Nat.beq f x.idx) (match args with
    | [.str l,.int .u8 c]=>some (BS .i64 (Lib.indexByte l c.toNat.toUInt8),h,n)
    | _=>none)
  (cond (Nat.beq f x.cnt) (match args with
    | [.str l,.int .u8 c]=>some (BS .i64 (.ofNat (Lib.countByte l c.toNat.toUInt8)),h,n)
    | _=>none)
  (cond (Nat.beq f x.mnz) (match args,h.get n with
    | [.int .i64 (.ofNat m)],none=>cond (Nat.ble m 281474976710656) (some (.sli n 0 m 1,h.put n (some ⟨x.me,[],false⟩),Nat.succ n)) none
    | _,_=>none) none)))
structure XT.OK (P:Program) (x:XT):Prop where
  noEsc:PZ P x.noEsc Extern.AbiNoEscape.same
  idx:PZ P x.idx Extern.BytealgIndexByte.indexByte
  cnt:PZ P x.cnt Extern.BytealgCount.count
  mnz:PZ P x.mnz (Extern.BytealgMakeNoZero.makeNoZero x.mps #[x.mt])
  me:P.underlying x.mt=some (.slice x.me)
theorem PZ.run{P:Program}{f:FuncId}{e:Array Value->Sem Value}(h:PZ P f e){args:Array Value}{w w' : World}{v:Value}(hr:(e args).run P w=.ok v w'):(callFunc f args).run P w=.ok (.value v) w':=by
  obtain⟨fn,h1,h2,h3,h4,h5⟩:=h;rw[run_callFunc_extern h1 h2 h3 h4 h5,hr];rfl
theorem Nn{P:Program}{x:XT}(hx:x.OK P){f:FuncId}{args:List AV}{h h' : AH}{n n' : Nat}{a:AV}(hg:QG x args h n f=some (a,h',n')){w0 w:World}{ρ:Names}{vs:List Value}(hr:fk w0 w ρ h)(hv:dH ρ args=some vs) :
    ∃ v w' ρ',(callFunc f vs.toArray).run P w=.ok (.value v) w'/\Ext ρ ρ'/\fk w0 w' ρ' h'/\rv ρ' a=some v:=by
  unfold QG at hg
  cases h1:Nat.beq f x.noEsc with
  | true =>
    have:=beq_iff.1 h1;subst this;rw[h1] at hg;simp only[cond_true] at hg
    split at hg
    · rename_i a
      cases hg
      obtain⟨v,us,rfl,k1,k2⟩:=aL hv
      cases k2
      exact⟨v,w,ρ,hx.noEsc.run (Lib.run_noEscape w v),Ext.refl _,hr,k1⟩
    · cases hg
  | false =>
    rw[h1] at hg;simp only[cond_false] at hg
    cases h2:Nat.beq f x.idx with
    | true =>
      have:=beq_iff.1 h2;subst this;rw[h2] at hg;simp only[cond_true] at hg
      split at hg
      · rename_i l c
        cases hg
        obtain⟨v,us,rfl,k1,k2⟩:=aL hv;obtain⟨v2,us2,rfl,k3,k4⟩:=aL k2
        cases k4
        cases fM k1; cases bX k3
        exact⟨_,w,ρ,hx.idx.run (Lib.run_indexByteString _ c w),Ext.refl _,hr,by rw[eG]; rfl⟩
      · cases hg
    | false =>
      rw[h2] at hg;simp only[cond_false] at hg
      cases h3:Nat.beq f x.cnt with
      | true =>
        have:=beq_iff.1 h3;subst this;rw[h3] at hg;simp only[cond_true] at hg
        split at hg
        · rename_i l c
          cases hg
          obtain⟨v,us,rfl,k1,k2⟩:=aL hv;obtain⟨v2,us2,rfl,k3,k4⟩:=aL k2
          cases k4
          cases fM k1; cases bX k3
          exact⟨_,w,ρ,hx.cnt.run (Lib.run_countString _ c w),Ext.refl _,hr,by rw[eG]; rfl⟩
        · cases hg
      | false =>
        rw[h3] at hg;simp only[cond_false] at hg
        cases h4:Nat.beq f x.mnz with
        | false=>rw[h4] at hg; cases hg
        | true =>
          have:=beq_iff.1 h4;subst this;rw[h4] at hg;simp only[cond_true] at hg
          split at hg
          · rename_i m hn
            cases hb:Nat.ble m 281474976710656 with
            | false=>rw[hb] at hg; cases hg
            | true =>
              rw[hb] at hg
              cases hg
              have hle:=Nat.le_of_ble_eq_true hb;obtain⟨v,us,rfl,k1,k2⟩:=aL hv
              cases k2
              cases bX k1
              obtain⟨cs,hrun,hcs,hcm⟩:=Lib.run_makeNoZero (P:=P) w x.mps x.mt x.me hx.me m hle;have hchg:aF w (w.drew.drew.alloc (.cells cs x.me)) []:=((aF.drew w []).trans (aF.drew w.drew []) (by simp)).trans (aF.new w.drew.drew _ []) (by simp);have hext:=Ext.dK (L:=⟨w.heap.size,1,cs.size⟩) (bR hr hn);have hnew:=hr.new hn (ro:=false) (T:=x.me) (L:=⟨w.heap.size,1,cs.size⟩) (cells:=[]) (vs:=[]) (cur:=cs) (fz:=(0,0)) hchg (by
                have:=fF w.drew.drew (.cells cs x.me) w.heap.size;rw[this]
                simp) (λ _=>rfl) (Nat.le_refl _) rfl rfl (by simp) (hcm (by unfold maxLen; omega))
              refine⟨_,_,_,hx.mnz.run hrun,hext,hnew,?_⟩;simp only[rv,dK,if_true,Option.bind_some];rw[if_pos]
              · simp
              · exact⟨by show 0+m<=cs.size; omega,trivial⟩
          · cases hg
end Go.Gx
