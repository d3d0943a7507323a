import Derived.Lib.UnsafeStr
import Derived.Lib.ConvBytes
import Derived.Lib.Bytealg
import Derived.Lib.MakeNoZero
import Derived.Lib.Builder
import Derived.Laws.Externs
import Derived.Test.YtemiicbbbojdiaaGreatDoorD11
set_option linter.unusedVariables false
set_option maxRecDepth 100000
noncomputable section
namespace Go.Gx
open Go Go.Vc
def zU(P:Program)(w0 w:World)(ρ:Names)(s:Sem Value)(a:AV)(h' : AH):Prop :=
 ∃ v w' ρ',s.run P w=.ok v w'/\Ext ρ ρ'/\fO w0 w' ρ' h'/\rv ρ' a=some v
def one:AV->Bool
 | .agg _=>false
 | .tup _=>false
 | _=>true
theorem UK{ρ:Names}{a:AV}{v:Value}(h1:one a=true)(h:rv ρ a=some v):v.oneCell' = true:=by
 cases a with
 | agg cs=>cases h1
 | tup cs=>cases h1
 | int k n=>cases cw h; rfl
 | bool b=>cases ff h; rfl
 | str l=>cases gw h; rfl
 | nilp=>cases h; rfl
 | nils=>cases h; rfl
 | nili=>cases h; rfl
 | nilf=>cases h; rfl
 | ptr i o=>obtain⟨L,hL,rfl⟩:=gu h; rfl
 | sli i o l z=>obtain⟨L,hL,_,_,rfl⟩:=dD h; rfl
 | iface T x =>
  simp only[rv,Option.map_eq_some_iff] at h;obtain⟨u,_,rfl⟩:=h;rfl
 | fn f x y =>
  simp only[rv] at h
  split at h
  ·cases h; rfl
  ·cases h
 | yld i =>
  simp only[rv,Option.map_eq_some_iff] at h;obtain⟨u,_,rfl⟩:=h;rfl
def Ei:List AV->Bool
 | []=>true
 | a :: l=>cond (one a) (Ei l) false
theorem zO{ρ:Names}:∀ {l:List AV} {vs:List Value},Ei l=true->dI ρ l=some vs->∀ v∈vs,v.oneCell' = true
 | [],_,_,h=>by cases h; simp
 | a :: l,vs,h1,h=>by
  obtain⟨v,us,rfl,g1,g2⟩:=aM h;unfold Ei at h1
  cases ha:one a with
  | false=>rw[ha] at h1; cases h1
  | true =>
   rw[ha] at h1;intro u hu;rcases List.mem_cons.1 hu with rfl|hu
   ·exact UK ha g1
   ·exact zO h1 g2 u hu
def KN(P:Program)(ty:TypeId)(p a:AV)(h:AH):Option AH:=match p,dw P ty with
 | .ptr i o,some sz=>match h.get i with
  | some (some ao)=>cond (Nat.beq (ct a).length sz&&Nat.ble (Nat.add o sz) ao.cells.length&&Ei (ct a)&&not ao.ro) (some (h.put i (some ⟨ao.T,setAt ao.cells o (ct a),ao.ro⟩))) none
  | _=>none
 | _,_=>none
theorem Qp{P:Program}{ty:TypeId}{p a:AV}{h h' : AH}(hg:KN P ty p a h=some h'){w0 w:World}{ρ:Names}(hr:fO w0 w ρ h){vp va:Value}(hp:rv ρ p=some vp)(ha:rv ρ a=some va) :
  ∃ w',(Instr.storeAt ty vp va).run P w=.ok () w'/\fO w0 w' ρ h':=by
 unfold KN at hg
 split at hg
 ·rename_i i o sz hsz
  split at hg
  ·rename_i ao hi
   cases hb:(Nat.beq (ct a).length sz&&Nat.ble (Nat.add o sz) ao.cells.length&&Ei (ct a)&&not ao.ro) with
   | false=>rw[hb] at hg; cases hg
   | true =>
    rw[hb] at hg
    cases hg
    simp only[Bool.and_eq_true] at hb;obtain⟨⟨⟨h1,h2⟩,h3⟩,hro⟩:=hb;have hro:ao.ro=false:=by cases hq:ao.ro with
     | false=>rfl
     | true=>rw[hq] at hro; cases hro
    have h1:=beq_iff.1 h1;have h2:o+sz<=ao.cells.length:=Nat.le_of_ble_eq_true h2;obtain⟨L,hL,rfl⟩:=gu hp;obtain⟨L1,cur,vs,hl⟩:=hr.live i ao hi;obtain rfl:L=L1:=Option.some.inj (hL.symm.trans hl.at_);obtain⟨fz,hblk,hfz⟩:=hl.blk;obtain rfl:=hfz hro;have hc:=jH ha;have hcl:=bA hc;have hvl:=bA hl.val;have hone:=zO h3 hc;have hcs:va.cells.toList.length=sz:=by rw[hcl,h1]
    have hcur:vs.length<=cur.toList.length:=by rw[<- hl.here]; simp; omega
    have hfit:o+0+va.cells.toList.length<=cur.size:=by simp at hcur; omega
    refine⟨_,?_,hr.rewrite hi hL (w':=w.setRow L.b (setAt cur.toList o va.cells.toList).toArray) (cells:=setAt ao.cells o (ct a)) (cur':=(setAt cur.toList o va.cells.toList).toArray) (vs':=setAt vs o va.cells.toList) ?_ ?_ (mO o hl.val hc) ?_ ?_⟩
    ·have hno : ¬ va.cells.size≠sz:=by simp at hcs; simp[hcs]
     simp only[Instr.storeAt,Instr.sureAddr,storeVar,Sem.run_bind,Sem.run_pure,Result.andThen_ok,bT hsz,if_neg hno];rw[run_storeCells_at (P:=P) L.b o ao.T va.cells.toList 0 cur w hblk hfit hone];rw[vT _ _ _ (by simpa using hfit)]
     simp
    ·exact⟨by simp[World.setRow],λ k _ hn=>setRow_other w L.b k _ (by simpa using hn),⟨rfl,rfl,rfl⟩⟩
    ·exact setRow_heap w L.b cur _ ao.T _ hblk
    ·rw[cY,nR _ _ _ _ (by omega)];rw[hl.here]
    ·simp only[List.size_toArray,cY];simpa using hl.room
  ·cases hg
 ·cases hg
def FR(T:TypeId)(a:AV)(h:AH)(n:Nat):Option (AV×AH):=match h.get n with
 | none=>some (.ptr n 0,h.put n (some ⟨T,ct a,false⟩))
 | some _=>none
theorem Jp{P:Program}{T:TypeId}{a r:AV}{h h' : AH}{n:Nat}(hg:FR T a h n=some (r,h')){w0 w:World}{ρ:Names}(hr:fO w0 w ρ h){va:Value}(ha:rv ρ a=some va) :
  zU P w0 w ρ (do pure (.pointer (some (<- newVar T va)))) r h':=by
 unfold FR at hg
 split at hg
 ·rename_i hn
  cases hg
  have hc:=jH ha;have:=hr.alloc hn (T:=T) hc (esz:=va.cells.toList.length) (tot:=1) (by simp) (by simp[maxLen]);refine⟨_,_,_,?_,Ext.dW (bX hr hn),this,by simp only[rv,dW,if_true,Option.map_some]; rfl⟩;simp[newVar,newRow,newObj];rfl
 ·cases hg
def tZ{α:Type}:Nat->List α->List α
 | 0,_=>[]
 | n+1,l=>l++tZ n l
theorem qA{α:Type}(l:List α):∀ n,(tZ n l).length=n*l.length
 | 0=>by simp[tZ]
 | n+1=>by simp[tZ,qA l n,Nat.add_mul]; omega
theorem GJ{α:Type}[Inhabited α](l:List α):∀ (n i:Nat),i<n*l.length->(tZ n l)[i]?=some (l.toArray[i%l.length]!)
 | 0,i,h=>by simp at h
 | n+1,i,h=>by
  unfold tZ
  by_cases hi:i<l.length
  ·rw[List.getElem?_append_left hi,Nat.mod_eq_of_lt hi];simp[hi]
  ·rw[List.getElem?_append_right (by omega)];have hn:(n+1)*l.length=n*l.length+l.length:=by rw[Nat.add_mul,Nat.one_mul]
   rw[hn] at h;rw[GJ l n (i-l.length) (by omega)];have:i%l.length=(i-l.length)%l.length:=Nat.mod_eq_sub_mod (by omega);rw[this]
theorem C5(z:Array Value)(n:Nat):(tZ n z.toList)=(madeCells z (n*z.size)).toList:=by
 apply List.ext_getElem?;intro i
 by_cases hi:i<n*z.size
 ·rw[GJ z.toList n i (by simpa using hi)];simp[madeCells,hi]
 ·have h1:(tZ n z.toList).length<=i:=by rw[qA]; simpa using hi
  have h2:(madeCells z (n*z.size)).toList.length<=i:=by simpa[size_madeCells] using hi
  rw[List.getElem?_eq_none h1,List.getElem?_eq_none h2]
theorem Bm{ρ:Names}{l:List AV}{vs:List Value}(h:dI ρ l=some vs):∀ n,dI ρ (tZ n l)=some (tZ n vs)
 | 0=>rfl
 | n+1=>lu h (Bm h n)
def At(P:Program)(t:TypeId):Option (TypeId×Nat×Nat×List AV):=match P.underlying t with
 | some (.slice e)=>match P.info? e,yI P e with
  | some i,some z=>cond (Nat.beq (ct z).length i.size&&Nat.ble 1 i.size) (some (e,i.size,i.bytes,ct z)) none
  | _,_=>none
 | _=>none
structure Ti (P:Program) (t e:TypeId) (sz by_:Nat) (zs:List AV):Prop where
 slT:∃ z,iz P t e z sz by_/\∀ ρ,dI ρ zs=some z.cells.toList
theorem pW{P:Program}{t e:TypeId}{sz by_:Nat}{zs:List AV}(h:At P t=some (e,sz,by_,zs)):Ti P t e sz by_ zs:=by
 unfold At at h
 split at h
 ·rename_i e' hu
  split at h
  ·rename_i i z hi hz
   cases hb:(Nat.beq (ct z).length i.size&&Nat.ble 1 i.size) with
   | false=>rw[hb] at h; cases h
   | true =>
    rw[hb] at h
    cases h
    simp only[Bool.and_eq_true] at hb;have h1:=beq_iff.1 hb.1;have h2:=Nat.le_of_ble_eq_true hb.2;obtain⟨v,hv,⟨i',hi',hz'⟩,_⟩:=wu hz (λ _=>none);obtain rfl:i=i':=Option.some.inj (hi.symm.trans hi');have hlen:=bA (jH hv);refine⟨v,⟨hu,⟨i,hi,hz',rfl,rfl⟩,by rw[<- h1,<- hlen]; simp,h2⟩,λ ρ=>?_⟩;obtain⟨v2,hv2,⟨i2,hi2,hz2⟩,_⟩:=wu hz ρ;obtain rfl:i=i2:=Option.some.inj (hi.symm.trans hi2);obtain rfl:v=v2:=Option.some.inj (hz'.symm.trans hz2);exact jH hv2
  ·cases h
 ·cases h
def MQ(P:Program)(ty:TypeId)(len:Nat)(ps:List (Nat×AV))(h:AH)(n:Nat):Option (AV×AH):=match At P ty,h.get n with
 | some (e,sz,_,zs),none=>match xN (λ i=>some (Nat.mul i sz,sz)) (tZ len zs) ps with
  | some cells=>cond (Nat.ble (Nat.mul len sz) 16777216) (some (.sli n 0 len sz,h.put n (some ⟨e,cells,false⟩))) none
  | none=>none
 | _,_=>none
theorem P9{P:Program}{ty:TypeId}{len n:Nat}{ps:List (Nat×AV)}{qs:Array (Nat×Value)}{h h' : AH}{r:AV}(hg:MQ P ty len ps h n=some (r,h')){w0 w:World}{ρ:Names}(hr:fO w0 w ρ h)(hp:Bc ρ ps qs.toList) :
  zU P w0 w ρ (Instr.buildSlice ty len qs) r h':=by
 unfold MQ at hg
 split at hg
 ·rename_i e sz by_ zs he hn
  split at hg
  ·rename_i cells hf
   cases hb:Nat.ble (Nat.mul len sz) 16777216 with
   | false=>rw[hb] at hg; cases hg
   | true =>
    rw[hb] at hg
    cases hg
    have hle:len*sz<=16777216:=Nat.le_of_ble_eq_true hb;obtain⟨z,hT,hzs⟩:=(pW he).slT;obtain⟨i,hi,hz,hs,hby⟩:=hT.i;have hzl:z.cells.toList.length=sz:=by simpa using hT.zc
    obtain⟨us,h1,h2⟩:=uv hf (Bm (hzs ρ) len) hp;have hlen:us.length=len*sz:=by
     have a1:=bA h1;have:∀ {ps:List (Nat×AV)} {c res:List AV},xN (λ i=>some (Nat.mul i sz,sz)) c ps=some res->res.length=c.length:=by
      intro ps
      induction ps with
      | nil=>intro c res hh; cases hh; rfl
      | cons p ps ih =>
       intro c res hh;obtain⟨j,v⟩:=p;simp only[xN] at hh
       cases hb2:(Nat.beq (ct v).length sz&&Nat.ble (Nat.add (Nat.mul j sz) (ct v).length) c.length) with
       | false=>rw[hb2] at hh; cases hh
       | true=>rw[hb2] at hh; rw[ih hh,cY]
     have a2:=this hf;have a3:=bA (hzs ρ);rw[a1,a2,qA,<- a3,hzl]
    have hal:=hr.alloc hn (T:=e) h1 (esz:=sz) (tot:=len) hlen.symm (by unfold maxLen; have:len<=len*sz:=Nat.le_mul_of_pos_right _ hT.pos; omega);refine⟨.slice (some ⟨w.heap.size,0,none⟩) len len,_,_,?_,Ext.dW (bX hr hn),hal,?_⟩
    ·have hsz:dw P e=some sz:=by simp[dw,hi,hs]
     have hno : ¬ (len*sz>2 ^ 24):=by simpa using hle
     have hzv:∀ w,(zeroValue e).run P w=.ok z w:=λ w=>by simp[zeroValue,typeInfo,hi,hz]
     have hfill:∀ zz:Array Value,(len*sz=0\/zz=z.cells)->Instr.fill (λ i=>some (i*sz,sz)) ((Array.range (len*sz)).map (zz[· % zz.size]!)) qs.toList=some us.toArray:=by
      intro zz hzz;have hm:(Array.range (len*sz)).map (zz[· % zz.size]!)=(tZ len z.cells.toList).toArray:=by
       rcases hzz with h0|rfl
       ·have hl0:len=0:=by
         rcases Nat.mul_eq_zero.1 h0 with h|h
         ·exact h
         ·have:=hT.pos; omega
        subst hl0;simp[tZ]
       ·have hrm:=C5 z.cells len;have hzz:z.cells.size=sz:=hT.zc;rw[hrm,Array.toArray_toList];unfold madeCells;rw[hzz]
      rw[hm];exact h2
     have hnew:∀ c:Array Value,(newRow e c).run P w=.ok (⟨w.heap.size,0,none⟩:Addr) (w.alloc (.cells c e)):=λ c=>by simp[newRow,newObj]; rfl
     by_cases h0:len*sz=0
     ·have h5:=hfill #[] (.inl h0);simp only[Instr.buildSlice,Sem.run_bind,aD hT.u,bT hsz,Result.andThen_ok,if_neg hno,if_pos h0,Sem.run_pure,h5,hnew]
     ·have h5:=hfill z.cells (.inr rfl);simp only[Instr.buildSlice,Sem.run_bind,aD hT.u,bT hsz,Result.andThen_ok,if_neg hno,if_neg h0,Sem.run_pure,hzv,h5,hnew]
    ·simp[rv,dW]
  ·cases hg
 ·cases hg
def Ui(P:Program)(ty:TypeId)(l c:AV)(h:AH)(n:Nat):Option (AV×AH):=match l,c,At P ty,h.get n with
 | .int _ (.ofNat l),.int _ (.ofNat c),some (e,sz,by_,zs),none =>
  cond (Nat.ble l c&&Nat.ble (Nat.mul by_ c) 281474976710656&&Nat.ble c 9223372036854775807) (some (.sli n 0 l sz,h.put n (some ⟨e,tZ c zs,false⟩))) none
 | _,_,_,_=>none
theorem Qi{P:Program}{ty:TypeId}{l c r:AV}{h h' : AH}{n:Nat}(hg:Ui P ty l c h n=some (r,h')){w0 w:World}{ρ:Names}(hr:fO w0 w ρ h){vl vc:Value}(hl:rv ρ l=some vl)(hc:rv ρ c=some vc) :
  zU P w0 w ρ (Instr.makeSlice ty vl vc) r h':=by
 unfold Ui at hg
 split at hg
 ·rename_i k l k' c e sz by_ zs he hn
  cases hb:(Nat.ble l c&&Nat.ble (Nat.mul by_ c) 281474976710656&&Nat.ble c 9223372036854775807) with
  | false=>rw[hb] at hg; cases hg
  | true =>
   rw[hb] at hg
   cases hg
   cases cw hl; cases cw hc
   simp only[Bool.and_eq_true] at hb;obtain⟨⟨h1,h2⟩,h3⟩:=hb;have h1:=Nat.le_of_ble_eq_true h1;have h2:by_*c<=281474976710656:=Nat.le_of_ble_eq_true h2;have h3:=Nat.le_of_ble_eq_true h3;obtain⟨z,hT,hzs⟩:=(pW he).slT;obtain⟨i,hi,hz,hs,hby⟩:=hT.i;have hrun:=run_make (P:=P) w ty e i z hT.u hi hz k k' (l:Int) (c:Int) (by omega) (by omega) (by rw[hby,<- Int.natCast_mul]; exact Int.ofNat_le.2 h2) (by omega);have hzl:z.cells.size=sz:=hT.zc;have hcells:dI ρ (tZ c zs)=some (madeCells z.cells (c*i.size)).toList:=by
    rw[hs,<- hzl,<- C5];exact Bm (hzs ρ) c
   have hal:=hr.alloc hn (T:=e) hcells (esz:=sz) (tot:=c) (by simp[size_madeCells,hs]) h3;refine⟨_,_,_,hrun,Ext.dW (bX hr hn),by simpa using hal,?_⟩;simp[rv,dW,h1]
 ·cases hg
def P2(P:Program)(tys:List TypeId)(s x:AV)(h:AH)(n:Nat):Option (AV×AH):=match tys with
 | [t,t']=>cond (Nat.beq t t') (match At P t with
  | some (e,sz,by_,_)=>match x with
   | .nils=>match s with
    | .nils=>some (.nils,h)
    | .sli i o l z=>some (.sli i o l z,h)
    | _=>none
   | .sli j o m z=>match cP h j (Nat.mul o z) (Nat.mul m z),h.get n with
    | some news,none=>cond (Nat.beq z sz&&Ei news&&Nat.ble 1 m) (match s with
     | .nils=>cond (Nat.ble (Nat.mul m by_) 140737488355328&&Nat.ble m 9223372036854775807) (some (.sli n 0 m sz,h.put n (some ⟨e,news,false⟩))) none
     | .sli i 0 l z'=>match cP h i 0 (Nat.mul l z'),h.get i with
      | some olds,some (some ao)=>cond (Nat.beq z' sz&&not ao.ro&&Nat.beq ao.T e&&Nat.ble (Nat.mul (Nat.add l m) by_) 140737488355328&&Nat.ble (Nat.add l m) 9223372036854775807)
        (some (.sli n 0 (Nat.add l m) sz,(h.put i none).put n (some ⟨e,olds++news,false⟩))) none
      | _,_=>none
     | _=>none) none
    | _,_=>none
   | _=>none
  | none=>none) none
 | _=>none
theorem Fc{P:Program}{w:World}{t ty e:TypeId}{z:Value}{sz by_:Nat}(hT:iz P t e z sz by_){base:OA}{n c:Nat}(hn:n<=c):(Builtin.append_ #[t,t] ty #[.slice base n c,.slice none 0 0]).run P w=.ok (.slice base n c) w:=by
 obtain⟨i,hi,hz,hs,hby⟩:=hT.i;have hsz:dw P e=some sz:=by simp[dw,hi,hs]
 have hni:∀ w,(underlying t).run P w=.ok (.slice e) w:=aD hT.u
 cases base with
 | none=>simp[Builtin.append_,hni,bT hsz,Builtin.lenOf,hn,Builtin.firstCells]
 | some a=>simp[Builtin.append_,hni,bT hsz,Builtin.lenOf,hn,Builtin.firstCells,storeCells]
theorem P3{P:Program}{tys:Array TypeId}{dst:TypeId}{s x r:AV}{h h' : AH}{n:Nat}(hg:P2 P tys.toList s x h n=some (r,h')){w0 w:World}{ρ:Names}(hr:fO w0 w ρ h){vs vx:Value}(hs:rv ρ s=some vs)(hx:rv ρ x=some vx) :
  zU P w0 w ρ (Builtin.append_ tys dst #[vs,vx]) r h':=by
 unfold P2 at hg
 split at hg
 ·rename_i t t' htys
  cases ht:Nat.beq t t' with
  | false=>rw[ht] at hg; cases hg
  | true =>
   rw[ht] at hg;obtain rfl:=beq_iff.1 ht;have htys' : tys = #[t,t]:=by rw[<- htys]
   subst htys';simp only[cond_true] at hg
   split at hg
   ·rename_i e sz by_ zs he;obtain⟨z0,hT,hzs⟩:=(pW he).slT
    split at hg
    ·cases hx
     split at hg
     ·cases hg; cases hs
      exact⟨_,w,ρ,Fc hT (Nat.le_refl _),Ext.refl _,hr,rfl⟩
     ·cases hg
      obtain⟨L,hL,hle,hz,rfl⟩:=dD hs;exact⟨_,w,ρ,Fc hT (by omega),Ext.refl _,hr,hs⟩
     ·cases hg
    ·rename_i j o m z
     split at hg
     ·rename_i news hnews hn
      cases hb:(Nat.beq z sz&&Ei news&&Nat.ble 1 m) with
      | false=>rw[hb] at hg; cases hg
      | true =>
       rw[hb] at hg;simp only[cond_true] at hg;simp only[Bool.and_eq_true] at hb;obtain⟨⟨hz1,hones⟩,hm1⟩:=hb;obtain rfl:=beq_iff.1 hz1;have hm1:=Nat.le_of_ble_eq_true hm1;obtain⟨Lx,hLx,_,_,rfl⟩:=dD hx;obtain⟨Lx',us,hLx',hus,hul,hat⟩:=gX hr hnews;obtain rfl:Lx=Lx':=Option.some.inj (hLx.symm.trans hLx');have hul:us.length=m*z:=hul;have hat:af w ⟨Lx.b,o*z,none⟩ 0 us:=hat;have hnews' : ∀ j u,us[j]?=some u->w.cell? ((⟨Lx.b,o*z,none⟩:Addr).add j)=some u:=by
        have:∀ (l:List Value) (i:Nat),af w ⟨Lx.b,o*z,none⟩ i l->∀ j u,l[j]?=some u->w.cell? ((⟨Lx.b,o*z,none⟩:Addr).add (i+j))=some u:=by
         intro l
         induction l with
         | nil=>intro i _ j u hj; simp at hj
         | cons a l ih =>
          intro i hc j u hj
          cases j with
          | zero=>simp at hj; subst hj; exact hc.1
          | succ j =>
           have:=ih (i+1) hc.2 j u (by simpa using hj);rw[show i+(j+1)=i+1+j by omega];exact this
        intro j u hj;have:=this us 0 hat j u hj;simpa using this
       have hone:=zO hones hus
       split at hg
       ·cases hb2:(Nat.ble (Nat.mul m by_) 140737488355328&&Nat.ble m 9223372036854775807) with
        | false=>rw[hb2] at hg; cases hg
        | true =>
         rw[hb2] at hg
         cases hg; cases hs
         simp only[Bool.and_eq_true] at hb2;have g1:m*by_<=140737488355328:=Nat.le_of_ble_eq_true hb2.1;have g2:m<=9223372036854775807:=Nat.le_of_ble_eq_true hb2.2;have own:w.ownsRow 0 e z (.slice none 0 0) 0 []:=⟨by simp,.inl ⟨rfl,rfl⟩⟩;obtain⟨v',w',hrun,hown,hchg,hnxt⟩:=Aa (P:=P) (ty:=dst) (c:=Lx.tot-o) hT own hul hnews' hone (by simpa using g1) (by simpa using g2) (K:=λ v' w'=>w'.ownsRow 0 e z v' (0+m) ([]++us)/\Chg w w' []/\Vv w (.slice none 0 0) v') (λ v' w' h1 h2 h3=>⟨h1,h2,h3⟩);rcases hown.2 with⟨_,h0⟩|⟨g,cap,cur,rfl,_,hgg,hnc,hcm,hcs,htake⟩
         ·omega
         ·have hge:w.heap.size<=g:=(hnxt g rfl).resolve_left (λ h=>by cases h);simp only[Nat.zero_add,List.nil_append] at hnc htake hrun;have hul2:us.length=m*z:=hul;have hext:=Ext.dW (L:=⟨g,z,cap⟩) (bX hr hn);have:=hr.new hn (L:=⟨g,z,cap⟩) (T:=e) (cells:=news) (cur:=cur) (vs:=us) (ro:=false) hchg hgg (λ _=>rfl) hge (cG hext hus) (by rw[hul2]; exact htake) hcs.symm hcm;exact⟨_,w',_,hrun,hext,this,by simp[rv,dW,hnc]⟩
       ·rename_i i l z'
        split at hg
        ·rename_i olds ao holds hi
         cases hb2:(Nat.beq z' z&&not ao.ro&&Nat.beq ao.T e&&Nat.ble (Nat.mul (Nat.add l m) by_) 140737488355328&&Nat.ble (Nat.add l m) 9223372036854775807) with
         | false=>rw[hb2] at hg; cases hg
         | true =>
          rw[hb2] at hg
          cases hg
          simp only[Bool.and_eq_true] at hb2;obtain⟨⟨⟨⟨k1,hro⟩,k2⟩,k3⟩,k4⟩:=hb2;have hro:ao.ro=false:=by cases hq:ao.ro with
           | false=>rfl
           | true=>rw[hq] at hro; cases hro
          obtain rfl:=beq_iff.1 k1;have k2:=beq_iff.1 k2;have g1:(l+m)*by_<=140737488355328:=Nat.le_of_ble_eq_true k3;have g2:l+m<=9223372036854775807:=Nat.le_of_ble_eq_true k4;obtain⟨L,hL,hle,hez,rfl⟩:=dD hs;obtain⟨L1,cur0,vs0,hl⟩:=hr.live i ao hi;obtain rfl:L=L1:=Option.some.inj (hL.symm.trans hl.at_);obtain⟨fz,hblk,hfz⟩:=hl.blk;obtain rfl:=hfz hro;have hold:olds=(ao.cells.drop 0).take (l*z')/\0+l*z'<=ao.cells.length:=by
           unfold cP at holds;simp only[hi] at holds
           cases hb3:Nat.ble (Nat.add 0 (Nat.mul l z')) ao.cells.length with
           | false=>rw[hb3] at holds; cases holds
           | true=>rw[hb3] at holds; cases holds; exact⟨rfl,Nat.le_of_ble_eq_true hb3⟩
          have hvl:=bA hl.val;have hvo:dI ρ olds=some (vs0.take (l*z')):=by rw[hold.1]; simpa using qG (l*z') hl.val
          have own:w.ownsRow 0 e z' (.slice (some ⟨L.b,0,none⟩) l L.tot) l (vs0.take (l*z')):=by
           refine⟨by simp; omega,.inr ⟨L.b,L.tot,cur0,rfl,Nat.zero_le _,by rw[<- k2]; exact hblk,by omega,hl.most,by rw[<- hl.room,hez],?_⟩⟩;rw[<- hl.here,List.take_take]
           congr 1
           omega
          obtain⟨v',w',hrun,hown,hchg,hnxt⟩:=Aa (P:=P) (ty:=dst) (c:=Lx.tot-o) hT own hul hnews' hone g1 g2 (K:=λ v' w'=>w'.ownsRow 0 e z' v' (l+m) (vs0.take (l*z')++us)/\Chg w w' [L.b]/\Vv w (.slice (some ⟨L.b,0,none⟩) l L.tot) v') (λ v' w' h1 h2 h3=>⟨h1,h2,h3⟩);rcases hown.2 with⟨_,h0⟩|⟨g,cap,cur,rfl,_,hgg,hnc,hcm,hcs,htake⟩
          ·omega
          ·have hge:g=L.b\/w.heap.size<=g:=(hnxt g rfl).imp (λ h=>by simp[Value.ownBlock] at h; exact h.symm) id;have hst:=hr.OD i;have hdead:∀ (j:Nat) (ao' : AO) (L' : Loc),(h.put i none).get j=some (some ao')->ρ j=some L'->L'.b≠L.b:=λ j ao' L' hj hL'=>by
            rw[bL] at hj
            split at hj
            ·cases hj
            ·rename_i hji;exact hr.inj j i ao' ao L' L hji hj hi hL' hL
           have hq:=hst.Es hchg (λ f hf=>by
            simp at hf; subst hf;exact⟨hl.new,hdead⟩)
           have hni:n≠i:=λ e=>by rw[e,hi] at hn; cases hn
           have hn' : (h.put i none).get n=none:=by rw[bL,if_neg hni]; exact hn
           have hext:=Ext.dW (L:=⟨g,z',cap⟩) (bX hr hn);have hul2:us.length=m*z':=hul;have hnm:=hq.name hn' (ro:=false) (L:=⟨g,z',cap⟩) (T:=e) (cells:=olds++news) (cur:=cur) (vs:=vs0.take (l*z')++us)
            (by
              rcases hge with rfl|hge
              ·exact hl.new
              ·exact Nat.le_trans hr.aA.size hge) hgg (λ _=>rfl)
            (λ j ao' L' hj hL'=>by
             rcases hge with rfl|hge
             ·exact hdead j ao' L' hj hL'
             ·have:=hst.below hj hL';show L'.b≠g;omega)
            (lu (cG hext hvo) (cG hext hus)) (by
             have:(vs0.take (l*z')++us).length=(l+m)*z':=by rw[hown.1]
             rw[this]; exact htake) hcs.symm hcm
           refine⟨_,w',_,by simpa using hrun,hext,hnm,?_⟩;simp[rv,dW,hnc]
        ·cases hg
       ·cases hg
     ·cases hg
    ·cases hg
   ·cases hg
 ·cases hg
def W9:List AV->Option (List UInt8)
 | []=>some []
 | .int .u8 (.ofNat n) :: l=>match W9 l with
  | some m=>some (UInt8.ofNat n :: m)
  | none=>none
 | _=>none
theorem OM{ρ:Names}:∀ {l:List AV} {m:List UInt8} {vs:List Value},W9 l=some m->dI ρ l=some vs->∃ xs:List Int,vs=xs.map (Value.int .u8)/\m=xs.map λ n=>UInt8.ofNat n.toNat
 | [],m,vs,h,hv=>by cases h; cases hv; exact⟨[],rfl,rfl⟩
 | a :: l,m,vs,h,hv=>by
  obtain⟨v,us,rfl,h1,h2⟩:=aM hv;unfold W9 at h
  split at h
  ·rename_i heq; cases heq
  ·rename_i n l' heq
   cases heq
   split at h
   ·rename_i m' hm
    cases h
    obtain⟨xs,rfl,rfl⟩:=OM hm h2
    cases cw h1
    exact⟨(n:Int) :: xs,rfl,rfl⟩
   ·cases h
  ·cases h
def Ul(P:Program)(src dst:TypeId)(a:AV)(h:AH):Option AV:=match P.underlying src,P.underlying dst with
 | some (.slice e),some .string=>match P.underlying e,a with
  | some (.int .u8),.nils=>some (.str [])
  | some (.int .u8),.sli i o m 1=>match cP h i o m with
   | some az=>match W9 az with
    | some l=>some (.str l)
    | none=>none
   | none=>none
  | _,_=>none
 | _,_=>none
theorem Qr{P:Program}{src dst:TypeId}{a r:AV}{h:AH}(hg:Ul P src dst a h=some r){w0 w:World}{ρ:Names}(hr:fO w0 w ρ h){va:Value}(ha:rv ρ a=some va) :
  zU P w0 w ρ (convert src dst va) r h:=by
 unfold Ul at hg
 split at hg
 ·rename_i e hs hd
  split at hg
  ·rename_i he
   cases hg; cases ha
   exact⟨_,w,ρ,run_convert_bytes_nil (P:=P) w src e hs he 0 0 dst hd,Ext.refl _,hr,rfl⟩
  ·rename_i i o m he
   split at hg
   ·rename_i az haz
    split at hg
    ·rename_i l hl
     cases hg
     obtain⟨L,hL,_,_,rfl⟩:=dD ha;obtain⟨L',us,hL',hus,hul,hat⟩:=gX hr haz;obtain rfl:L=L':=Option.some.inj (hL.symm.trans hL');obtain⟨xs,rfl,rfl⟩:=OM hl hus;have hcell:∀ i,i<m->w.cell? ⟨L.b,o+i,none⟩=some (.int .u8 (xs.getD i 0)):=by
      intro i hi;have key:∀ (l:List Value) (k:Nat),af w ⟨L.b,o,none⟩ k l->∀ j u,l[j]?=some u->w.cell? ((⟨L.b,o,none⟩:Addr).add (k+j))=some u:=by
       intro l
       induction l with
       | nil=>intro k _ j u hj; simp at hj
       | cons a l ih =>
        intro k hc j u hj
        cases j with
        | zero=>simp at hj; subst hj; exact hc.1
        | succ j =>
         have:=ih (k+1) hc.2 j u (by simpa using hj);rw[show k+(j+1)=k+1+j by omega];exact this
      have hlt:i<xs.length:=by simp at hul; omega
      have:=key _ 0 hat i (.int .u8 xs[i]) (by simp[hlt]);rw[bq] at this;simp only[Nat.zero_add] at this;rw[this];simp[hlt]
     have hrun:=run_convert_bytes_arg (P:=P) w src e hs he L.b o m (L.tot-o) xs (by simpa using hul) hcell dst hd;refine⟨.string (strOfNums xs),w,ρ,by simpa using hrun,Ext.refl _,hr,rfl⟩
    ·cases hg
   ·cases hg
  ·cases hg
 ·cases hg
def pJ:List UInt8->List AV
 | []=>[]
 | b :: l=>.int .u8 (.ofNat b.toNat) :: pJ l
theorem rq(ρ:Names):∀ l:List UInt8,dI ρ (pJ l)=some (Lib.byteCells l)
 | []=>rfl
 | _ :: l=>fG rfl (rq ρ l)
theorem uz{P:Program}{w:World}{t u ty e:TypeId}{z:Value}(hT:iz P t e z 1 1)(hz:z=.int .u8 0)(hu:P.underlying u=some .string){v:Value}{n:Nat}{xs:List Value}(own:w.ownsRow 0 e 1 v n xs){s:ByteArray}(hb:n+s.size<=140737488355328){K:KP}(k:∀ v' w',w'.ownsRow 0 e 1 v' (n+s.size) (xs++Lib.strCells s)->Chg w w' v.ownBlock.toList->Vv w v v'->K v' w') :
  bp P (Builtin.append_ #[t,u] ty #[v,.string s]) w K:=by
 obtain⟨i,hi,hz',hs,hby⟩:=hT.i;subst hz;have hml:n+s.size<=maxLen:=by unfold maxLen; omega
 obtain⟨v',w',hr,ho,hg,_⟩:=Lib.run_append_own_string (P:=P) w 0 t u ty e i hT.u hu hi hz' hs hby v n xs own s hml hb (Nat.zero_le _);refine⟨v',w',hr,k v' w' ho (Chg.grown hg) ?_⟩;rcases own.2 with⟨rfl,rfl⟩|⟨g,cap,cur,rfl,_,hgg,hnc,hcm,hcs,htake⟩
 ·have own' : w.ownsRow w.heap.size e 1 (.slice none 0 0) 0 xs:=⟨own.1,.inl ⟨rfl,rfl⟩⟩;obtain⟨v2,w2,hr2,ho2,_⟩:=Lib.run_append_own_string (P:=P) w w.heap.size t u ty e i hT.u hu hi hz' hs hby _ 0 xs own' s hml hb (Nat.le_refl _);rw[hr] at hr2
  cases hr2
  exact λ j hj=>.inr (ho2.lt j hj).1
 ·by_cases hroom:n+s.size<=cap
  ·have hr2:=Lib.run_append_room_string (P:=P) w t u ty e i hT.u hu hi hs g n cap cur hgg s hroom (by omega);rw[hr] at hr2
   cases hr2
   exact λ j hj=>.inl hj
  ·have holds:∀ j u,xs[j]?=some u->w.cell? ((⟨g,0,none⟩:Addr).add j)=some u:=own.cells (g:=g) rfl;have hr2:=Lib.run_append_grow_string (P:=P) w t u ty e i (.int .u8 0) hT.u hu hi hz' ⟨g,0,none⟩ n cap xs (by rw[hs]; exact own.1) holds s (by omega) (by omega) (by rw[hby]; exact growslice_fits (by omega) (by omega));rw[hr] at hr2
   cases hr2
   intro j hj;simp[Value.ownBlock] at hj;exact .inr (by omega)
def Jz(P:Program)(e:TypeId):Bool:=match P.info? e with
 | some i=>match i.zero with
  | some (.int .u8 (.ofNat 0))=>true
  | _=>false
 | none=>false
theorem Ng{P:Program}{e:TypeId}(h:Jz P e=true):∃ i,P.info? e=some i/\i.zero=some (.int .u8 0):=by
 unfold Jz at h
 split at h
 ·rename_i i hi
  split at h
  ·rename_i hz;exact⟨i,hi,hz⟩
  ·cases h
 ·cases h
def P4(P:Program)(tys:List TypeId)(s:AV)(x:List UInt8)(h:AH)(n:Nat):Option (AV×AH):=match tys with
 | [t,u]=>match P.underlying u,At P t,h.get n with
  | some .string,some (e,sz,by_,_),none=>cond (Nat.beq sz 1&&Nat.beq by_ 1&&Jz P e) (match s,x with
   | .nils,[]=>some (.nils,h)
   | .nils,b :: l=>cond (Nat.ble (b :: l).length 140737488355328) (some (.sli n 0 (b :: l).length 1,h.put n (some ⟨e,pJ (b :: l),false⟩))) none
   | .sli i o l z,[]=>some (.sli i o l z,h)
   | .sli i 0 l z,b :: x=>match cP h i 0 (Nat.mul l z),h.get i with
    | some olds,some (some ao)=>cond (Nat.beq z 1&&not ao.ro&&Nat.beq ao.T e&&Nat.ble (Nat.add l (b :: x).length) 140737488355328) (some (.sli n 0 (Nat.add l (b :: x).length) 1,(h.put i none).put n (some ⟨e,olds++pJ (b :: x),false⟩))) none
    | _,_=>none
   | _,_=>none) none
  | _,_,_=>none
 | _=>none
theorem qP(x:List UInt8):Lib.strCells ⟨x.toArray⟩=Lib.byteCells x:=by simp[Lib.strCells,Lib.byteCells]
theorem uy{P:Program}{w:World}{t u ty e:TypeId}{z:Value}{sz by_:Nat}(hT:iz P t e z sz by_)(hu:P.underlying u=some .string){base:OA}{n c:Nat}(hn:n<=c):(Builtin.append_ #[t,u] ty #[.slice base n c,.string ⟨#[]⟩]).run P w=.ok (.slice base n c) w:=by
 obtain⟨i,hi,hz,hs,hby⟩:=hT.i;have hsz:dw P e=some sz:=by simp[dw,hi,hs]
 have h0:(⟨#[]⟩:ByteArray).size=0:=rfl;have hf:=Lib.run_firstCells_string (P:=P) w sz ⟨#[]⟩;rw[h0] at hf;have hc:(Lib.strCells ⟨#[]⟩).toArray = #[]:=rfl;rw[hc] at hf
 cases base with
 | none=>simp[Builtin.append_,aD hT.u,aD hu,bT hsz,Builtin.lenOf,hn,h0,hf]
 | some a=>simp[Builtin.append_,aD hT.u,aD hu,bT hsz,Builtin.lenOf,hn,h0,hf,storeCells]
theorem P5{P:Program}{tys:Array TypeId}{dst:TypeId}{s r:AV}{x:List UInt8}{h h' : AH}{n:Nat}(hg:P4 P tys.toList s x h n=some (r,h')){w0 w:World}{ρ:Names}(hr:fO w0 w ρ h){vs:Value}(hs:rv ρ s=some vs) :
  zU P w0 w ρ (Builtin.append_ tys dst #[vs,.string ⟨x.toArray⟩]) r h':=by
 unfold P4 at hg
 split at hg
 ·rename_i t u htys;have htys' : tys = #[t,u]:=by rw[<- htys]
  subst htys'
  split at hg
  ·rename_i e sz by_ zs hu he hn
   cases hb:(Nat.beq sz 1&&Nat.beq by_ 1&&Jz P e) with
   | false=>rw[hb] at hg; cases hg
   | true =>
    rw[hb] at hg;simp only[cond_true] at hg;simp only[Bool.and_eq_true] at hb;obtain⟨⟨q1,q2⟩,q3⟩:=hb;obtain rfl:=beq_iff.1 q1;obtain rfl:=beq_iff.1 q2;obtain⟨z0,hT,hzs⟩:=(pW he).slT;have hz0:z0=.int .u8 0:=by
     obtain⟨i,hi,hz,_⟩:=hT.i;obtain⟨i',hi',hz'⟩:=Ng q3;obtain rfl:i=i':=Option.some.inj (hi.symm.trans hi');exact Option.some.inj (hz.symm.trans hz')
    split at hg
    ·cases hg; cases hs
     exact⟨_,w,ρ,uy hT hu (Nat.le_refl _),Ext.refl _,hr,rfl⟩
    ·rename_i b l
     cases hb2:Nat.ble (b :: l).length 140737488355328 with
     | false=>rw[hb2] at hg; cases hg
     | true =>
      rw[hb2] at hg
      cases hg; cases hs
      have g1:=Nat.le_of_ble_eq_true hb2;have own:w.ownsRow 0 e 1 (.slice none 0 0) 0 []:=⟨by simp,.inl ⟨rfl,rfl⟩⟩;have hsz:(⟨(b :: l).toArray⟩:ByteArray).size=(b :: l).length:=by simp[ByteArray.size]
      obtain⟨v',w',hrun,hown,hchg,hnxt⟩:=uz (P:=P) (ty:=dst) hT hz0 hu own (s:=⟨(b :: l).toArray⟩) (by rw[hsz]; omega) (K:=λ v' w'=>w'.ownsRow 0 e 1 v' (0+(⟨(b :: l).toArray⟩:ByteArray).size) ([]++Lib.strCells ⟨(b :: l).toArray⟩)/\Chg w w' []/\Vv w (.slice none 0 0) v') (λ v' w' h1 h2 h3=>⟨h1,h2,h3⟩);rw[hsz,qP] at hown;rcases hown.2 with⟨_,h0⟩|⟨g,cap,cur,rfl,_,hgg,hnc,hcm,hcs,htake⟩
      ·simp at h0
      ·have hge:w.heap.size<=g:=(hnxt g rfl).resolve_left (λ h=>by cases h);simp only[Nat.zero_add,List.nil_append] at hnc htake hrun;have hext:=Ext.dW (L:=⟨g,1,cap⟩) (bX hr hn);have:=hr.new hn (L:=⟨g,1,cap⟩) (T:=e) (cells:=pJ (b :: l)) (cur:=cur) (vs:=Lib.byteCells (b :: l)) (ro:=false) hchg hgg (λ _=>rfl) hge (rq _ _) (by rw[Lib.byteCells_length]; simpa using htake) hcs.symm hcm;exact⟨_,w',_,hrun,hext,this,by simp[rv,dW]; simpa using hnc⟩
    ·cases hg
     obtain⟨L,hL,hle,hz,rfl⟩:=dD hs;exact⟨_,w,ρ,uy hT hu (by omega),Ext.refl _,hr,hs⟩
    ·rename_i i l z' b x
     split at hg
     ·rename_i olds ao holds hi
      cases hb2:(Nat.beq z' 1&&not ao.ro&&Nat.beq ao.T e&&Nat.ble (Nat.add l (b :: x).length) 140737488355328) with
      | false=>rw[hb2] at hg; cases hg
      | true =>
       rw[hb2] at hg
       cases hg
       simp only[Bool.and_eq_true] at hb2;obtain⟨⟨⟨k1,hro⟩,k2⟩,k3⟩:=hb2;have hro:ao.ro=false:=by cases hq:ao.ro with
        | false=>rfl
        | true=>rw[hq] at hro; cases hro
       obtain rfl:=beq_iff.1 k1;have k2:=beq_iff.1 k2;have g1:l+(b :: x).length<=140737488355328:=Nat.le_of_ble_eq_true k3;obtain⟨L,hL,hle,hez,rfl⟩:=dD hs;obtain⟨L1,cur0,vs0,hl⟩:=hr.live i ao hi;obtain rfl:L=L1:=Option.some.inj (hL.symm.trans hl.at_);obtain⟨fz,hblk,hfz⟩:=hl.blk;obtain rfl:=hfz hro;have hold:olds=(ao.cells.drop 0).take (l*1)/\0+l*1<=ao.cells.length:=by
        unfold cP at holds;simp only[hi] at holds
        cases hb3:Nat.ble (Nat.add 0 (Nat.mul l 1)) ao.cells.length with
        | false=>rw[hb3] at holds; cases holds
        | true=>rw[hb3] at holds; cases holds; exact⟨rfl,Nat.le_of_ble_eq_true hb3⟩
       have hvl:=bA hl.val;have hvo:dI ρ olds=some (vs0.take (l*1)):=by rw[hold.1]; simpa using qG (l*1) hl.val
       have own:w.ownsRow 0 e 1 (.slice (some ⟨L.b,0,none⟩) l L.tot) l (vs0.take (l*1)):=by
        refine⟨by simp; omega,.inr ⟨L.b,L.tot,cur0,rfl,Nat.zero_le _,by rw[<- k2]; exact hblk,by omega,hl.most,by rw[<- hl.room,hez],?_⟩⟩;rw[<- hl.here,List.take_take]
        congr 1
        omega
       have hsz:(⟨(b :: x).toArray⟩:ByteArray).size=(b :: x).length:=by simp[ByteArray.size]
       obtain⟨v',w',hrun,hown,hchg,hnxt⟩:=uz (P:=P) (ty:=dst) hT hz0 hu own (s:=⟨(b :: x).toArray⟩) (by rw[hsz]; exact g1) (K:=λ v' w'=>w'.ownsRow 0 e 1 v' (l+(⟨(b :: x).toArray⟩:ByteArray).size) (vs0.take (l*1)++Lib.strCells ⟨(b :: x).toArray⟩)/\Chg w w' [L.b]/\Vv w (.slice (some ⟨L.b,0,none⟩) l L.tot) v') (λ v' w' h1 h2 h3=>⟨h1,h2,h3⟩);rw[hsz,qP] at hown;rcases hown.2 with⟨_,h0⟩|⟨g,cap,cur,rfl,_,hgg,hnc,hcm,hcs,htake⟩
       ·simp at h0
       ·have hge:g=L.b\/w.heap.size<=g:=(hnxt g rfl).imp (λ h=>by simp[Value.ownBlock] at h; exact h.symm) id;have hst:=hr.OD i;have hdead:∀ (j:Nat) (ao' : AO) (L' : Loc),(h.put i none).get j=some (some ao')->ρ j=some L'->L'.b≠L.b:=λ j ao' L' hj hL'=>by
         rw[bL] at hj
         split at hj
         ·cases hj
         ·rename_i hji;exact hr.inj j i ao' ao L' L hji hj hi hL' hL
        have hq:=hst.Es hchg (λ f hf=>by
         simp at hf; subst hf;exact⟨hl.new,hdead⟩)
        have hni:n≠i:=λ e=>by rw[e,hi] at hn; cases hn
        have hn' : (h.put i none).get n=none:=by rw[bL,if_neg hni]; exact hn
        have hext:=Ext.dW (L:=⟨g,1,cap⟩) (bX hr hn);have hnm:=hq.name hn' (ro:=false) (L:=⟨g,1,cap⟩) (T:=e) (cells:=olds++pJ (b :: x)) (cur:=cur) (vs:=vs0.take (l*1)++Lib.byteCells (b :: x))
         (by
           rcases hge with rfl|hge
           ·exact hl.new
           ·exact Nat.le_trans hr.aA.size hge) hgg (λ _=>rfl)
         (λ j ao' L' hj hL'=>by
          rcases hge with rfl|hge
          ·exact hdead j ao' L' hj hL'
          ·have:=hst.below hj hL';show L'.b≠g;omega)
         (lu (cG hext hvo) (rq _ _)) (by
          have:(vs0.take (l*1)++Lib.byteCells (b :: x)).length=(l+(b :: x).length)*1:=by rw[hown.1]
          rw[this]; exact htake) hcs.symm hcm
        refine⟨_,w',_,by simpa using hrun,hext,hnm,?_⟩;simp only[rv,dW,if_true,Option.bind_some];rw[if_pos]
        ·simp
        ·refine⟨?_,trivial⟩;show 0+(l+(b :: x).length)<=cap;omega
     ·cases hg
    ·cases hg
  ·cases hg
 ·cases hg
def Ue(P:Program)(t:TypeId)(d s:AV)(h:AH):Option (AV×AH):=match d,s with
 | .nils,.nils=>some (.int .i64 (.ofNat 0),h)
 | .nils,.sli _ _ _ _=>some (.int .i64 (.ofNat 0),h)
 | .sli _ _ _ _,.nils=>some (.int .i64 (.ofNat 0),h)
 | .sli i o l z,.sli j p m y=>match At P t,h.get i,cP h j (Nat.mul p y) (Nat.mul (cond (Nat.ble m l) m l) y) with
  | some (_,sz,_,_),some (some ao),some news=>cond (Nat.beq z sz&&Nat.beq y sz&&not ao.ro&&Ei news&&Nat.ble (Nat.add (Nat.mul o z) news.length) ao.cells.length)
    (some (.int .i64 (.ofNat (cond (Nat.ble m l) m l)),h.put i (some ⟨ao.T,setAt ao.cells (Nat.mul o z) news,ao.ro⟩))) none
  | _,_,_=>none
 | _,_=>none
theorem aO{w:World}{a:Addr}:∀ (l:List Value) (k:Nat),af w a k l->∀ j u,l[j]?=some u->w.cell? (a.add (k+j))=some u
 | [],_,_,j,u,hj=>by simp at hj
 | x :: l,k,hc,j,u,hj=>by
  cases j with
  | zero=>simp at hj; subst hj; exact hc.1
  | succ j =>
   have:=aO l (k+1) hc.2 j u (by simpa using hj);rw[show k+(j+1)=k+1+j by omega];exact this
theorem Qa{P:Program}{tys:Array TypeId}{t dst:TypeId}{d s r:AV}{h h' : AH}(hg:Ue P t d s h=some (r,h'))(ht:tys[0]?=some t)(hsl:∃ e,P.underlying t=some (.slice e)/\∃ n,dw P e=some n){w0 w:World}{ρ:Names}(hr:fO w0 w ρ h){vd vs:Value}(hd:rv ρ d=some vd)(hs:rv ρ s=some vs):zU P w0 w ρ (Builtin.copy_ tys dst #[vd,vs]) r h':=by
 obtain⟨e,hu,en,hen⟩:=hsl;have zero:∀ {vd vs:Value},(∃ b n c,vd=.slice b n c)->(∃ b n c,vs=.slice b n c)->(vd=.slice none 0 0\/vs=.slice none 0 0)->(Builtin.copy_ tys dst #[vd,vs]).run P w=.ok (.int .i64 0) w:=by
  rintro vd vs ⟨b,n,c,rfl⟩ ⟨b',n',c',rfl⟩ hz;have hmin:Nat.min n' n=0:=by rcases hz with hz|hz<;>cases hz<;>simp
  have hl0:∀ a:Addr,(loadCells a 0).run P w=.ok #[] w:=λ a=>by simp[loadCells,loadCellsFrom]
  cases b<;>cases b' <;> simp[Builtin.copy_,ht,aD hu,Builtin.lenOf,bT hen,hmin,Builtin.firstCells,hl0,storeCells,goInt]
 unfold Ue at hg
 split at hg
 ·cases hg; cases hd; cases hs
  exact⟨_,w,ρ,zero ⟨_,_,_,rfl⟩ ⟨_,_,_,rfl⟩ (.inl rfl),Ext.refl _,hr,rfl⟩
 ·cases hg; cases hd
  obtain⟨L,_,_,_,rfl⟩:=dD hs;exact⟨_,w,ρ,zero ⟨_,_,_,rfl⟩ ⟨_,_,_,rfl⟩ (.inl rfl),Ext.refl _,hr,rfl⟩
 ·cases hg; cases hs
  obtain⟨L,_,_,_,rfl⟩:=dD hd;exact⟨_,w,ρ,zero ⟨_,_,_,rfl⟩ ⟨_,_,_,rfl⟩ (.inr rfl),Ext.refl _,hr,rfl⟩
 ·rename_i i o l z j p m y
  split at hg
  ·rename_i e1 sz by_ zs ao news he hi hnews;generalize hk:cond (Nat.ble m l) m l=k at hg hnews;have hkmin:Nat.min m l=k:=by
    rw[<- hk];show min m l=_
    cases hb:Nat.ble m l with
    | true=>simp[Nat.min_eq_left (Nat.le_of_ble_eq_true hb)]
    | false =>
     have : ¬ m<=l:=λ h=>by rw[Nat.ble_eq_true_of_le h] at hb; cases hb
     simp[Nat.min_eq_right (Nat.le_of_not_le this)]
   cases hb:(Nat.beq z sz&&Nat.beq y sz&&not ao.ro&&Ei news&&Nat.ble (Nat.add (Nat.mul o z) news.length) ao.cells.length) with
   | false=>rw[hb] at hg; cases hg
   | true =>
    rw[hb] at hg
    cases hg
    simp only[Bool.and_eq_true] at hb;obtain⟨⟨⟨⟨q1,q2⟩,q3⟩,q4⟩,q5⟩:=hb;obtain rfl:=beq_iff.1 q1;have q2:=beq_iff.1 q2;subst q2;have hro:ao.ro=false:=by cases hq:ao.ro with
     | false=>rfl
     | true=>rw[hq] at q3; cases q3
    have q5:o*y+news.length<=ao.cells.length:=Nat.le_of_ble_eq_true q5;obtain⟨z0,hT,hzs⟩:=(pW he).slT;obtain⟨i0,hi0,hz0,hs0,hby0⟩:=hT.i;obtain⟨L,hL,hle,hez,rfl⟩:=dD hd;obtain⟨Lx,hLx,hlex,hezx,rfl⟩:=dD hs;obtain⟨L1,cur,vs,hl⟩:=hr.live i ao hi;obtain rfl:L=L1:=Option.some.inj (hL.symm.trans hl.at_);obtain⟨fz,hblk,hfz⟩:=hl.blk;obtain rfl:=hfz hro;obtain⟨Lx',us,hLx',hus,hul,hat⟩:=gX hr hnews;obtain rfl:Lx=Lx':=Option.some.inj (hLx.symm.trans hLx');have hul:us.length=k*y:=hul;have hat:af w ⟨Lx.b,p*y,none⟩ 0 us:=hat;have hvl:=bA hl.val;have hnl:=bA hus;have hone:=zO q4 hus;have hcur:vs.length<=cur.toList.length:=by rw[<- hl.here]; simp; omega
    have hfit:o*y+0+us.length<=cur.size:=by simp at hcur; omega
    have hsz:dw P e1=some y:=by simp[dw,hi0,hs0]
    have hload:(loadCells ⟨Lx.b,p*y,none⟩ (k*y)).run P w=.ok us.toArray w:=by
     rw[<- hul];have:=ru (P:=P) us 0 #[] hat;simpa[loadCells] using this
    refine⟨.int .i64 k,_,ρ,?_,Ext.refl _,hr.rewrite hi hL (w':=w.setRow L.b (setAt cur.toList (o*y) us).toArray) (cells:=setAt ao.cells (o*y) news) (cur':=(setAt cur.toList (o*y) us).toArray) (vs':=setAt vs (o*y) us) ?_ ?_ (mO (o*y) hl.val hus) ?_ ?_,rfl⟩
    ·simp only[Builtin.copy_,ht,aD hT.u,Sem.run_bind,Result.andThen_ok,Builtin.lenOf,Sem.run_pure,hkmin,bT hsz,Builtin.firstCells,hload,List.getElem?_toArray,List.getElem?_cons_zero,List.getElem?_cons_succ];have hst:=run_storeCells_at P L.b (o*y) ao.T us 0 cur w hblk hfit hone;simp only[hst,Result.andThen_ok,goInt];rw[vT _ _ _ (by simpa using hfit)]
     simp
    ·exact⟨by simp[World.setRow],λ k _ hn=>setRow_other w L.b k _ (by simpa using hn),⟨rfl,rfl,rfl⟩⟩
    ·exact setRow_heap w L.b cur _ ao.T _ hblk
    ·rw[cY,nR _ _ _ _ (by omega)];rw[hl.here]
    ·simp only[List.size_toArray,cY];simpa using hl.room
  ·cases hg
 ·cases hg
def R1:List AV->Option (List UInt8)
 | []=>some []
 | .int .u8 (.ofNat n) :: l=>match R1 l with
  | some m=>cond (Nat.ble n 255) (some (UInt8.ofNat n :: m)) none
  | none=>none
 | _=>none
theorem Kj{ρ:Names}:∀ {l:List AV} {m:List UInt8} {vs:List Value},R1 l=some m->dI ρ l=some vs->vs=Lib.byteCells m
 | [],m,vs,h,hv=>by cases h; cases hv; rfl
 | a :: l,m,vs,h,hv=>by
  obtain⟨v,us,rfl,h1,h2⟩:=aM hv;unfold R1 at h
  split at h
  ·rename_i heq; cases heq
  ·rename_i n l' heq
   cases heq
   split at h
   ·rename_i m' hm
    cases hb:Nat.ble n 255 with
    | false=>rw[hb] at h; cases h
    | true =>
     rw[hb] at h
     cases h
     have:=Nat.le_of_ble_eq_true hb
     cases cw h1
     rw[Kj hm h2];have e:(UInt8.ofNat n).toNat=n:=by simp; omega
     simp[Lib.byteCells,e]
   ·cases h
  ·cases h
def Un(a:AV):Option AV:=match a with
 | .nils=>some .nilp
 | .sli i o (_+1) z=>some (.ptr i (Nat.mul o z))
 | _=>none
theorem Qt{P:Program}{ρ:Names}{tys:Array TypeId}{ty:TypeId}{a r:AV}{v:Value}(hg:Un a=some r)(ha:rv ρ a=some v):gV P ρ (Builtin.unsafeSliceData_ tys ty #[v]) r:=by
 unfold Un at hg
 split at hg
 ·cases hg; cases ha
  exact⟨_,rfl,λ w=>Lib.run_unsafeSliceData_nil w tys ty 0 0⟩
 ·rename_i i o l z
  cases hg
  obtain⟨L,hL,hle,_,rfl⟩:=dD ha;exact⟨_,by simp only[rv,hL,Option.map_some]; rfl,λ w=>Lib.run_unsafeSliceData_row w tys ty _ _ _ (by omega)⟩
 ·cases hg
def Uo(P:Program)(tys:List TypeId)(p m:AV)(h:AH):Option (AV×AH):=match tys,m with
 | [_,_],.int .i64 (.ofNat 0)=>match p with
  | .nilp=>some (.str [],h)
  | .ptr _ _=>some (.str [],h)
  | _=>none
 | [pt,_],.int .i64 (.ofNat (k+1))=>match p,P.underlying pt with
  | .ptr i 0,some (.pointer e)=>match cP h i 0 (Nat.succ k),h.get i with
   | some az,some (some ao)=>match R1 az with
    | some l=>cond (Nat.beq ao.T e&&Nat.beq (P.cellsOf e) 1&&Nat.ble (Nat.succ k) 9223372036854775807) (some (.str l,h.put i none)) none
    | none=>none
   | _,_=>none
  | _,_=>none
 | _,_=>none
theorem Chg.freeze(w:World)(b o n:Nat):Chg w (w.freeze ⟨b,o,none⟩ n) [b]:=by
 unfold World.freeze
 split
 ·exact Chg.refl _ _
 ·exact⟨by simp,λ k _ hk=>by
   simp only[Array.getElem?_modify];rw[if_neg (by simpa using λ e=>hk (by simp[e]))],⟨rfl,rfl,rfl⟩⟩
theorem Qu{P:Program}{tys:Array TypeId}{ty:TypeId}{p m r:AV}{h h' : AH}(hg:Uo P tys.toList p m h=some (r,h')){w0 w:World}{ρ:Names}(hr:fO w0 w ρ h){vp vm:Value}(hp:rv ρ p=some vp)(hm:rv ρ m=some vm) :
  zU P w0 w ρ (Builtin.unsafeString_ tys ty #[vp,vm]) r h':=by
 unfold Uo at hg
 split at hg
 ·rename_i pt it htys;have htys' : tys = #[pt,it]:=by rw[<- htys]
  subst htys'
  cases cw hm
  split at hg
  ·cases hg; cases hp
   exact⟨_,w,ρ,Lib.run_unsafeString_none w pt it ty none,Ext.refl _,hr,rfl⟩
  ·cases hg
   obtain⟨L,_,rfl⟩:=gu hp;exact⟨_,w,ρ,Lib.run_unsafeString_none w pt it ty _,Ext.refl _,hr,rfl⟩
  ·cases hg
 ·rename_i pt it k htys;have htys' : tys = #[pt,it]:=by rw[<- htys]
  subst htys'
  cases cw hm
  split at hg
  ·rename_i i e hpt
   split at hg
   ·rename_i az ao haz hi
    split at hg
    ·rename_i l hl
     cases hb:(Nat.beq ao.T e&&Nat.beq (P.cellsOf e) 1&&Nat.ble (Nat.succ k) 9223372036854775807) with
     | false=>rw[hb] at hg; cases hg
     | true =>
      rw[hb] at hg
      cases hg
      simp only[Bool.and_eq_true] at hb;obtain⟨⟨q1,q2⟩,q3⟩:=hb;have q1:=beq_iff.1 q1;have q2:=beq_iff.1 q2;have q3:=Nat.le_of_ble_eq_true q3;obtain⟨L,hL,rfl⟩:=gu hp;obtain⟨L1,cur,vs,hlv⟩:=hr.live i ao hi;obtain rfl:L=L1:=Option.some.inj (hL.symm.trans hlv.at_);obtain⟨fz,hblk,_⟩:=hlv.blk;obtain⟨L',us,hL',hus,hul,hat⟩:=gX hr haz;obtain rfl:L=L':=Option.some.inj (hL.symm.trans hL');have hbc:=Kj hl hus;subst hbc;have hll:l.length=k+1:=by rw[<- Lib.byteCells_length,hul]
      have hcell:∀ j x,l[j]?=some x->w.cell? ((⟨L.b,0,none⟩:Addr).add j)=some (.int .u8 x.toNat):=λ j x hj=>by
       have:=aO _ 0 hat j (.int .u8 x.toNat) (by simp[Lib.byteCells,hj]);simpa using this
      have hsh:w.shape? L.b=some (e,cur.size):=by simp[World.shape?,hblk,q1]
      have hlen:l.length<=cur.size:=by
       have hc:=aO _ 0 hat k (.int .u8 (l.getD k 0).toNat) (by
        have hk:k<l.length:=by omega
        simp[Lib.byteCells,hk])
       rw[bq,Nat.zero_add,jR,hblk,fu] at hc;have:=(Array.getElem?_eq_some_iff.1 hc).1;omega
      have hrun:=Lib.run_unsafeString_row (P:=P) w pt it ty e hpt q2 L.b cur.size hsh l (by intro h0; rw[h0] at hll; simp at hll) hlen (by omega) hcell;rw[hll] at hrun;have hst:=hr.OD i;refine⟨_,_,ρ,hrun,Ext.refl _,hst.Es (Chg.freeze w L.b 0 (k+1)) (λ f hf=>?_),rfl⟩;simp at hf; subst hf;refine⟨hlv.new,λ j ao' L' hj hL'=>?_⟩;rw[bL] at hj
      split at hj
      ·cases hj
      ·rename_i hji;exact hr.inj j i ao' ao L' L hji hj hi hL' hL
    ·cases hg
   ·cases hg
  ·cases hg
 ·cases hg
def Ud(P:Program)(src dst:TypeId)(l:List UInt8)(h:AH)(n:Nat):Option (AV×AH):=match P.underlying src,P.underlying dst,h.get n with
 | some .string,some (.slice e),none=>match P.underlying e with
  | some (.int .u8)=>cond (Nat.ble l.length 4294967296) (some (.sli n 0 l.length 1,h.put n (some ⟨e,pJ l,true⟩))) none
  | _=>none
 | _,_,_=>none
theorem P8{P:Program}{src dst:TypeId}{l:List UInt8}{r:AV}{h h' : AH}{n:Nat}(hg:Ud P src dst l h n=some (r,h')){w0 w:World}{ρ:Names}(hr:fO w0 w ρ h) :
  zU P w0 w ρ (convert src dst (.string ⟨l.toArray⟩)) r h':=by
 unfold Ud at hg
 split at hg
 ·rename_i e hs hd hn
  split at hg
  ·rename_i he
   cases hb:Nat.ble l.length 4294967296 with
   | false=>rw[hb] at hg; cases hg
   | true =>
    rw[hb] at hg
    cases hg
    have hle:=Nat.le_of_ble_eq_true hb;have hsz:(⟨l.toArray⟩:ByteArray).size=l.length:=by simp[ByteArray.size]
    have hge:=grownCap_ge w (⟨l.toArray⟩:ByteArray).size 0 e;have hrun:=Lib.run_convert_string_bytes (P:=P) w src dst e ⟨l.toArray⟩ hs hd he;have hcs:(Lib.bytesCells w e ⟨l.toArray⟩).size=grownCap w (⟨l.toArray⟩:ByteArray).size 0 e:=by
     simp only[Lib.bytesCells,Array.size_append,Array.size_map,Array.size_replicate];have e1:l.toArray.size=l.length:=by simp
     have e2:(⟨l.toArray⟩:ByteArray).data.size=l.length:=by simp
     omega
    have hchg:Chg w (Lib.bytesWorld w e ⟨l.toArray⟩) []:=⟨by rw[Lib.bytesWorld_size]; omega,λ j hj _=>Lib.bytesWorld_at_old w e _ j hj,by
     unfold Lib.bytesWorld World.freeze
     split<;>exact⟨rfl,rfl,rfl⟩⟩
    have hext:=Ext.dW (L:=⟨w.heap.size,1,grownCap w (⟨l.toArray⟩:ByteArray).size 0 e⟩) (bX hr hn);have hnew:=hr.new hn (ro:=true) (T:=e) (L:=⟨w.heap.size,1,grownCap w (⟨l.toArray⟩:ByteArray).size 0 e⟩) (cells:=pJ l) (vs:=Lib.byteCells l) hchg (Lib.bytesWorld_at_new w e ⟨l.toArray⟩) (λ h=>by cases h) (Nat.le_refl _) (rq _ _)
     (by
      simp only[Lib.bytesCells,Array.toList_append];have e1:((⟨l.toArray⟩:ByteArray).data.map λ b=>Value.int .u8 b.toNat).toList=Lib.byteCells l:=by simp[Lib.byteCells]
      rw[e1,List.take_left]) (by rw[Nat.mul_one,hcs]) (grownCap_le_maxLen w _ 0 e (by rw[hsz]; unfold maxLen; omega))
    refine⟨_,_,_,hrun,hext,hnew,?_⟩;simp only[rv,dW,if_true,Option.bind_some];rw[if_pos]
    ·simp[hsz]
    ·exact⟨by show 0+l.length<=_; omega,trivial⟩
  ·cases hg
 ·cases hg
def XF(P:Program)(src dst:TypeId)(a:AV)(h:AH):Option AV:=match a with
 | .ptr i 0=>match h.get i with
  | some (some ao)=>match P.underlying src,P.underlying dst with
   | some (.pointer t),some .unsafePointer=>match P.info? t,ao.cells with
    | some j,_ :: _=>cond (Nat.beq j.size 0) none (some (.ptr i 0))
    | _,_=>none
   | some .unsafePointer,some (.pointer u)=>match P.info? u with
    | some j=>cond (Nat.beq ao.T u&&Nat.ble 1 j.size&&Nat.ble j.size ao.cells.length) (some (.ptr i 0)) none
    | none=>none
   | _,_=>none
  | _=>none
 | _=>none
theorem Gf{P:Program}{e:TypeId}{c:Nat}(hc:P.cellsOf e=c)(h0:0<c)(count:Nat)(hn:1<=count):liesAt P P.depth e count 0 e 1=true:=by
 have hd:P.depth=(2*(P.types.size+Made.depth)+1)+1:=rfl;rw[hd];simp only[liesAt,Bool.or_eq_true]
 left
 rw[hd];have h1:c≠0:=by omega
 simp[rowAt,hc,h1,hn,sameLayout]
theorem Um{P:Program}{src dst:TypeId}{a r:AV}{h:AH}(hg:XF P src dst a h=some r){w0 w:World}{ρ:Names}(hr:fO w0 w ρ h){va:Value}(ha:rv ρ a=some va):zU P w0 w ρ (convert src dst va) r h:=by
 unfold XF at hg
 split at hg
 ·rename_i i
  split at hg
  ·rename_i ao hi;obtain⟨L,hL,rfl⟩:=gu ha;obtain⟨L1,cur,vs,hlv⟩:=hr.live i ao hi;obtain rfl:L=L1:=Option.some.inj (hL.symm.trans hlv.at_);obtain⟨fz,hblk,_⟩:=hlv.blk;have hvl:=bA hlv.val;have hcur:vs.length<=cur.size:=by
    have:vs.length<=cur.toList.length:=by rw[<- hlv.here]; simp; omega
    simpa using this
   have hsh:w.shape? L.b=some (ao.T,cur.size):=by simp[World.shape?,hblk]
   split at hg
   ·rename_i t hs hd
    split at hg
    ·rename_i j c cs hj hcs
     cases hb:Nat.beq j.size 0 with
     | true=>rw[hb] at hg; cases hg
     | false =>
      rw[hb] at hg
      cases hg
      have hj0:j.size≠0:=λ e=>by rw[e] at hb; cases hb
      exact⟨_,w,ρ,Lib.run_to_unsafe w ⟨L.b,0,none⟩ hs hd hj hj0 hsh (by show 0<cur.size; rw[hcs] at hvl; simp at hvl; omega),Ext.refl _,hr,ha⟩
    ·cases hg
   ·rename_i u hs hd
    split at hg
    ·rename_i j hj
     cases hb:(Nat.beq ao.T u&&Nat.ble 1 j.size&&Nat.ble j.size ao.cells.length) with
     | false=>rw[hb] at hg; cases hg
     | true =>
      rw[hb] at hg
      cases hg
      simp only[Bool.and_eq_true] at hb;obtain⟨⟨q1,q2⟩,q3⟩:=hb;have q1:=beq_iff.1 q1;have q2:=Nat.le_of_ble_eq_true q2;have q3:=Nat.le_of_ble_eq_true q3;rw[q1] at hsh;have hco:P.cellsOf u=j.size:=by simp[Program.cellsOf,hj]
      exact⟨_,w,ρ,Lib.run_from_unsafe w ⟨L.b,0,none⟩ hs hd hj hsh (by
       show liesAt P P.depth u (cur.size / P.cellsOf u) 0 u 1=true;refine Gf hco q2 _ ?_;rw[hco,Nat.le_div_iff_mul_le q2];omega),Ext.refl _,hr,ha⟩
    ·cases hg
   ·cases hg
  ·cases hg
 ·cases hg
def Tj(P:Program)(f:FuncId)(e:Array Value->Sem Value):Prop :=
 ∃ fn,P.funcs[f]?=some fn/\(fn.name== "runtime.NumGoroutine")=false/\fn.body.isNone=true/\Extern.findNext fn=none/\Extern.find fn=some e
structure XT where
 noEsc:Nat
 idx:Nat
 cnt:Nat
 mnz:Nat
 mps:Array TypeId
 mt:TypeId
 me:TypeId
def Ug(x:XT):List AV->AH->Nat->FuncId->Option (AV×AH×Nat):=λ args h n f =>
 cond (Nat.beq f x.noEsc) (match args with
  | [a]=>some (a,h,n)
  | _=>none)
 (cond (Nat.beq f x.idx) (match args with
  | [.str l,.int .u8 c]=>some (D2 .i64 (Lib.indexByte l c.toNat.toUInt8),h,n)
  | _=>none)
 (cond (Nat.beq f x.cnt) (match args with
  | [.str l,.int .u8 c]=>some (D2 .i64 (.ofNat (Lib.countByte l c.toNat.toUInt8)),h,n)
  | _=>none)
 (cond (Nat.beq f x.mnz) (match args,h.get n with
  | [.int .i64 (.ofNat m)],none=>cond (Nat.ble m 281474976710656) (some (.sli n 0 m 1,h.put n (some ⟨x.me,[],false⟩),Nat.succ n)) none
  | _,_=>none) none)))
structure XT.OK (P:Program) (x:XT):Prop where
 noEsc:Tj P x.noEsc Extern.AbiNoEscape.same
 idx:Tj P x.idx Extern.BytealgIndexByte.indexByte
 cnt:Tj P x.cnt Extern.BytealgCount.count
 mnz:Tj P x.mnz (Extern.BytealgMakeNoZero.makeNoZero x.mps #[x.mt])
 me:P.underlying x.mt=some (.slice x.me)
theorem Tj.run{P:Program}{f:FuncId}{e:Array Value->Sem Value}(h:Tj P f e){args:Array Value}{w w' : World}{v:Value}(hr:(e args).run P w=.ok v w'):(callFunc f args).run P w=.ok (.value v) w':=by
 obtain⟨fn,h1,h2,h3,h4,h5⟩:=h;rw[run_callFunc_extern h1 h2 h3 h4 h5,hr];rfl
theorem Qc{P:Program}{x:XT}(hx:x.OK P){f:FuncId}{args:List AV}{h h' : AH}{n n' : Nat}{a:AV}(hg:Ug x args h n f=some (a,h',n')){w0 w:World}{ρ:Names}{vs:List Value}(hr:fO w0 w ρ h)(hv:dI ρ args=some vs) :
  ∃ v w' ρ',(callFunc f vs.toArray).run P w=.ok (.value v) w'/\Ext ρ ρ'/\fO w0 w' ρ' h'/\rv ρ' a=some v:=by
 unfold Ug at hg
 cases h1:Nat.beq f x.noEsc with
 | true =>
  have:=beq_iff.1 h1;subst this;rw[h1] at hg;simp only[cond_true] at hg
  split at hg
  ·rename_i a
   cases hg
   obtain⟨v,us,rfl,k1,k2⟩:=aM hv
   cases k2
   exact⟨v,w,ρ,hx.noEsc.run (Lib.run_noEscape w v),Ext.refl _,hr,k1⟩
  ·cases hg
 | false =>
  rw[h1] at hg;simp only[cond_false] at hg
  cases h2:Nat.beq f x.idx with
  | true =>
   have:=beq_iff.1 h2;subst this;rw[h2] at hg;simp only[cond_true] at hg
   split at hg
   ·rename_i l c
    cases hg
    obtain⟨v,us,rfl,k1,k2⟩:=aM hv;obtain⟨v2,us2,rfl,k3,k4⟩:=aM k2
    cases k4
    cases gw k1; cases cw k3
    exact⟨_,w,ρ,hx.idx.run (Lib.run_indexByteString _ c w),Ext.refl _,hr,by rw[fq]; rfl⟩
   ·cases hg
  | false =>
   rw[h2] at hg;simp only[cond_false] at hg
   cases h3:Nat.beq f x.cnt with
   | true =>
    have:=beq_iff.1 h3;subst this;rw[h3] at hg;simp only[cond_true] at hg
    split at hg
    ·rename_i l c
     cases hg
     obtain⟨v,us,rfl,k1,k2⟩:=aM hv;obtain⟨v2,us2,rfl,k3,k4⟩:=aM k2
     cases k4
     cases gw k1; cases cw k3
     exact⟨_,w,ρ,hx.cnt.run (Lib.run_countString _ c w),Ext.refl _,hr,by rw[fq]; rfl⟩
    ·cases hg
   | false =>
    rw[h3] at hg;simp only[cond_false] at hg
    cases h4:Nat.beq f x.mnz with
    | false=>rw[h4] at hg; cases hg
    | true =>
     have:=beq_iff.1 h4;subst this;rw[h4] at hg;simp only[cond_true] at hg
     split at hg
     ·rename_i m hn
      cases hb:Nat.ble m 281474976710656 with
      | false=>rw[hb] at hg; cases hg
      | true =>
       rw[hb] at hg
       cases hg
       have hle:=Nat.le_of_ble_eq_true hb;obtain⟨v,us,rfl,k1,k2⟩:=aM hv
       cases k2
       cases cw k1
       obtain⟨cs,hrun,hcs,hcm⟩:=Lib.run_makeNoZero (P:=P) w x.mps x.mt x.me hx.me m hle;have hchg:Chg w (w.drew.drew.alloc (.cells cs x.me)) []:=((Chg.drew w []).trans (Chg.drew w.drew []) (by simp)).trans (Chg.new w.drew.drew _ []) (by simp);have hext:=Ext.dW (L:=⟨w.heap.size,1,cs.size⟩) (bX hr hn);have hnew:=hr.new hn (ro:=false) (T:=x.me) (L:=⟨w.heap.size,1,cs.size⟩) (cells:=[]) (vs:=[]) (cur:=cs) (fz:=(0,0)) hchg (by
        have:=gj w.drew.drew (.cells cs x.me) w.heap.size;rw[this]
        simp) (λ _=>rfl) (Nat.le_refl _) rfl rfl (by simp) (hcm (by unfold maxLen; omega))
       refine⟨_,_,_,hx.mnz.run hrun,hext,hnew,?_⟩;simp only[rv,dW,if_true,Option.bind_some];rw[if_pos]
       ·simp
       ·exact⟨by show 0+m<=cs.size; omega,trivial⟩
     ·cases hg
mutual
def oP:AV->AV->Bool
 | .int k n,.int k' m=>cond (FE k k') (LW n m) false
 | .bool a,.bool b=>cond a b (not b)
 | .str l,.str m=>D9 l m
 | .nilp,.nilp=>true
 | .ptr i o,.ptr j p=>cond (Nat.beq i j) (Nat.beq o p) false
 | .nils,.nils=>true
 | .sli i o l z,.sli i' o' l' z'=>cond (Nat.beq i i') (cond (Nat.beq o o') (cond (Nat.beq l l') (Nat.beq z z') false) false) false
 | .nili,.nili=>true
 | .iface T v,.iface T' v'=>cond (Nat.beq T T') (oP v v') false
 | .nilf,.nilf=>true
 | .fn f x y,.fn f' x' y'=>cond (Nat.beq f f') (cond (Ac x x') (Ac y y') false) false
 | .yld i,.yld j=>Nat.beq i j
 | .agg cs,.agg cs'=>Ac cs cs'
 | .tup cs,.tup cs'=>Ac cs cs'
 | _,_=>false
def Ac:List AV->List AV->Bool
 | [],[]=>true
 | a :: l,b :: m=>cond (oP a b) (Ac l m) false
 | _,_=>false
end
theorem gP{a b:Bool}(h:cond a b false=true):a=true/\b=true:=by cases a<;>simp_all
mutual
theorem DC:∀ {a b:AV},oP a b=true->a=b
 | .int k n,b,h=>by
  cases b<;>simp only[oP] at h<;>try cases h
  obtain⟨h1,h2⟩:=gP h;rw[wX] at h2;rw[jY h1,eq_of_beq h2]
 | .bool x,b,h=>by
  cases b<;>simp only[oP] at h<;>try cases h
  rename_i y
  cases x<;>cases y<;>first|rfl|cases h
 | .str l,b,h=>by
  cases b<;>simp only[oP] at h<;>try cases h
  rw[nL] at h;rw[eq_of_beq h]
 | .nilp,b,h=>by cases b<;>simp only[oP] at h<;>first|rfl|cases h
 | .nils,b,h=>by cases b<;>simp only[oP] at h<;>first|rfl|cases h
 | .nili,b,h=>by cases b<;>simp only[oP] at h<;>first|rfl|cases h
 | .nilf,b,h=>by cases b<;>simp only[oP] at h<;>first|rfl|cases h
 | .ptr i o,b,h=>by
  cases b<;>simp only[oP] at h<;>try cases h
  obtain⟨h1,h2⟩:=gP h;rw[beq_iff.1 h1,beq_iff.1 h2]
 | .sli i o l z,b,h=>by
  cases b<;>simp only[oP] at h<;>try cases h
  obtain⟨h1,h⟩:=gP h;obtain⟨h2,h⟩:=gP h;obtain⟨h3,h4⟩:=gP h;rw[beq_iff.1 h1,beq_iff.1 h2,beq_iff.1 h3,beq_iff.1 h4]
 | .iface T v,b,h=>by
  cases b<;>simp only[oP] at h<;>try cases h
  obtain⟨h1,h2⟩:=gP h;rw[beq_iff.1 h1,DC h2]
 | .fn f x y,b,h=>by
  cases b<;>simp only[oP] at h<;>try cases h
  obtain⟨h1,h⟩:=gP h;obtain⟨h2,h3⟩:=gP h;rw[beq_iff.1 h1,nr h2,nr h3]
 | .yld i,b,h=>by
  cases b<;>simp only[oP] at h<;>try cases h
  rw[beq_iff.1 h]
 | .agg cs,b,h=>by
  cases b<;>simp only[oP] at h<;>try cases h
  rw[nr h]
 | .tup cs,b,h=>by
  cases b<;>simp only[oP] at h<;>try cases h
  rw[nr h]
theorem nr:∀ {l m:List AV},Ac l m=true->l=m
 | [],[],_=>rfl
 | [],_ :: _,h=>by simp[Ac] at h
 | _ :: _,[],h=>by simp[Ac] at h
 | a :: l,b :: m,h=>by
  simp only[Ac] at h;obtain⟨h1,h2⟩:=gP h;rw[DC h1,nr h2]
end
def Hw{α:Type}(f:α->α->Bool):List (Nat×α)->List (Nat×α)->Bool
 | [],[]=>true
 | a :: l,b :: m=>cond (Nat.beq a.1 b.1) (cond (f a.2 b.2) (Hw f l m) false) false
 | _,_=>false
theorem I5{α:Type}{f:α->α->Bool}(hf:∀ {a b},f a b=true->a=b):∀ {l m:List (Nat×α)},Hw f l m=true->l=m
 | [],[],_=>rfl
 | [],_ :: _,h=>by simp[Hw] at h
 | _ :: _,[],h=>by simp[Hw] at h
 | (i,a) :: l,(j,b) :: m,h=>by
  simp only[Hw] at h;obtain⟨h1,h⟩:=gP h;obtain⟨h2,h3⟩:=gP h;rw[beq_iff.1 h1,hf h2,I5 hf h3]
def Tr.beq{α:Type}(f:α->α->Bool):Tr α->Tr α->Bool
 | .leaf l,.leaf m=>Hw f l m
 | .node a b,.node c d=>cond (Tr.beq f a c) (Tr.beq f b d) false
 | _,_=>false
theorem Tr.beq_eq{α:Type}{f:α->α->Bool}(hf:∀ {a b},f a b=true->a=b):∀ {t u:Tr α},Tr.beq f t u=true->t=u
 | .leaf l,.leaf m,h=>by rw[I5 hf (show Hw f l m=true from h)]
 | .leaf _,.node _ _,h=>by simp[Tr.beq] at h
 | .node _ _,.leaf _,h=>by simp[Tr.beq] at h
 | .node a b,.node c d,h=>by
  simp only[Tr.beq] at h;obtain⟨h1,h2⟩:=gP h;rw[Tr.beq_eq hf h1,Tr.beq_eq hf h2]
def Mj:Option AO->Option AO->Bool
 | none,none=>true
 | some a,some b=>cond (Nat.beq a.T b.T) (cond (Ac a.cells b.cells) (cond a.ro b.ro (not b.ro)) false) false
 | _,_=>false
theorem Pk:∀ {a b:Option AO},Mj a b=true->a=b
 | none,none,_=>rfl
 | none,some _,h=>by simp[Mj] at h
 | some _,none,h=>by simp[Mj] at h
 | some ⟨T,c,r⟩,some ⟨T',c',r'⟩,h=>by
  simp only[Mj] at h;obtain⟨h1,h2⟩:=gP h;obtain⟨h2,h3⟩:=gP h2;have:r=r':=by cases r<;>cases r' <;> first|rfl|cases h3
  rw[beq_iff.1 h1,nr h2,this]
structure AD where
 f:FuncId
 cap:List AV
 args:List AV
def dv(ρ:Names)(d:AD):Option Deferred:=match dI ρ d.cap,dI ρ d.args with
 | some c,some a=>some { target:=.fn (.func d.f) c.toArray,args:=a.toArray }
 | _,_=>none
def E1(ρ:Names):List AD->Option (List Deferred)
 | []=>some []
 | d :: l=>match dv ρ d,E1 ρ l with
  | some x,some xs=>some (x :: xs)
  | _,_=>none
theorem PN{ρ σ:Names}(hx:Ext ρ σ){d:AD}{x:Deferred}(h:dv ρ d=some x):dv σ d=some x:=by
 unfold dv at h ⊢
 split at h
 ·rename_i c a h1 h2;rw[cG hx h1,cG hx h2]; exact h
 ·cases h
theorem uO{ρ σ:Names}(hx:Ext ρ σ):∀ {l:List AD} {xs:List Deferred},E1 ρ l=some xs->E1 σ l=some xs
 | [],_,h=>h
 | d :: l,xs,h=>by
  simp only[E1] at h ⊢
  split at h
  ·rename_i x xs' h1 h2;rw[PN hx h1,uO hx h2]; exact h
  ·cases h
theorem Je{ρ:Names}:∀ {l m:List AD} {xs ys:List Deferred},E1 ρ l=some xs->E1 ρ m=some ys->E1 ρ (l++m)=some (xs++ys)
 | [],_,_,_,h,k=>by cases h; exact k
 | d :: l,m,xs,ys,h,k=>by
  simp only[E1] at h
  split at h
  ·rename_i x xs' h1 h2
   cases h
   simp only[List.cons_append,E1,h1,Je h2 k]
  ·cases h
abbrev aY:=FuncId->List AV->AH->Nat->Option (AV×AH×Nat)
def jc(P:Program)(w0:World)(call:aY):Prop:=∀ (f:FuncId) (args:List AV) (h:AH) (n:Nat) (a:AV) (h' : AH) (n' : Nat),call f args h n=some (a,h',n') ->
 ∀ (ρ:Names) (w:World) (vs:List Value) (R:Ending->World->Prop),fO w0 w ρ h->dI ρ args=some vs->(∀ (ρ' : Names) (w' : World) (v:Value),Ext ρ ρ'->fO w0 w' ρ' h'->rv ρ' a=some v->R (.returned v) w')->Calls P f vs.toArray w R
def zV(P:Program)(w0:World)(ext:aY):Prop:=∀ (f:FuncId) (args:List AV) (h:AH) (n:Nat) (a:AV) (h' : AH) (n' : Nat),ext f args h n=some (a,h',n') ->
 ∀ (ρ:Names) (w:World) (vs:List Value),fO w0 w ρ h->dI ρ args=some vs ->
  ∃ v w' ρ',(callFunc f vs.toArray).run P w=.ok (.value v) w'/\Ext ρ ρ'/\fO w0 w' ρ' h'/\rv ρ' a=some v
abbrev GO:=Option (AV×List AD×AH×Nat)
def LU(n:Nat):Option (AV×AH)->GO
 | some (a,h)=>some (a,[],h,n)
 | none=>none
def Qy(P:Program)(t:TypeId):Bool:=match P.underlying t with
 | some (.slice e)=>(dw P e).isSome
 | _=>false
theorem Qz{P:Program}{t:TypeId}(h:Qy P t=true):∃ e,P.underlying t=some (.slice e)/\∃ n,dw P e=some n:=by
 unfold Qy at h
 split at h
 ·rename_i e hu;exact⟨e,hu,Option.isSome_iff_exists.1 h⟩
 ·cases h
def Hg(P:Program)(call ext:aY)(o:Oper)(e:Tr AV)(h:AH)(n:Nat):GO:=match o.op with
 | .store ty x v=>match fe e x,fe e v with
  | some p,some a=>match KN P ty p a h with
   | some h'=>some (.tup [],[],h',n)
   | none=>none
  | _,_=>none
 | .alloc T=>match yI P T with
  | some z=>LU (Nat.succ n) (FR T z h n)
  | none=>none
 | .box T x=>match fe e x with
  | some a=>LU (Nat.succ n) (FR T a h n)
  | none=>none
 | .buildSlice ty len ps=>match yM e ps.toList with
  | some az=>LU (Nat.succ n) (MQ P ty len az h n)
  | none=>none
 | .makeSlice ty l c=>match fe e l,fe e c with
  | some a,some b=>LU (Nat.succ n) (Ui P ty a b h n)
  | _,_=>none
 | .convert src dst x=>match Hh P o e with
  | some a=>some (a,[],h,n)
  | none=>match fe e x with
   | some a=>match Ul P src dst a h with
    | some r=>some (r,[],h,n)
    | none=>match XF P src dst a h with
     | some r=>some (r,[],h,n)
     | none=>match a with
      | .str l=>LU (Nat.succ n) (Ud P src dst l h n)
      | _=>none
   | none=>none
 | .call { callee:=.builtin .copy,args:=args,argTypes:=tys }=>match lY e args.toList,tys[0]? with
  | some [d,s],some t=>cond (Qy P t) (LU n (Ue P t d s h)) none
  | _,_=>none
 | .call { callee:=.builtin .unsafeSliceData,args:=args,argTypes:=_ }=>match lY e args.toList with
  | some [s]=>match Un s with
   | some r=>some (r,[],h,n)
   | none=>none
  | _=>none
 | .call { callee:=.builtin .unsafeString,args:=args,argTypes:=tys }=>match lY e args.toList with
  | some [p,m]=>LU n (Uo P tys.toList p m h)
  | _=>none
 | .call { callee:=.builtin .append,args:=args,argTypes:=tys }=>match lY e args.toList with
  | some [s,x]=>match x with
   | .str l=>LU (Nat.succ n) (P4 P tys.toList s l h n)
   | x=>LU (Nat.succ n) (P2 P tys.toList s x h n)
  | _=>none
 | .call { callee:=.value f,args:=args,argTypes:=_ }=>match fe e f,lY e args.toList with
  | some (.fn g xs ys),some az=>match cond (bR P g) (call g (xs++az++ys) h n) (ext g (xs++az++ys) h n) with
   | some (r,h',n')=>some (r,[],h',n')
   | none=>none
  | _,_=>none
 | .defer { callee:=.value f,args:=args,argTypes:=_ }=>match fe e f,lY e args.toList with
  | some (.fn g xs ys),some az=>some (.tup [],[⟨g,ys,xs++az⟩],h,n)
  | _,_=>none
 | _=>match Qn P o e h with
  | some (a,_)=>some (a,[],h,n)
  | none=>none
theorem SZ{ρ:Names}{f:FuncId}{x y:List AV}{v:Value}(h:rv ρ (.fn f x y)=some v):∃ xs ys,dI ρ x=some xs/\dI ρ y=some ys/\v=.func (.func f) xs.toArray ys.toArray:=by
 simp only[rv] at h
 split at h
 ·rename_i xs ys h1 h2
  cases h; exact⟨xs,ys,h1,h2,rfl⟩
 ·cases h
theorem MY{P:Program}{w0:World}{call ext:aY}(hcall:jc P w0 call)(hext:zV P w0 ext){o:Oper}{e:Tr AV}{h h' : AH}{n n' : Nat}{a:AV}{ds:List AD}(hg:Hg P call ext o e h n=some (a,ds,h',n')){w:World}{ρ:Names}(hr:fO w0 w ρ h){t:Tm}(he:dX ρ e t){K:Value->List Deferred->World->Prop}(k:∀ (ρ' : Names) (v:Value) (nd:List Deferred) (w' : World),Ext ρ ρ'->fO w0 w' ρ' h'->rv ρ' a=some v->E1 ρ' ds=some nd->K v nd w'):LR P o t w K:=by
 have fin:∀ {s:Sem Value},execOp (ev t) o=(do pure (.value (<- s)):Sem Next)->ds=[]->zU P w0 w ρ s a h'->LR P o t w K:=λ {s} hs hd hw=>by
  obtain⟨v,w',ρ',h1,h2,h3,h4⟩:=hw;refine⟨.value v,w',by rw[hs]; simp only[Sem.run_bind,h1,Result.andThen_ok,Sem.run_pure],?_⟩;subst hd;exact k ρ' v [] w' h2 h3 h4 rfl
 have rd:(∃ T,Qn P o e h=some (a,T))->ds=[]->h' = h->LR P o t w K:=λ ⟨T,hT⟩ hd hh=>by
  obtain⟨v,h1,h2,h3⟩:=M4 hT hr he;subst hd hh;exact⟨.value v,w,h3 w h2,k ρ v [] w (Ext.refl _) hr h1 rfl⟩
 have goO_ok:∀ {x:Option (AV×AH)} {m:Nat},LU m x=some (a,ds,h',n')->x=some (a,h')/\ds=[]:=λ {x m} hx=>by
  unfold LU at hx
  split at hx
  ·cases hx; exact⟨rfl,rfl⟩
  ·cases hx
 unfold Hg at hg
 split at hg
 ·rename_i ty x v hx
  split at hg
  ·rename_i p b hp hb
   split at hg
   ·rename_i h2 hs
    cases hg
    obtain⟨w',hrun,hr'⟩:=Qp hs hr (aV he hp) (aV he hb);exact⟨.skip,w',by simp[execOp,hx,hrun],k ρ undef [] w' (Ext.refl _) hr' rfl rfl⟩
   ·cases hg
  ·cases hg
 ·rename_i T hx
  split at hg
  ·rename_i z hz;obtain⟨hn,rfl⟩:=goO_ok hg;obtain⟨v,hv,_,hrun⟩:=wu hz ρ;obtain⟨u,w',ρ',h1,h2,h3,h4⟩:=Jp (P:=P) hn hr hv;refine fin (s:=Instr.alloc T true (.tuple #[])) (by simp[execOp,hx]) rfl ⟨u,w',ρ',?_,h2,h3,h4⟩;simp only[Instr.alloc,Sem.run_bind,hrun,Result.andThen_ok];simpa only[Sem.run_bind] using h1
  ·cases hg
 ·rename_i T x hx
  split at hg
  ·rename_i b hb;obtain⟨hn,rfl⟩:=goO_ok hg;exact fin (s:=Instr.box T (ev t x)) (by simp[execOp,hx]) rfl (Jp (P:=P) hn hr (aV he hb))
  ·cases hg
 ·rename_i ty len ps hx
  split at hg
  ·rename_i az haz;obtain⟨hn,rfl⟩:=goO_ok hg;refine fin (s:=Instr.buildSlice ty len (ps.map λ (i,x)=>(i,ev t x))) (by simp[execOp,hx]) rfl (P9 hn hr ?_);simpa using Dv he haz
  ·cases hg
 ·rename_i ty l c hx
  split at hg
  ·rename_i a1 b1 ha hb;obtain⟨hn,rfl⟩:=goO_ok hg;exact fin (s:=Instr.makeSlice ty (ev t l) (ev t c)) (by simp[execOp,hx]) rfl (Qi hn hr (aV he ha) (aV he hb))
  ·cases hg
 ·rename_i src dst x hx
  split at hg
  ·rename_i b hb
   cases hg
   obtain⟨v,h1,h2⟩:=M1 hb he;exact⟨.value v,w,h2 w,k ρ v [] w (Ext.refl _) hr h1 rfl⟩
  ·split at hg
   ·rename_i b hb
    split at hg
    ·rename_i r hr2
     cases hg
     exact fin (s:=convert src dst (ev t x)) (by simp[execOp,hx]) rfl (Qr hr2 hr (aV he hb))
    ·split at hg
     ·rename_i r hr2
      cases hg
      exact fin (s:=convert src dst (ev t x)) (by simp[execOp,hx]) rfl (Um hr2 hr (aV he hb))
     ·split at hg
      ·rename_i l;obtain⟨hn,rfl⟩:=goO_ok hg;exact fin (s:=convert src dst (ev t x)) (by simp[execOp,hx]) rfl (by rw[gw (aV he hb)]; exact P8 hn hr)
      ·cases hg
   ·cases hg
 ·rename_i args tys hx
  split at hg
  ·rename_i d s ty hds ht
   cases hsl:Qy P ty with
   | false=>rw[hsl] at hg; cases hg
   | true =>
    rw[hsl] at hg;obtain⟨hn,rfl⟩:=goO_ok hg;have hv:=fU he hds;obtain⟨vs,us,hm,h1,h2⟩:=aM hv;obtain⟨vx,us',rfl,h3,h4⟩:=aM h2
    cases h4
    have hargs:args.map (ev t) = #[vs,vx]:=Array.ext' (by rw[Array.toList_map,hm]);refine fin (s:=Builtin.copy_ tys o.type #[vs,vx]) ?_ rfl (Qa hn ht (Qz hsl) hr h1 h3);simp[execOp,hx,resolve,invoke,builtin,hargs]
  ·cases hg
 ·rename_i args tys hx
  split at hg
  ·rename_i s hs
   split at hg
   ·rename_i r hr2
    cases hg
    have hv:=fU he hs;obtain⟨vs,us,hm,h1,h2⟩:=aM hv
    cases h2
    have hargs:args.map (ev t) = #[vs]:=Array.ext' (by rw[Array.toList_map,hm]);obtain⟨v,k1,k2⟩:=Qt (P:=P) (tys:=tys) (ty:=o.type) hr2 h1;refine fin (s:=Builtin.unsafeSliceData_ tys o.type #[vs]) ?_ rfl ⟨v,w,ρ,k2 w,Ext.refl _,hr,k1⟩;simp[execOp,hx,resolve,invoke,builtin,hargs]
   ·cases hg
  ·cases hg
 ·rename_i args tys hx
  split at hg
  ·rename_i p m hpm;obtain⟨hn,rfl⟩:=goO_ok hg;have hv:=fU he hpm;obtain⟨vs,us,hm,h1,h2⟩:=aM hv;obtain⟨vx,us',rfl,h3,h4⟩:=aM h2
   cases h4
   have hargs:args.map (ev t) = #[vs,vx]:=Array.ext' (by rw[Array.toList_map,hm]);refine fin (s:=Builtin.unsafeString_ tys o.type #[vs,vx]) ?_ rfl (Qu hn hr h1 h3);simp[execOp,hx,resolve,invoke,builtin,hargs]
  ·cases hg
 ·rename_i args tys hx
  split at hg
  ·rename_i s x hs;have hv:=fU he hs;obtain⟨vs,us,hm,h1,h2⟩:=aM hv;obtain⟨vx,us',rfl,h3,h4⟩:=aM h2
   cases h4
   have hargs:args.map (ev t) = #[vs,vx]:=Array.ext' (by rw[Array.toList_map,hm]);have hex:execOp (ev t) o=(do pure (.value (<- Builtin.append_ tys o.type #[vs,vx])):Sem Next):=by simp[execOp,hx,resolve,invoke,builtin,hargs]
   split at hg
   ·rename_i l;obtain⟨hn,rfl⟩:=goO_ok hg;exact fin hex rfl (by rw[gw h3]; exact P5 hn hr h1)
   ·obtain⟨hn,rfl⟩:=goO_ok hg;exact fin hex rfl (P3 hn hr h1 h3)
  ·cases hg
 ·rename_i f args tys hx
  split at hg
  ·rename_i g xs ys az hf haz;obtain⟨vxs,vys,h1,h2,h3⟩:=SZ (aV he hf);have h4:=fU he haz;have hall:=lu (lu h1 h4) h2;have hargs:args.map (ev t)=(args.toList.map (ev t)).toArray:=Array.ext' (by rw[Array.toList_map]);have hex:∀ w,(execOp (ev t) o).run P w=(callFunc g (vxs++args.toList.map (ev t)++vys).toArray).run P w:=λ w=>by
    have:(vxs++args.toList.map (ev t)++vys).toArray=vxs.toArray++args.map (ev t)++vys.toArray:=by rw[hargs]; simp
    rw[this];simp only[execOp,hx,resolve,h3,Deferred.ofValue,Sem.run_bind,Sem.run_pure,Result.andThen_ok,invoke]
   split at hg
   ·rename_i r h2' n2 hc
    cases hg
    cases hen:bR P g with
    | true =>
     rw[hen] at hc;refine⟨.enter g (vxs++args.toList.map (ev t)++vys).toArray,w,by rw[hex w]; exact jX hen _ w,?_⟩;exact hcall g _ h n a h' n' hc ρ w _ _ hr hall λ ρ' w' v hx hr' hv=>⟨v,rfl,k ρ' v [] w' hx hr' hv rfl⟩
    | false =>
     rw[hen] at hc;obtain⟨v,w',ρ',g1,g2,g3,g4⟩:=hext g _ h n a h' n' hc ρ w _ hr hall;exact⟨.value v,w',by rw[hex w]; exact g1,k ρ' v [] w' g2 g3 g4 rfl⟩
   ·cases hg
  ·cases hg
 ·rename_i f args tys hx
  split at hg
  ·rename_i g xs ys az hf haz
   cases hg
   obtain⟨vxs,vys,h1,h2,h3⟩:=SZ (aV he hf);have h4:=fU he haz;have hargs:args.map (ev t)=(args.toList.map (ev t)).toArray:=Array.ext' (by rw[Array.toList_map]);refine⟨.defer { target:=.fn (.func g) vys.toArray,args:=(vxs++args.toList.map (ev t)).toArray },w,?_,?_⟩
   ·simp[execOp,hx,resolve,h3,Deferred.ofValue]
   ·refine k ρ undef _ w (Ext.refl _) hr rfl ?_;simp only[E1,dv,h2,lu h1 h4]
  ·cases hg
 ·split at hg
  ·rename_i b T hb
   cases hg
   exact rd ⟨_,hb⟩ rfl rfl
  ·cases hg
def nG(ops:Array Oper)(e:Tr AV)(o:Oper):Option Bool:=match o.guard with
 | none=>some true
 | some (j,pol)=>match (ops[j]?).bind (·.dst) with
  | none=>none
  | some d=>match e.get d with
   | some (.bool b)=>some (cond pol b (not b))
   | some (.tup [])=>some false
   | _=>none
theorem jI{ops:Array Oper}{e:Tr AV}{o:Oper}{g:Bool}(h:nG ops e o=some g){ρ:Names}{t:Tm}(he:dX ρ e t){A B:Tm->Prop}(hA:g=true->A t)(hB:g=false->B t):gd ops t o A B:=by
 unfold nG at h;unfold gd
 split at h
 ·rename_i hg
  cases h
  rw[hg];exact hA rfl
 ·rename_i j pol hg;rw[hg];simp only
  split at h
  ·cases h
  ·rename_i d hd;rw[hd];simp only
   split at h
   ·rename_i b hb;have hv:=ff (he _ _ hb);rw[hv];have hs:=S5 t d _ hv (by simp[undef]);simp only
    cases pol<;>cases b<;>simp only[cond] at h ⊢ <;> rw[hs]<;>cases h
    ·exact hA rfl
    ·exact hB rfl
    ·exact hB rfl
    ·exact hA rfl
   ·rename_i hb
    cases h
    obtain⟨vs,hvs,hv⟩:=Iw (he _ _ hb);rw[hv];exact hB rfl
   ·cases h
inductive GS where
 | no
 | ok (e:Tr AV) (d:List AD) (h:AH) (n:Nat)
structure wC (w0:World) (N:Nat) (ρ:Names) (e:Tr AV) (d:List AD) (h:AH) (t:Tm) (dd:List Deferred) (w:World):Prop where
 rep:fO w0 w ρ h
 env:dX ρ e t
 len:t.length=N
 dfs:E1 ρ d=some dd
def Cg(w0:World)(N:Nat)(ρ:Names)(e:Tr AV)(d:List AD)(h:AH)(t:Tm)(dd:List Deferred)(w:World):Prop:=∃ ρ',Ext ρ ρ'/\wC w0 N ρ' e d h t dd w
theorem Cg.trans{w0:World}{N:Nat}{ρ σ:Names}{e:Tr AV}{d:List AD}{h:AH}{t:Tm}{dd:List Deferred}{w:World}(hx:Ext ρ σ)(k:Cg w0 N σ e d h t dd w):Cg w0 N ρ e d h t dd w :=
 let ⟨τ,h1,h2⟩:=k
 ⟨τ,hx.trans h1,h2⟩
def sC(P:Program)(call ext:aY)(N:Nat)(ops:Array Oper):List Oper->Tr AV->List AD->AH->Nat->GS
 | [],e,d,h,n=>.ok e d h n
 | o :: rest,e,d,h,n=>match nG ops e o with
  | some true=>match Hg P call ext o e h n with
   | some (a,ds,h',n')=>match yO N e o.dst a with
    | some e'=>sC P call ext N ops rest e' (ds++d) h' n'
    | none=>.no
   | none=>.no
  | some false=>match yO N e o.dst (.tup []) with
   | some e'=>sC P call ext N ops rest e' d h n
   | none=>.no
  | none=>.no
theorem ve{P:Program}{w0:World}{call ext:aY}(hcall:jc P w0 call)(hext:zV P w0 ext){N:Nat}{ops:Array Oper}:∀ {l:List Oper} {e e' : Tr AV} {d d' : List AD} {h h' : AH} {n n' : Nat},sC P call ext N ops l e d h n=.ok e' d' h' n'->∀ {ρ:Names} {t:Tm} {dd:List Deferred} {w:World},wC w0 N ρ e d h t dd w->vA P ops l t dd w (λ t dd w=>Cg w0 N ρ e' d' h' t dd w)
 | [],e,e',d,d',h,h',n,n',hg,ρ,t,dd,w,hs=>by
  simp only[sC] at hg
  cases hg
  exact⟨ρ,Ext.refl _,hs⟩
 | o :: rest,e,e',d,d',h,h',n,n',hg,ρ,t,dd,w,hs=>by
  simp only[sC] at hg
  split at hg
  ·rename_i hgd
   split at hg
   ·rename_i a ds h2 n2 ho
    split at hg
    ·rename_i e2 hp;refine jI hgd hs.env (λ _=>?_) (λ h=>by cases h);refine MY hcall hext ho hs.rep hs.env λ ρ' v nd w' hx hr hv hd=>?_;obtain⟨h1,h2⟩:=qZ hp hs.len (hs.env.mono hx) hv;have:=ve hcall hext hg (ρ:=ρ') (t:=pt t o.dst v) (dd:=nd++dd) (w:=w') ⟨hr,h1,h2,Je hd (uO hx hs.dfs)⟩;have e1:∀ {l:List Oper} {t:Tm} {dd:List Deferred} {w:World} {K K' : Tm->List Deferred->World->Prop},(∀ t dd w,K t dd w->K' t dd w)->vA P ops l t dd w K->vA P ops l t dd w K':=by
      intro l
      induction l with
      | nil=>intro t dd w K K' hk h; exact hk _ _ _ h
      | cons o l ih =>
       intro t dd w K K' hk h;simp only[vA] at h ⊢;unfold gd at h ⊢;have hO:∀ (t:Tm),LR P o t w (λ v nd w'=>vA P ops l (pt t o.dst v) (nd++dd) w' K)->LR P o t w (λ v nd w'=>vA P ops l (pt t o.dst v) (nd++dd) w' K'):=λ t ⟨n,w',hr,hn⟩=>by
        refine⟨n,w',hr,?_⟩
        cases n<;>simp only[Gl] at hn ⊢
        ·exact ih hk hn
        ·exact ih hk hn
        ·exact Calls.mono hn λ e w'' ⟨v,h1,h2⟩=>⟨v,h1,ih hk h2⟩
        ·exact RoundIn.mono hn λ e w'' ⟨v,h1,h2⟩=>⟨v,h1,ih hk h2⟩
        ·exact ih hk hn
       split
       ·rename_i hq; simp only[hq] at h; exact hO _ h
       ·rename_i j pol hq;simp only[hq] at h
        split
        ·rename_i hq2; simp only[hq2] at h; exact ih hk h
        ·rename_i d hq2;simp only[hq2] at h
         split
         ·rename_i b hq3;simp only[hq3] at h
          cases pol<;>cases b<;>simp only[cond] at h ⊢ <;> first|exact hO _ h|exact ih hk h
         ·rename_i hq3
          split at h
          ·rename_i b hq4; exact absurd hq4 (hq3 b)
          ·exact ih hk h
     exact e1 (λ t dd w h=>h.trans hx) this
    ·cases hg
   ·cases hg
  ·rename_i hgd
   split at hg
   ·rename_i e2 hp;refine jI hgd hs.env (λ h=>by cases h) (λ _=>?_);obtain⟨h1,h2⟩:=qZ hp hs.len hs.env (v:=undef) rfl;exact ve hcall hext hg (ρ:=ρ) ⟨hs.rep,h1,h2,hs.dfs⟩
   ·cases hg
  ·cases hg
abbrev lV:=List (Nat×List Hp)
def AU(h:AH):List Hp->Bool
 | []=>true
 | d :: l=>match cP h d.i d.o d.vs.length with
  | some az=>cond (Ac az d.vs) (AU h l) false
  | none=>false
def xd(h:AH):lV->Bool
 | []=>true
 | p :: l=>cond (AU h p.2) (xd h l) false
def Ar(ops:Array Oper)(j:Nat)(pend:lV):lV:=pend.filter λ p=>!dep ops ops.size j p.1
def zT(ρ:Names)(ds:List Hp)(T:List (World->Prop)):Prop:=∃ ρ0,Ext ρ0 ρ/\T=ds.map (nC ρ0)/\∀ d∈ds,∃ L vs,ρ0 d.i=some L/\dI ρ0 d.vs=some vs
theorem zT.mono{ρ σ:Names}(hx:Ext ρ σ){ds:List Hp}{T:List (World->Prop)}(h:zT ρ ds T):zT σ ds T :=
 let ⟨ρ0,h1,h2,h3⟩:=h
 ⟨ρ0,h1.trans hx,h2,h3⟩
theorem AW{h:AH}:∀ {l:List Hp},AU h l=true->∀ d∈l,cP h d.i d.o d.vs.length=some d.vs
 | [],_,d,hd=>by cases hd
 | x :: l,hk,d,hd=>by
  simp only[AU] at hk
  split at hk
  ·rename_i az haz;obtain⟨h1,h2⟩:=gP hk;have:=nr h1;subst this;rcases List.mem_cons.1 hd with rfl|hd
   ·exact haz
   ·exact AW h2 d hd
  ·cases hk
theorem zT.holds{w0 w:World}{ρ:Names}{h:AH}(hr:fO w0 w ρ h){ds:List Hp}{T:List (World->Prop)}(hd:zT ρ ds T)(hk:AU h ds=true):holds T w:=by
 obtain⟨ρ0,hx,rfl,hw⟩:=hd;intro f hf;obtain⟨d,hd,rfl⟩:=List.mem_map.1 hf;obtain⟨L,vs,h1,h2⟩:=hw d hd;obtain⟨L',vs',g1,g2,_,g4⟩:=gX hr (AW hk d hd);obtain rfl:L=L':=Option.some.inj ((hx _ _ h1).symm.trans g1);obtain rfl:vs=vs':=Option.some.inj ((cG hx h2).symm.trans g2);exact⟨L,vs,h1,h2,g4⟩
inductive oh (ρ:Names):lV->lI->Prop
 | nil:oh ρ [] []
 | cons {i:Nat} {ds:List Hp} {T:List (World->Prop)} {l:lV} {m:lI}:zT ρ ds T->oh ρ l m->oh ρ ((i,ds) :: l) ((i,T) :: m)
theorem oh.mono{ρ σ:Names}(hx:Ext ρ σ){l:lV}{m:lI}(h:oh ρ l m):oh σ l m:=by
 induction h with
 | nil=>exact .nil
 | cons h _ ih=>exact .cons (h.mono hx) ih
theorem oh.drop{ρ:Names}{l:lV}{m:lI}(h:oh ρ l m)(ops:Array Oper)(j:Nat):oh ρ (Ar ops j l) (Vc.drop ops j m):=by
 induction h with
 | nil=>exact .nil
 | cons h _ ih =>
  rename_i i ds T l m _;unfold Ar Vc.drop at ih ⊢;simp only[List.filter_cons]
  split
  ·exact .cons h ih
  ·exact ih
theorem oh.holds{w0 w:World}{ρ:Names}{h:AH}(hr:fO w0 w ρ h){l:lV}{m:lI}(hp:oh ρ l m)(hk:xd h l=true):∀ p∈m,holds p.2 w:=by
 induction hp with
 | nil=>intro p hp; cases hp
 | cons h' _ ih =>
  simp only[xd] at hk;obtain⟨h1,h2⟩:=gP hk;intro p hp;rcases List.mem_cons.1 hp with rfl|hp
  ·exact h'.holds hr h1
  ·exact ih h2 p hp
theorem I3:∀ {T:List (World->Prop)} {w:World} {R:Prop},holds T w->R->Pe T w R
 | [],_,_,_,h=>h
 | f :: _,_,_,hT,h=>⟨hT f (List.mem_cons_self ..),I3 (λ g hg=>hT g (List.mem_cons_of_mem _ hg)) h⟩
theorem Dz:∀ {ps:lI} {w:World} {R:Prop},(∀ p∈ps,holds p.2 w)->R->BU ps w R
 | [],_,_,_,h=>h
 | p :: _,_,_,hp,h=>I3 (hp p (List.mem_cons_self ..)) (Dz (λ q hq=>hp q (List.mem_cons_of_mem _ hq)) h)
theorem Dy:∀ {l:List Prop},(∀ p∈l,p)->Ma l
 | [],_=>trivial
 | [p],h=>h p (List.mem_cons_self ..)
 | p :: _ :: _,h=>⟨h p (List.mem_cons_self ..),Dy λ r hr=>h r (List.mem_cons_of_mem _ hr)⟩
def Pm:GS->GS->Bool
 | .ok e _ h _,.ok e' _ h' _=>cond (Tr.beq oP e e') (Tr.beq Mj h h') false
 | _,_=>false
def rO(s:GS):List GS->Bool
 | []=>true
 | x :: l=>cond (Pm s x) (rO s l) false
def AN(P:Program)(call ext:aY)(N:Nat)(ops:Array Oper)(listed:Array Bool)(pend:lV)(e:Tr AV)(h:AH)(nm n:Nat)(multi:Bool)(i:Nat)(next:Array Bool->lV->Tr AV->AH->Nat->GS):GS:=match ops[i]? with
 | none=>.no
 | some o=>match nG ops e o with
  | some true=>match Hg P call ext o e h nm with
   | some (a,[],h',n')=>cond (xd h' (Ar ops i pend)) (match yO N e o.dst a with
    | some e'=>next (listed.setIfInBounds i true) (Ar ops i pend) e' h' (cond multi n n')
    | none=>.no) .no
   | _=>.no
  | some false=>match yO N e o.dst (.tup []) with
   | some e'=>next (listed.setIfInBounds i true) (Ar ops i pend) e' h n
   | none=>.no
  | none=>.no
def A6(c0 i:Nat):Nat:=Nat.add (Nat.mul (Nat.add (Nat.mul c0 256) (Nat.succ i)) 16777216) (Nat.mod c0 64)
def eW(P:Program)(call ext:aY)(N:Nat)(ops:Array Oper)(multi:Bool)(c0:Nat):Nat->Array Bool->lV->Tr AV->AH->Nat->GS
 | 0,listed,_,e,h,n=>cond (Region.ready .any ops listed).isEmpty (.ok e [] h n) .no
 | k+1,listed,pend,e,h,n=>match pick ops (Region.ready .any ops listed) with
  | some i=>match ops[i]? with
   | none=>.no
   | some o=>cond (Region.free .any ops listed i) (match nG ops e o with
    | some true=>match Qn P o e h with
     | some (a,T)=>match yO N e o.dst a with
      | some e'=>eW P call ext N ops multi c0 k (listed.setIfInBounds i true) ((i,T) :: pend) e' h n
      | none=>.no
     | none=>.no
    | some false=>match yO N e o.dst (.tup []) with
     | some e'=>eW P call ext N ops multi c0 k (listed.setIfInBounds i true) pend e' h n
     | none=>.no
    | none=>.no) .no
  | none=>match Region.ready .any ops listed with
   | []=>.ok e [] h n
   | i :: is=>match AN P call ext N ops listed pend e h (cond multi (A6 c0 i) n) n multi i (eW P call ext N ops multi c0 k) with
    | .no=>.no
    | s=>cond (rO s (is.map λ j=>AN P call ext N ops listed pend e h (cond multi (A6 c0 j) n) n multi j (eW P call ext N ops multi c0 k))) s .no
theorem jV{P:Program}{ops:Array Oper}{K K' : Tm->World->Prop}(hk:∀ t w,K t w->K' t w):∀ (n:Nat) (listed:Array Bool) (pend:lI) (t:Tm) (w:World),fZ P ops n listed pend t w K->fZ P ops n listed pend t w K'
 | 0,listed,pend,t,w,h=>by
  simp only[fZ] at h ⊢;obtain⟨h1,h2⟩:=gO h;rw[h1]; exact hk _ _ h2
 | n+1,listed,pend,t,w,h=>by
  have gdm:∀ {o:Oper} {A A' B B' : Tm->Prop},(∀ t,A t->A' t)->(∀ t,B t->B' t)->gd ops t o A B->gd ops t o A' B':=λ {o A A' B B'} hA hB h=>by
   unfold gd at h ⊢
   split
   ·rename_i hq; simp only[hq] at h; exact hA _ h
   ·rename_i j pol hq;simp only[hq] at h
    split
    ·rename_i hq2; simp only[hq2] at h; exact hB _ h
    ·rename_i d hq2;simp only[hq2] at h
     split
     ·rename_i b hq3;simp only[hq3] at h
      cases pol<;>cases b<;>simp only[cond] at h ⊢ <;> first|exact hA _ h|exact hB _ h
     ·rename_i hq3
      split at h
      ·rename_i b hq4; exact absurd hq4 (hq3 b)
      ·exact hB _ h
  unfold fZ at h ⊢
  split at h
  ·rename_i i hi
   try simp only[hi]
   split at h
   ·exact h.elim
   ·rename_i o ho;obtain⟨h1,h2⟩:=gO h
    try simp only[ho]
    try simp only[h1,cond_true]
    exact gdm (λ t ⟨v,T,a,b,c⟩=>⟨v,T,jV hk n _ _ _ _ a,b,c⟩) (λ t h=>jV hk n _ _ _ _ h) h2
  ·rename_i hi
   try simp only[hi]
   split at h
   ·rename_i hr; try simp only[hr]
    exact hk _ _ h
   ·rename_i i is hr
    try simp only[hr]
    refine Dy λ p hp=>?_;obtain⟨j,hj,rfl⟩:=List.mem_map.1 hp;have:=qX h _ (List.mem_map.2 ⟨j,hj,rfl⟩)
    split at this
    ·exact this.elim
    ·rename_i o ho
     try simp only[ho]
     refine gdm (λ t ⟨nx,w',hr,hn⟩=>⟨nx,w',hr,?_⟩) (λ t h=>jV hk n _ _ _ _ h) this;have key:∀ (v:Value) (nd:List Deferred) (w' : World),(nd=[]/\BU (Vc.drop ops j pend) w' (fZ P ops n (listed.setIfInBounds j true) (Vc.drop ops j pend) (pt t o.dst v) w' K))->(nd=[]/\BU (Vc.drop ops j pend) w' (fZ P ops n (listed.setIfInBounds j true) (Vc.drop ops j pend) (pt t o.dst v) w' K')):=λ v nd w' ⟨a,b⟩=>by
      obtain⟨b1,b2⟩:=qY b;exact⟨a,Dz b1 (jV hk n _ _ _ _ b2)⟩
     cases nx<;>simp only[Gl] at hn ⊢
     ·exact⟨trivial,(key _ [] _ ⟨rfl,hn.2⟩).2⟩
     ·exact⟨trivial,(key _ [] _ ⟨rfl,hn.2⟩).2⟩
     ·exact Calls.mono hn λ e w'' ⟨v,h1,h2⟩=>⟨v,h1,trivial,(key _ [] _ ⟨rfl,h2.2⟩).2⟩
     ·exact RoundIn.mono hn λ e w'' ⟨v,h1,h2⟩=>⟨v,h1,trivial,(key _ [] _ ⟨rfl,h2.2⟩).2⟩
     ·first|exact key _ _ _ hn|exact hn.elim|(cases hn.1)
theorem yw{s:GS}:∀ {l:List GS},rO s l=true->∀ x∈l,Pm s x=true
 | [],_,x,hx=>by cases hx
 | a :: l,h,x,hx=>by
  simp only[rO] at h;obtain⟨h1,h2⟩:=gP h;rcases List.mem_cons.1 hx with rfl|hx
  ·exact h1
  ·exact yw h2 x hx
def Ends(w0:World)(N:Nat)(ρ:Names)(e:Tr AV)(h:AH)(t:Tm)(w:World):Prop:=∃ ρ',Ext ρ ρ'/\fO w0 w ρ' h/\dX ρ' e t/\t.length=N
theorem p8{P:Program}{w0:World}{call ext:aY}(hcall:jc P w0 call)(hext:zV P w0 ext){N:Nat}{ops:Array Oper}{multi:Bool}{c0:Nat}:∀ (k:Nat) {listed:Array Bool} {pa:lV} {e e' : Tr AV} {d' : List AD} {h h' : AH} {n n' : Nat},eW P call ext N ops multi c0 k listed pa e h n=.ok e' d' h' n'->∀ {ρ:Names} {t:Tm} {w:World} {pend:lI},fO w0 w ρ h->dX ρ e t->t.length=N->oh ρ pa pend ->
  d' = []/\fZ P ops k listed pend t w (λ t w=>Ends w0 N ρ e' h' t w)
 | 0,listed,pa,e,e',d',h,h',n,n',hg,ρ,t,w,pend,hr,he,hN,hp=>by
  simp only[eW] at hg
  cases hb:(Region.ready .any ops listed).isEmpty with
  | false=>rw[hb] at hg; cases hg
  | true =>
   rw[hb] at hg
   cases hg
   refine⟨rfl,?_⟩;simp only[fZ,hb,cond_true];exact⟨ρ,Ext.refl _,hr,he,hN⟩
 | k+1,listed,pa,e,e',d',h,h',n,n',hg,ρ,t,w,pend,hr,he,hN,hp=>by
  have way:∀ {i:Nat} {nm:Nat} {s:GS} {e1:Tr AV} {d1:List AD} {h1:AH} {n1:Nat},AN P call ext N ops listed pa e h nm n multi i (eW P call ext N ops multi c0 k)=s->s=.ok e1 d1 h1 n1 ->
    d1=[]/\(match ops[i]? with
     | none=>False
     | some o=>gd ops t o
      (λ t=>LR P o t w λ v nd w'=>nd=[]/\BU (Vc.drop ops i pend) w' (fZ P ops k (listed.setIfInBounds i true) (Vc.drop ops i pend) (pt t o.dst v) w' (λ t w=>Ends w0 N ρ e1 h1 t w))) (λ t=>fZ P ops k (listed.setIfInBounds i true) (Vc.drop ops i pend) (pt t o.dst undef) w (λ t w=>Ends w0 N ρ e1 h1 t w))):=by
   intro i nm s e1 d1 h1 n1 hs hs';subst hs';unfold AN at hs
   split at hs
   ·cases hs
   ·rename_i o ho
    try simp only
    split at hs
    ·rename_i hgd
     split at hs
     ·rename_i a h2 n2 hop
      cases hkp:xd h2 (Ar ops i pa) with
      | false=>rw[hkp] at hs; cases hs
      | true =>
       rw[hkp] at hs;simp only[cond_true] at hs
       split at hs
       ·rename_i e2 hput;have hd1:d1=[]:=by
         obtain⟨v0,hv0⟩:∃ x:Nat,x=x:=⟨0,rfl⟩;have aux:∀ (k:Nat) {listed:Array Bool} {pa:lV} {e e' : Tr AV} {d' : List AD} {h h' : AH} {n n' : Nat},eW P call ext N ops multi c0 k listed pa e h n=.ok e' d' h' n'->d' = []:=by
          intro k
          induction k with
          | zero =>
           intro listed pa e e' d' h h' n n' hg;simp only[eW] at hg
           cases hb:(Region.ready .any ops listed).isEmpty with
           | false=>rw[hb] at hg; cases hg
           | true=>rw[hb] at hg; cases hg; rfl
          | succ k ih =>
           intro listed pa e e' d' h h' n n' hg;have hw:∀ {i nm:Nat} {e1:Tr AV} {d1:List AD} {h1:AH} {n1:Nat},AN P call ext N ops listed pa e h nm n multi i (eW P call ext N ops multi c0 k)=.ok e1 d1 h1 n1->d1=[]:=by
            intro i nm e1 d1 h1 n1 hs;unfold AN at hs
            split at hs
            ·cases hs
            ·split at hs
             ·split at hs
              ·rename_i a h2 n2 _
               cases hkp:xd h2 (Ar ops i pa) with
               | false=>rw[hkp] at hs; cases hs
               | true =>
                rw[hkp] at hs;simp only[cond_true] at hs
                split at hs
                ·exact ih hs
                ·cases hs
              ·cases hs
             ·split at hs
              ·exact ih hs
              ·cases hs
             ·cases hs
           simp only[eW] at hg
           split at hg
           ·rename_i i hi
            split at hg
            ·cases hg
            ·rename_i o ho
             cases hf:Region.free .any ops listed i with
             | false=>rw[hf] at hg; cases hg
             | true =>
              rw[hf] at hg;simp only[cond_true] at hg
              split at hg
              ·split at hg
               ·split at hg
                ·exact ih hg
                ·cases hg
               ·cases hg
              ·split at hg
               ·exact ih hg
               ·cases hg
              ·cases hg
           ·split at hg
            ·cases hg; rfl
            ·rename_i i is _
             split at hg
             ·cases hg
             ·rename_i s hne hs
              cases hsm:rO (AN P call ext N ops listed pa e h (cond multi (A6 c0 i) n) n multi i (eW P call ext N ops multi c0 k)) (is.map λ j=>AN P call ext N ops listed pa e h (cond multi (A6 c0 j) n) n multi j (eW P call ext N ops multi c0 k)) with
              | false=>rw[hsm] at hg; cases hg
              | true=>rw[hsm] at hg; exact hw hg
         exact aux k hs
        refine⟨hd1,jI hgd he (λ _=>?_) (λ h=>by cases h)⟩;refine MY hcall hext hop hr he λ ρ' v nd w' hx hr' hv hnd=>?_
        cases hnd
        obtain⟨g1,g2⟩:=qZ hput hN (he.mono hx) hv;have hp':=(hp.mono hx).drop ops i;obtain⟨_,hk2⟩:=p8 hcall hext k hs (ρ:=ρ') hr' g1 g2 hp';exact⟨rfl,Dz (hp'.holds hr' hkp) (jV (λ t w ⟨ρ2,a,b⟩=>⟨ρ2,hx.trans a,b⟩) _ _ _ _ _ hk2)⟩
       ·cases hs
     ·cases hs
    ·rename_i hgd
     split at hs
     ·rename_i e2 hput;obtain⟨g1,g2⟩:=qZ hput hN he (v:=undef) rfl;obtain⟨hd1,hk2⟩:=p8 hcall hext k hs (ρ:=ρ) hr g1 g2 (hp.drop ops i);exact⟨hd1,jI hgd he (λ h=>by cases h) (λ _=>hk2)⟩
     ·cases hs
    ·cases hs
  simp only[eW] at hg;unfold fZ
  split at hg
  ·rename_i i hi
   try simp only[hi]
   split at hg
   ·cases hg
   ·rename_i o ho
    try simp only[ho]
    cases hf:Region.free .any ops listed i with
    | false=>rw[hf] at hg; cases hg
    | true =>
     rw[hf] at hg;simp only[cond_true] at hg ⊢
     split at hg
     ·rename_i hgd
      split at hg
      ·rename_i a T hrd
       split at hg
       ·rename_i e2 hput;obtain⟨v,g1,g2,g3⟩:=M4 hrd hr he;obtain⟨a1,a2⟩:=qZ hput hN he g1;have hdr:zT ρ T (T.map (nC ρ)):=⟨ρ,Ext.refl _,rfl,λ d hd=>by
         obtain⟨L,vs,b1,b2,_⟩:=g2 _ (List.mem_map.2 ⟨d,hd,rfl⟩);exact⟨L,vs,b1,b2⟩⟩
        obtain⟨hd1,hk2⟩:=p8 hcall hext k hg (ρ:=ρ) hr a1 a2 (.cons hdr hp);exact⟨hd1,jI hgd he (λ _=>⟨v,_,hk2,g2,g3⟩) (λ h=>by cases h)⟩
       ·cases hg
      ·cases hg
     ·rename_i hgd
      split at hg
      ·rename_i e2 hput;obtain⟨a1,a2⟩:=qZ hput hN he (v:=undef) rfl;obtain⟨hd1,hk2⟩:=p8 hcall hext k hg (ρ:=ρ) hr a1 a2 hp;exact⟨hd1,jI hgd he (λ h=>by cases h) (λ _=>hk2)⟩
      ·cases hg
     ·cases hg
  ·rename_i hi
   try simp only[hi]
   split at hg
   ·rename_i hrd
    cases hg
    try simp only[hrd]
    exact⟨trivial,ρ,Ext.refl _,hr,he,hN⟩
   ·rename_i i is hrd
    try simp only[hrd]
    split at hg
    ·cases hg
    ·rename_i hne
     cases hsm:rO (AN P call ext N ops listed pa e h (cond multi (A6 c0 i) n) n multi i (eW P call ext N ops multi c0 k)) (is.map λ j=>AN P call ext N ops listed pa e h (cond multi (A6 c0 j) n) n multi j (eW P call ext N ops multi c0 k)) with
     | false=>rw[hsm] at hg; cases hg
     | true =>
      rw[hsm] at hg;simp only[cond_true] at hg;obtain⟨hd1,hw1⟩:=way rfl hg;refine⟨hd1,Dy λ p hp'=>?_⟩;obtain⟨j,hj,rfl⟩:=List.mem_map.1 hp';rcases List.mem_cons.1 hj with rfl|hj
      ·exact hw1
      ·have hb:=yw hsm _ (List.mem_map.2 ⟨j,hj,rfl⟩);rw[hg] at hb;generalize hgj:AN P call ext N ops listed pa e h (cond multi (A6 c0 j) n) n multi j (eW P call ext N ops multi c0 k)=sj at hb
       cases sj with
       | no=>simp[Pm] at hb
       | ok ej dj hj' nj =>
        simp only[Pm] at hb;obtain⟨b1,b2⟩:=gP hb;have e1:=Tr.beq_eq (λ h=>DC h) b1;have e2:=Tr.beq_eq (λ h=>Pk h) b2;subst e1 e2;exact(way hgj rfl).2
