import Derived.Maps.RangeRun
import Derived.Test.YtpddenfeaadgpaaGreatDoorF04
set_option linter.unusedVariables false
set_option maxRecDepth 100000
namespace Go.Proofs.YtpddenfeaadgpaaGreatDoor
open Go Go.Vc _root_.Go.Proofs.Tryz
def bO(l:List Ch):Bool:=l.all oX&&decide ((ic l).ch<0)
theorem rG{l:List Ch}:l.all oX=true<->∀ c∈l,c.Ok:=by simp[List.all_eq_true,xA]
theorem Dn{w:World}{a:OA}{c:Nat}{l:List Ch}(hr:nG w a l)(hl:l.length<=100) :
  CP 192 #[.slice a l.length c] w (λ r w'=>(∃ a1 l1 c1 a2 l2 c2,r=.tuple #[.agg #[.slice a1 l1 c1,.slice a2 l2 c2],.bool (bO l)])/\ax w w' []):=by
 refine oE ?_;unfold kH;refine(St.start w).one.av _ λ r1 w1 s1=>aq (rH (hr.an s1.an) (by omega)) ?_;rintro v w2 ⟨rfl,c2⟩;have s2:=s1.quiet c2;refine⟨_,rfl,?_⟩
 cases ha:l.all oX with
 | false =>
  refine cT rfl (s2.az 0 rfl [.slice none 0 0,.slice none 0 0] rfl (by simp[Value.oneCell']) λ w3 s3=>⟨_,_,_,_,_,_,s3.cellsIn 0 rfl,?_⟩);exact⟨⟨_,_,_,_,_,_,by rw[bO,ha]; rfl⟩,s3.an⟩
 | true =>
  have ho:=rG.1 ha;refine cF rfl (aq (CL (hr.an s2.an) hl ho) ?_);rintro v w4 (⟨hc,g,cc,rfl,s4⟩|⟨hc,⟨q,m,cc,rfl⟩,c4⟩)
  ·have hcons:bO l=true:=by rw[bO,ha,dT hc]; rfl
   let L:List Int->List aJ:=λ out=>[dA 2 1 i1 (some ⟨g,0,none⟩) cc out,ah r1 #[.slice none 0 0,.slice none 0 0] 163,emp];have s5:St w w4 (Sep (L (b8 (ic l).v l.length))):=(s2.and s4.first);have val:∀ {w' : World} {out:List Int} {i:Nat},out.length=l.length->i<l.length->St w w' (Sep (L out))->w'.cell? (Addr.add ⟨g,0,none⟩ (((i:Nat):Int).toNat*1))=some (iv (out.getD i 0)):=λ {w' out i} ho hi s=>by
    obtain⟨q,hq,hc⟩:=nW (St.rd hO s) (i:=i) (x:=out.getD i 0) (by rw[List.getD_eq_getElem?_getD,gE (by omega)]; rfl)
    cases hq; exact hc
   refine⟨_,_,_,_,_,_,rfl,cF rfl ⟨λ _ n w6 m=>∃ j:Nat,n=j/\j<=l.length/\m=l.length-j/\St w w6 (Sep (L (b8 (ic l).v l.length))),⟨l.length,0,rfl,by omega,by omega,s5⟩,?_⟩⟩;rintro w6 m n n2 ⟨j,rfl,hj,hm,s6⟩ -
   by_cases hlt:(j:Int)<(l.length:Int)
   ·have hx:l[j]?=some (l[j]'(by omega)):=gE (by omega);generalize l[j]'(by omega)=y at hx;obtain⟨q2,hq,hcl2⟩:=(hr.an s6.an).at hx;refine cT (dT hlt) (ai hq ⟨by omega,by omega,y.p,y.want,hcl2,s6.av dj.cells.toArray λ r2 w7 s7=>s7.az 0 rfl y.cells rfl y.one λ w8 s8=>?_⟩);have s9:=s8.quiet (ax.drew w8 []);have oy:=ho _ (List.mem_of_getElem? hx);have s10:St w w8.drew (Sep (L (b8 (ic l).v l.length))):=s9.aA [1,2,3];have hjl:j<l.length:=by omega
    refine⟨_,mO s9 0 rfl,_,bz s9 0 rfl,ai rfl ⟨by omega,by omega,_,val (cq _ _) hjl s10,aq (eV _ oy.p oy.w) ?_⟩⟩;rintro v w11 ⟨rfl,c11⟩;have s11:=s10.quiet c11;exact⟨_,rfl,val (cq _ _) hjl s11,l.length-(j+1),by omega,j+1,ay ⟨by omega,by omega⟩,by omega,rfl,s11⟩
   ·refine cF (dF hlt) ⟨λ _ n w6 m=>∃ j:Nat,n=j/\j<=l.length/\m=l.length-j/\St w w6 (Sep (L (b8 (ic l).v l.length))),⟨l.length,0,rfl,by omega,by omega,s6⟩,?_⟩;clear s6 hlt hj hm;rintro w10 m3 n5 n6 ⟨j,rfl,hj,hm,s6⟩ -
    by_cases hlt:(j:Int)<(l.length:Int)
    ·have hx:l[j]?=some (l[j]'(by omega)):=gE (by omega);generalize l[j]'(by omega)=y at hx;have hjl:j<l.length:=by omega
     obtain⟨q2,hq,hcl2⟩:=(hr.an s6.an).at hx;refine cT (dT hlt) ⟨λ _ w11=>St w w11 (Sep (L (b8 (ic l).v l.length))),λ w11 n7 s11 _=>⟨l.length-(j+1),by omega,j+1,ay ⟨by omega,by omega⟩,by omega,rfl,s11⟩,?_⟩;refine ai hq ⟨by omega,by omega,y.p,y.want,hcl2,s6.av dj.cells.toArray λ r2 w7 s7=>s7.az 0 rfl y.cells rfl y.one λ w8 s8=>⟨_,bz s8 0 rfl,?_⟩⟩;have s10:St w w8 (Sep (L (b8 (ic l).v l.length))):=s8.aA [1,2,3];exact cB (ai rfl ⟨by omega,by omega,_,val (cq _ _) hjl s10,s10⟩) s10
    ·refine cF (dF hlt) ⟨λ n w6 m=>∃ (j:Nat) (out:List Int),n=j/\j<=l.length/\m=l.length-j/\out.length=l.length/\St w w6 (Sep (L out)),⟨l.length,0,_,rfl,by omega,by omega,cq _ _,s6⟩,?_⟩;clear s6 hlt hj hm;rintro w14 m5 n9 ⟨j,out,rfl,hj,hm,hou,s6⟩ -
     by_cases hlt:(j:Int)<(l.length:Int)
     ·have hjl:j<l.length:=by omega
      refine cT (dT hlt) (ai rfl ⟨by omega,by omega,_,val hou hjl s6,ai rfl ⟨by omega,by omega,?_⟩⟩);rw[Int.toNat_natCast];exact St.kQ (v:=iv) rfl s6 (i:=j) (by omega) λ w15 s15=>⟨l.length-(j+1),by omega,j+1,_,ay ⟨by omega,by omega⟩,by omega,rfl,by simpa using hou,s15⟩
     ·refine cF (dF hlt) ((s6.aA [1,2]).az 0 rfl [.slice none 0 0,.slice (some ⟨g,0,none⟩) l.length cc] rfl (by simp[Value.oneCell']) λ w3 s3=>⟨_,_,_,_,_,_,s3.cellsIn 0 rfl,⟨none,0,0,_,_,_,by rw[hcons]⟩,s3.an⟩)
  ·have s4:=s2.quiet c4;refine⟨_,_,_,_,_,_,rfl,cT rfl (s4.az 0 rfl [.slice (some q) m cc,.slice none 0 0] rfl (by simp[Value.oneCell']) λ w3 s3=>⟨_,_,_,_,_,_,s3.cellsIn 0 rfl,⟨some q,m,cc,none,0,0,by rw[bO,ha,dF (by omega)]; rfl⟩,s3.an⟩)⟩
theorem Hg:gW prog 68 90 dj.v 12 96:=gW.mk' underlying68 (by kernel_rfl) rfl (by decide)
theorem um{w:World}{s:Se}{n:Int}{a:OA}{k:Nat}{l:List Ch}(hr:nG w a l)(hk:l.length<=k)(hl:l.length+1<=100)(c:Ch) :
  CP 163 #[.agg (DB s n a k l).toArray,c.v] w (λ r w'=>r=.bool (bO (l++[c]))/\ax w w' []):=by
 refine fH ?_;unfold dH;refine(St.start w).one.av (DB s n a k l).toArray λ r1 w1 s1=>s1.av c.cells.toArray λ r2 w2 s2=>⟨λ b w3=>b=bO (l++[c])/\ax w w3 [],?_,?_⟩
 ·rintro w3 b ⟨rfl,hc⟩;exact λ _=>⟨rfl,hc⟩
 have s3:=s2.quiet (ax.drew w2 []);have app:∀ {w' : World} {r:Nat} {B:List aJ} {R:Option Addr->Nat->Nat->World->Prop},St w w' (Sep (ah r c.cells.toArray 90 :: B))->(∀ a' c' w2,St w w2 (star (dA 90 12 Ch.cells a' c' (l++[c])) (Sep (ah r c.cells.toArray 90 :: B)))->R a' (l++[c]).length c' w2) ->
   aW prog (Builtin.append_ #[68,68] 68 #[.slice (if (((l.length:Nat):Int)).toNat=0 then a else Option.map (λ x=>Addr.add x (0*12)) a) ((((l.length:Nat):Int)).toNat-0) ((((l.length:Nat):Int)).toNat-0),.slice (some ⟨r,0,none⟩) 1 1]) w' λ e w2=>∃ a l c,e=.slice a l c/\R a l c w2:=by
  intro w' r B R sB hR;rw[Int.toNat_natCast,Ka,Nat.sub_zero];refine Co Hg Ch.len c.one sB (hr.an sB.an) (λ j u hj=>?_) (by omega) (by omega) hR;rw[sB.ag 0 rfl]; simpa using hj
 have fin:∀ {w' : World} {B:List aJ} {a' : OA} {c' : Nat},St w w' (star (dA 90 12 Ch.cells a' c' (l++[c])) (Sep B)) ->
   CC 192 #[.slice a' (l++[c]).length c'] w' (nH λ r w2=>(∃ a1 l1 c1 a2 l2 c2,r=.tuple #[.agg #[.slice a1 l1 c1,.slice a2 l2 c2],.bool (bO (l++[c]))])/\ax w' w2 []):=λ s=>Dn (St.rd Ch.len s) (by simpa using hl)
 let Wn:Array Value:=#[.slice none 0 0,.slice none 0 0];refine⟨_,_,_,s3.ag 1 rfl 5,_,_,_,s3.ag 1 rfl 5,_,_,_,s3.ag 1 rfl 5,by omega,by omega,by omega,by omega,c.p,c.want,s3.cellsIn 0 rfl,?_,?_⟩
 ·refine s3.av c.cells.toArray λ r3 w4 s4=>⟨s4.ag 2 rfl 5,s4.ag 2 rfl 5,s4.ag 2 rfl 5,app s4 λ a' c' w5 s5=>⟨aq (fin s5) ?_,?_⟩,?_⟩
  ·rintro v w6 ⟨⟨a1,l1,c1,a2,l2,c2,rfl⟩,c6⟩;exact⟨_,_,_,_,_,_,_,rfl,(St.start' (s5.an.trans c6 (by simp))).one.av Wn λ r4 w7 s7=>s7.az 0 rfl [.slice a1 l1 c1,.slice a2 l2 c2] rfl (by simp[Value.oneCell']) λ w8 s8=>⟨rfl,s8.an⟩⟩
  ·refine s5.first.one.av Wn λ r5 w9 s9=>aq (fin (s9.aA [1,0])) ?_;rintro v w6 ⟨⟨a1,l1,c1,a2,l2,c2,rfl⟩,c6⟩;exact⟨_,_,_,_,_,_,_,rfl,(s9.quiet c6).az 0 rfl [.slice a1 l1 c1,.slice a2 l2 c2] rfl (by simp[Value.oneCell']) λ w8 s8=>⟨rfl,s8.an⟩⟩
  ·refine s4.av Wn λ r6 w12 s12=>⟨s12.ag 3 rfl 5,s12.ag 3 rfl 5,s12.ag 3 rfl 5,app (s12.aA [1,0]) λ a' c' w13 s13=>aq (fin s13) ?_⟩;rintro v w6 ⟨⟨a1,l1,c1,a2,l2,c2,rfl⟩,c6⟩;exact⟨_,_,_,_,_,_,_,rfl,(s13.quiet c6).second.az 1 rfl [.slice a1 l1 c1,.slice a2 l2 c2] rfl (by simp[Value.oneCell']) λ w8 s8=>⟨rfl,s8.an⟩⟩
 ·refine s3.av Wn λ r7 w16 s16=>⟨s16.cellsIn 1 rfl,s16.ag 2 rfl 5,s16.ag 2 rfl 5,s16.ag 2 rfl 5,s16.av c.cells.toArray λ r8 w17 s17=>⟨s17.ag 3 rfl 5,s17.ag 3 rfl 5,s17.ag 3 rfl 5,app s17 λ a' c' w18 s18=>aq (fin s18) ?_⟩⟩;rintro v w6 ⟨⟨a1,l1,c1,a2,l2,c2,rfl⟩,c6⟩;exact⟨_,_,_,_,_,_,_,rfl,(s18.quiet c6).second.az 1 rfl [.slice a1 l1 c1,.slice a2 l2 c2] rfl (by simp[Value.oneCell']) λ w8 s8=>⟨rfl,s8.an⟩⟩
theorem CE{w:World}{s:Se}(h:xe w s){n:Nat}{b:Br}(hb:s.bd[n]?=some b){a:OA}{k:Nat}{l:List Ch}(hr:nG w a l)(hk:l.length<=k)(hl:l.length+1<=100)(ho:∀ c∈l,c.Ok){c:Ch}(hc:c.Ok) :
  CP 164 #[.agg (DB s n a k l).toArray,c.v] w (λ r w'=>r=.bool (mg s b l c||bO (l++[c]))/\ax w w' []):=by
 refine fI ?_;unfold dI;refine(St.start w).one.av (DB s n a k l).toArray λ r1 w1 s1=>s1.av c.cells.toArray λ r2 w2 s2=>?_;refine⟨_,_,_,_,_,_,_,_,_,_,_,_,_,_,_,_,s2.cellsIn 1 rfl,c.p,c.want,s2.cellsIn 0 rfl,aq (Bn (h.an s2.an) hb (hr.an s2.an) (by omega) ho hc) ?_⟩;rintro v w3 ⟨rfl,c3⟩;have s3:=s2.quiet c3;refine⟨_,rfl,?_⟩
 cases hf:mg s b l c with
 | true=>exact cT rfl ⟨rfl,s3.an⟩
 | false =>
  refine cF rfl ⟨_,_,_,_,_,_,_,_,_,_,_,_,_,_,_,_,s3.cellsIn 1 rfl,c.p,c.want,s3.cellsIn 0 rfl,aq (um (hr.an s3.an) hk hl c) ?_⟩;rintro v w4 ⟨rfl,c4⟩;exact⟨_,rfl,rfl,(s3.quiet c4).an⟩
def mD(rule:Int)(s:Se)(b:Br)(l:List Ch)(c:Ch):Bool:=if rule=1 then mg s b l c else if rule=2 then bO (l++[c]) else mg s b l c||bO (l++[c])
def mJ(rule:Int)(s:Se)(b:Br)(l:List Ch)(c:Ch):Int :=
 if 1<=rule/\rule<=3 then (if (if eW l then decide (c.want=z6) else mD rule s b l c) then 0 else 15) else 4
theorem DD{w:World}{s:Se}(h:xe w s){n:Nat}{b:Br}(hb:s.bd[n]?=some b){a:OA}{k:Nat}{l:List Ch}(hr:nG w a l)(hk:l.length<=k)(hl:l.length+1<=100)(ho:∀ c∈l,c.Ok){c:Ch}(hc:c.Ok)(rule:Int) :
  CP 130 #[.agg s.arr,iv rule,iv n,.slice a l.length k,c.v] w (λ r w'=>r=iv (mJ rule s b l c)/\ax w w' []):=by
 refine mK ?_;unfold jn;refine(St.start w).one.av s.arr λ r1 w1 s1=>s1.av c.cells.toArray λ r2 w2 s2=>⟨_,_,_,_,_,_,_,_,_,_,_,_,s2.cellsIn 1 rfl,s2.av #[.slice none 0 0,.slice none 0 0,.slice none 0 0,.slice none 0 0,iv 0,.slice none 0 0] λ r3 w3 s3=>s3.az 0 rfl (DB s n a k l) rfl (by simp[DB,Value.oneCell']) λ w4 s4=>?_⟩;have hn:n<s.bd.length:=(List.getElem?_eq_some_iff.1 hb).1;let Acc (x:Bool) (v:Value):Prop:=∀ (w' : World) (R:Ending->World->Prop),ax w w' []->(∀ w'',ax w' w'' []->R (.returned (.bool x)) w'')->gw prog v #[c.v] w' R;refine⟨_,_,_,_,_,_,_,_,_,_,_,_,_,_,_,_,s4.cellsIn 0 rfl,λ v w5=>(1<=rule/\rule<=3)/\Acc (mD rule s b l c) v/\St w w5 (Sep [ah r2 c.cells.toArray 90,ah r1 s.arr 27,emp]),?_,?_⟩
 ·rintro w5 v ⟨hru,hv,s5⟩ -;refine⟨_,_,_,_,_,_,_,_,_,_,_,_,s5.cellsIn 1 rfl,aq (Ej (n:Int)) ?_⟩;rintro r w6 ⟨rfl,c6⟩;have s6:=s5.quiet c6;refine⟨_,rfl,cF (by simp; omega) ⟨_,bz s6 0 rfl,aq (dr w6 c.want) ?_⟩⟩;rintro r w7 ⟨rfl,c7⟩;have s7:=s6.quiet c7;have h0:c.want.l.all dD=true:=by
   have:=xA.2 hc;rw[oX,Bool.and_eq_true] at this; exact this.2
  rw[h0];refine⟨_,rfl,cF rfl ⟨λ v w8=>Acc (if eW l then decide (c.want=z6) else mD rule s b l c) v/\St w w8 (Sep [ah r2 c.cells.toArray 90,ah r1 s.arr 27,emp]),?_,aq (Ea (hr.an s7.an) (by omega)) ?_⟩⟩
  ·rintro w8 v2 ⟨hv2,s8⟩ -;refine⟨_,_,s8.cellsIn 0 rfl,hv2 _ _ s8.an λ w9 c9=>⟨_,rfl,?_⟩⟩
   cases hx:(if eW l then decide (c.want=z6) else mD rule s b l c) with
   | false=>exact cT rfl ⟨by rw[mJ,if_pos hru,hx]; rfl,(s8.quiet c9).an⟩
   | true=>exact cF rfl ⟨by rw[mJ,if_pos hru,hx]; rfl,(s8.quiet c9).an⟩
  ·rintro r w8 ⟨rfl,rfl⟩;refine⟨_,rfl,?_⟩
   cases he:eW l with
   | false=>exact cF rfl ⟨hv,s7⟩
   | true =>
    refine cT rfl ⟨?_,s7⟩;intro w' R _ k;refine cI (by kernel_rfl) (aq (K:=λ r w''=>r=.bool (decide (c.want=z6))/\ax w' w'' []) (jR ?_) ?_)
    ·unfold gr;exact(St.start w').one.av c.cells.toArray λ r2 w2 s2=>⟨_,bz s2 0 rfl,by rw[I6.beq_eq],s2.an⟩
    ·rintro r w'' ⟨rfl,hc⟩; exact k w'' hc
 ·have s5:St w w4 (Sep [ah r2 c.cells.toArray 90,ah r1 s.arr 27,emp]):=s4.aA [1,2,3]
  by_cases h1:rule=1
  ·subst h1;refine cT rfl ⟨⟨by omega,by omega⟩,?_,s5⟩;intro w' R hw' k;refine cI (by kernel_rfl) (aq (Bn (h.an hw') hb (hr.an hw') (by omega) ho hc) ?_);rintro r w'' ⟨rfl,hc⟩; exact k w'' hc
  refine cF (by simpa using h1) ?_
  by_cases h2:rule=2
  ·subst h2;refine cT rfl ⟨_,_,_,_,_,_,_,_,_,_,_,_,_,_,_,_,s4.cellsIn 0 rfl,⟨by omega,by omega⟩,?_,s5⟩;intro w' R hw' k;refine cI (by kernel_rfl) (aq (um (hr.an hw') hk hl c) ?_);rintro r w'' ⟨rfl,hc⟩; exact k w'' hc
  refine cF (by simpa using h2) ?_
  by_cases h3:rule=3
  ·subst h3;refine cT rfl ⟨_,_,_,_,_,_,_,_,_,_,_,_,_,_,_,_,s4.cellsIn 0 rfl,⟨by omega,by omega⟩,?_,s5⟩;intro w' R hw' k;refine cI (by kernel_rfl) (aq (CE (h.an hw') hb (hr.an hw') hk hl ho hc) ?_);rintro r w'' ⟨rfl,hc⟩; exact k w'' hc
  exact cF (by simpa using h3) ⟨by rw[mJ,if_neg (by omega)],s5.an⟩
def gz(a:Nat)(w:World)(K:KP):=∃ b c d,w.cell? (qd a 8)=some (.slice b c d)/\K (iv (c:Int)) w
theorem j3{b1 w K}(h:gz b1 w K):CP 33 #[.pointer (some ⟨b1,0,none⟩)] w K:=aj (aC []) func33 (by kernel_rfl) (by kernel_rfl) h
def fN(a:Nat)(w:World)(K:KP):=au w (.cells z6.vs.toArray 30) λ b c=>∃ d:I6,af c (qd a 9) 0 d.vs/\aN (qd b 0) 0 d.vs c λ a=>∃ c:I6,af a (qd b 0) 0 c.vs/\K (.agg c.vs.toArray) a
theorem jF{b1 w K}(h:fN b1 w K):CP 15 #[.pointer (some ⟨b1,0,none⟩)] w K:=aj (aC []) func15 (by kernel_rfl) (by kernel_rfl) h
def de(a:Nat)(b:Int)(w:World)(K:KP):=∃ c:Bool->qW,(∀ d e,c e d->∀ f:qv,cond e (K qn d) (∃ e f g,d.cell? (qd a 8)=some (.slice e f g)/\∃ g:OA->Nat->Nat->Int->qN,(∃ h,g none 0 0 0 d h)/\∀ d h i j k l,g i j k l d h->∀ m:qv,cond (decide (l<(f:Int))) (ak e λ e=>0<=l/\l<(f:Int)/\∃ f:I6,∃ m n o p q r s t u,af d (Addr.add e ((l).toNat*9)) 0 (f.on [.slice m n o,.slice p q r,.slice s t u])/\au d (.cells #[qz,qz,qz,qz,qz,qz,qn,qn,qn] 58) λ e v=>aN (qd e 0) 0 (f.on [.slice m n o,.slice p q r,.slice s t u]) v λ f=>∃ m:I6,af f.drew (qd e 0) 0 m.vs/\∃ n o p,f.drew.cell? (qd e 6)=some (.slice n o p)/\ak n λ e=>0<=b/\b<(o:Int)/\∃ n:I6,af f.drew (Addr.add e ((b).toNat*6)) 0 n.vs/\au f.drew (.cells (m.on (n.vs):List Value).toArray 90) λ e f=>aW prog (Builtin.append_ #[68,68] 68 #[.slice i j k,.slice (some (qd e 0)) 1 1]) f λ e f=>∃ m n o,e=(.slice m n o)/\∃ e,e<h/\g m n o (IntKind.i64.wrap (l+1)) f e) (K (.slice i j k) d)))/\CC 57 #[qp a,iv b] w λ a b=>∃ d,a=.returned (.bool d)/\c (!d) b
theorem dQ{b1 n1 w K}(h:de b1 n1 w K):CP 24 #[.pointer (some ⟨b1,0,none⟩),iv n1] w K:=aj (aC [(6,[(15,.s .bool)]),(122,[(5,.s .slice),(21,.s (.int .i64))])]) func24 (by kernel_rfl) (by kernel_rfl) h
def fO(a:Nat)(w:World)(K:KP):=∃ b c d,w.cell? (qd a 8)=some (.slice b c d)/\CC 51 #[.slice b c d,.func (.func 52) #[] #[]] w λ a b=>∃ c d e,a=.returned (.slice c d e)/\K (.slice c d e) b
theorem jG{b1 w K}(h:fO b1 w K):CP 18 #[.pointer (some ⟨b1,0,none⟩)] w K:=aj (aC []) func18 (by kernel_rfl) (by kernel_rfl) h
def js(a:Nat)(b:Int)(w:World)(K:KP):=cond (decide (b>=0)) (∃ c d e,w.cell? (qd a 17)=some (.slice c d e)/\K (.bool (decide (b<(d:Int)))) w) (K (.bool false) w)
theorem mQ{b1 n1 w K}(h:js b1 n1 w K):CP 57 #[.pointer (some ⟨b1,0,none⟩),iv n1] w K:=aj (aC []) func57 (by kernel_rfl) (by kernel_rfl) h
def p6(a:OA)(b c:Nat)(d:OA)(e f:Nat)(g:OA)(h i:Nat)(j:OA)(k l:Nat)(w:World)(K:KP):=au w (.cells #[.slice a b c,.slice d e f,.slice g h i,.slice j k l] 27) λ a b=>au b (.cells #[qn,qn,qn,qn] 27) λ b c=>∃ d e f,c.drew.cell? (qd a 0)=some (.slice d e f)/\∃ g h i,c.drew.cell? (qd a 1)=some (.slice g h i)/\∃ j k l,c.drew.cell? (qd a 2)=some (.slice j k l)/\∃ m n o,c.drew.cell? (qd a 3)=some (.slice m n o)/\CC 126 #[.slice d e f] c.drew λ c d=>∃ e f p,c=.returned (.slice e f p)/\d.cell? (qd a 3)=some (.slice m n o)/\d.cell? (qd a 2)=some (.slice j k l)/\d.cell? (qd a 1)=some (.slice g h i)/\CC 127 #[.slice g h i] d λ c d=>∃ g h i,c=.returned (.slice g h i)/\d.cell? (qd a 3)=some (.slice m n o)/\d.cell? (qd a 2)=some (.slice j k l)/\CC 128 #[.slice j k l] d λ c d=>∃ j k l,c=.returned (.slice j k l)/\d.cell? (qd a 3)=some (.slice m n o)/\CC 129 #[.slice m n o] d λ a c=>∃ d m n,a=.returned (.slice d m n)/\aN (qd b 0) 0 [.slice e f p,.slice g h i,.slice j k l,.slice d m n] c λ a=>∃ c d e f g h i j k l m n,af a (qd b 0) 0 [.slice c d e,.slice f g h,.slice i j k,.slice l m n]/\K (.agg #[.slice c d e,.slice f g h,.slice i j k,.slice l m n]) a
theorem rS{a1 l1 c1 a2 l2 c2 a3 l3 c3 a4 l4 c4 w K}(h:p6 a1 l1 c1 a2 l2 c2 a3 l3 c3 a4 l4 c4 w K):CP 88 #[.agg #[.slice a1 l1 c1,.slice a2 l2 c2,.slice a3 l3 c3,.slice a4 l4 c4]] w K:=aj (aC []) func88 (by kernel_rfl) (by kernel_rfl) h
def fh(a:OA)(b c:Nat)(w:World)(K:KP):=aW prog (Instr.makeSlice 46 (iv (b:Int)) (iv (b:Int))) w λ d e=>∃ f g h,d=(.slice f g h)/\aW prog (Builtin.copy_ #[46,46] 3 #[.slice f g h,.slice a b c]) e λ _e1 a=>K (.slice f g h) a
theorem iW{a1 l1 c1 w K}(h:fh a1 l1 c1 w K):CP 99 #[.slice a1 l1 c1] w K:=aj (aC []) func99 (by kernel_rfl) (by kernel_rfl) h
def gB(a:OA)(b c:Nat)(w:World)(K:KP):=aW prog (Instr.makeSlice 47 (iv (b:Int)) (iv (b:Int))) w λ d e=>∃ f g h,d=(.slice f g h)/\aW prog (Builtin.copy_ #[47,47] 3 #[.slice f g h,.slice a b c]) e λ _e1 a=>K (.slice f g h) a
theorem j5{a1 l1 c1 w K}(h:gB a1 l1 c1 w K):CP 100 #[.slice a1 l1 c1] w K:=aj (aC []) func100 (by kernel_rfl) (by kernel_rfl) h
def iz(a:OA)(b c:Nat)(d:Value)(w:World)(K:KP):=∃ c:OA->Nat->Nat->Int->qN,(∃ e,c none 0 0 0 w e)/\∀ f e g h i j,c g h i j f e->∀ k:qv,cond (decide (j<(b:Int))) (ak a λ a=>0<=j/\j<(b:Int)/\∃ b:I6,∃ k l m n o p q r s,af f (Addr.add a ((j).toNat*9)) 0 (b.on [.slice k l m,.slice n o p,.slice q r s])/\au f (.cells #[qz,qz,qz,qz,qz,qz,qn,qn,qn] 58) λ a t=>aN (qd a 0) 0 (b.on [.slice k l m,.slice n o p,.slice q r s]) t λ b=>∃ k:I6,∃ l m n o p q r s t,af b (qd a 0) 0 (k.on [.slice l m n,.slice o p q,.slice r s t])/\gw prog d #[.agg (k.on [.slice l m n,.slice o p q,.slice r s t]:List Value).toArray] b λ a b=>∃ d:I6,∃ k l m n o p q r s,a=.returned (.agg (d.on [.slice k l m,.slice n o p,.slice q r s]:List Value).toArray)/\au b (.cells (d.on [.slice k l m,.slice n o p,.slice q r s]:List Value).toArray 58) λ a b=>aW prog (Builtin.append_ #[55,55] 55 #[.slice g h i,.slice (some (qd a 0)) 1 1]) b λ a b=>∃ d k l,a=(.slice d k l)/\∃ a,a<e/\c d k l (IntKind.i64.wrap (j+1)) b a) (K (.slice g h i) f)
theorem lM{a1 l1 c1 v1 w K}(h:iz a1 l1 c1 v1 w K):CP 51 #[.slice a1 l1 c1,v1] w K:=aj (aC [(58,[(5,.s .slice),(10,.s (.int .i64))])]) func51 (by kernel_rfl) (by kernel_rfl) h
def fP(a:I6)(b:OA)(c d:Nat)(e:OA)(f g:Nat)(h:OA)(i j:Nat)(w:World)(K:KP):=au w (.cells (a.on [.slice b c d,.slice e f g,.slice h i j]:List Value).toArray 58) λ a b=>au b (.cells #[qz,qz,qz,qz,qz,qz,qn,qn,qn] 58) λ b c=>∃ d e f,c.drew.cell? (qd a 6)=some (.slice d e f)/\∃ g h i,c.drew.cell? (qd a 7)=some (.slice g h i)/\∃ j k l,c.drew.cell? (qd a 8)=some (.slice j k l)/\CC 99 #[.slice d e f] c.drew λ c d=>∃ e f m,c=.returned (.slice e f m)/\d.cell? (qd a 8)=some (.slice j k l)/\d.cell? (qd a 7)=some (.slice g h i)/\CC 99 #[.slice g h i] d λ c d=>∃ g h i,c=.returned (.slice g h i)/\d.cell? (qd a 8)=some (.slice j k l)/\CC 100 #[.slice j k l] d λ c d=>∃ j k l,c=.returned (.slice j k l)/\dW d (qd a 6) (.slice e f m) λ c=>dW c (qd a 7) (.slice g h i) λ c=>dW c (qd a 8) (.slice j k l) λ c=>∃ d:I6,∃ e f g h i j k l m,af c (qd a 0) 0 (d.on [.slice e f g,.slice h i j,.slice k l m])/\aN (qd b 0) 0 (d.on [.slice e f g,.slice h i j,.slice k l m]) c λ a=>∃ c:I6,∃ d e f g h i j k l,af a (qd b 0) 0 (c.on [.slice d e f,.slice g h i,.slice j k l])/\K (.agg (c.on [.slice d e f,.slice g h i,.slice j k l]:List Value).toArray) a
theorem jH{u1 a1 l1 c1 a2 l2 c2 a3 l3 c3 w K}(h:fP u1 a1 l1 c1 a2 l2 c2 a3 l3 c3 w K):CP 52 #[.agg (u1.on [.slice a1 l1 c1,.slice a2 l2 c2,.slice a3 l3 c3]:List Value).toArray] w K:=aj (aC []) func52 (by kernel_rfl) (by kernel_rfl) h
def oY(a:OA)(b c:Nat)(d:OA)(e f:Nat)(g:OA)(h i:Nat)(j:OA)(k l:Nat)(m n o p:Int)(w:World)(K:KP):=au w (.cells #[.slice a b c,.slice d e f,.slice g h i,.slice j k l] 27) λ a b=>au b (.cells #[iv m,iv n,iv o,iv p] 41) λ b c=>∃ d e f g h i j k l m n o,af c (qd a 0) 0 [.slice d e f,.slice g h i,.slice j k l,.slice m n o]/\CC 34 #[.agg #[.slice d e f,.slice g h i,.slice j k l,.slice m n o]] c λ c d=>∃ e,c=.returned (iv e)/\cond (e !=0) (K (.tuple #[.pointer none,iv e]) d) (∃ c e f g,af d (qd b 0) 0 [iv c,iv e,iv f,iv g]/\CC 87 #[.agg #[iv c,iv e,iv f,iv g]] d λ c d=>∃ e,c=.returned (iv e)/\cond (e !=0) (K (.tuple #[.pointer none,iv e]) d) (∃ c:OA->qW,(∀ e f,c f e->∀ g:qv,CC 90 #[.pointer f] e λ e g=>e=.returned (.tuple #[])/\K (.tuple #[.pointer f,qz]) g)/\∃ e f g h i j k l m n o p,af d.drew (qd a 0) 0 [.slice e f g,.slice h i j,.slice k l m,.slice n o p]/\∃ q r s t,af d.drew (qd b 0) 0 [iv q,iv r,iv s,iv t]/\∃ u v x,d.drew.cell? (qd a 0)=some (.slice u v x)/\∃ y z A,d.drew.cell? (qd a 1)=some (.slice y z A)/\(CC 88 #[.agg #[.slice e f g,.slice h i j,.slice k l m,.slice n o p]] d.drew λ B C=>∃ D E F G H I J L M N O P,B=.returned (.agg #[.slice D E F,.slice G H I,.slice J L M,.slice N O P])/\C.cell? (qd a 1)=some (.slice y z A)/\C.cell? (qd a 0)=some (.slice u v x)/\af C (qd b 0) 0 [iv q,iv r,iv s,iv t]/\(CC 89 #[.slice u v x] C λ B Q=>∃ R:I6,B=.returned (.agg R.vs.toArray)/\Q.cell? (qd a 1)=some (.slice y z A)/\af Q (qd b 0) 0 [iv q,iv r,iv s,iv t]/\aW prog (Instr.makeSlice 47 (iv (z:Int)) (iv (z:Int))) Q λ y A=>∃ B Q S,y=(.slice B Q S)/\af A (qd b 0) 0 [iv q,iv r,iv s,iv t]/\au A (.cells (.slice D E F :: .slice G H I :: .slice J L M :: .slice N O P :: iv q :: iv r :: iv s :: iv t :: qn :: R.on [qn,qn,.slice B Q S,.bool false]:List Value).toArray 103) λ y A=>c (some (qd y 0)) A)/\aW prog (Instr.makeSlice 47 (iv (z:Int)) (iv (z:Int))) C λ y A=>∃ B C Q,y=(.slice B C Q)/\A.cell? (qd a 0)=some (.slice u v x)/\af A (qd b 0) 0 [iv q,iv r,iv s,iv t]/\CC 89 #[.slice u v x] A λ y A=>∃ R:I6,y=.returned (.agg R.vs.toArray)/\af A (qd b 0) 0 [iv q,iv r,iv s,iv t]/\au A (.cells (.slice D E F :: .slice G H I :: .slice J L M :: .slice N O P :: iv q :: iv r :: iv s :: iv t :: qn :: R.on [qn,qn,.slice B C Q,.bool false]:List Value).toArray 103) λ y A=>c (some (qd y 0)) A)/\aW prog (Instr.makeSlice 47 (iv (z:Int)) (iv (z:Int))) d.drew λ d y=>∃ z A B,d=(.slice z A B)/\y.cell? (qd a 0)=some (.slice u v x)/\af y (qd b 0) 0 [iv q,iv r,iv s,iv t]/\af y (qd a 0) 0 [.slice e f g,.slice h i j,.slice k l m,.slice n o p]/\CC 88 #[.agg #[.slice e f g,.slice h i j,.slice k l m,.slice n o p]] y λ d e=>∃ f g h i j k l m n o p y,d=.returned (.agg #[.slice f g h,.slice i j k,.slice l m n,.slice o p y])/\e.cell? (qd a 0)=some (.slice u v x)/\af e (qd b 0) 0 [iv q,iv r,iv s,iv t]/\CC 89 #[.slice u v x] e λ a d=>∃ e:I6,a=.returned (.agg e.vs.toArray)/\af d (qd b 0) 0 [iv q,iv r,iv s,iv t]/\au d (.cells (.slice f g h :: .slice i j k :: .slice l m n :: .slice o p y :: iv q :: iv r :: iv s :: iv t :: qn :: e.on [qn,qn,.slice z A B,.bool false]:List Value).toArray 103) λ a b=>c (some (qd a 0)) b))
theorem nP{a1 l1 c1 a2 l2 c2 a3 l3 c3 a4 l4 c4 n1 n2 n3 n4 w K}(h:oY a1 l1 c1 a2 l2 c2 a3 l3 c3 a4 l4 c4 n1 n2 n3 n4 w K):CP 46 #[.agg #[.slice a1 l1 c1,.slice a2 l2 c2,.slice a3 l3 c3,.slice a4 l4 c4],.agg #[iv n1,iv n2,iv n3,iv n4]] w K:=aj (aC [(15,[(8,.s .ptr)])]) func46 (by kernel_rfl) (by kernel_rfl) h
def jr(a:Nat)(b:Int)(c:I6)(w:World)(K:KP):=au w (.cells c.vs.toArray 35) λ c d=>∃ e,d.cell? (qd a 18)=some (.bool e)/\cond e (K (iv 10) d) (CC 57 #[qp a,iv b] d λ d e=>∃ f,d=.returned (.bool f)/\cond (!f) (K (iv 6) e) (∃ d f g,e.cell? (qd a 17)=some (.slice d f g)/\ak d λ d=>0<=b/\b<(f:Int)/\∃ f,e.cell? (Addr.add d ((b).toNat*1))=some (.bool f)/\cond f (K (iv 10) e) (∃ d:I6,af e.drew (qd a 9) 0 d.vs/\∃ f:I6,af e.drew (qd c 0) 0 f.vs/\au e.drew (.cells #[qz,qz,qz,qz,qz,qz,qz,qz,qz,qz,qz,qz] 90) λ e g=>af g (qd c 0) 0 f.vs/\af g (qd a 9) 0 d.vs/\aN (qd e 0) 0 (d.on (f.vs)) g λ d=>∃ f g h i j k l m n o p q,af d.drew (qd a 0) 0 [.slice f g h,.slice i j k,.slice l m n,.slice o p q]/\∃ r:I6,af d.drew (qd c 0) 0 r.vs/\CC 37 #[.agg #[.slice f g h,.slice i j k,.slice l m n,.slice o p q],iv b,.agg r.vs.toArray] d.drew λ d f=>∃ g,d=.returned (iv g)/\cond (g !=0) (K (iv g) f) (∃ d g h i j k l m n o p q,af f.drew (qd a 0) 0 [.slice d g h,.slice i j k,.slice l m n,.slice o p q]/\∃ r s:I6,af f.drew (qd e 0) 0 (r.on (s.vs))/\CC 38 #[.agg #[.slice d g h,.slice i j k,.slice l m n,.slice o p q],iv b,.agg (r.on (s.vs):List Value).toArray] f.drew λ d f=>∃ g,d=.returned (iv g)/\cond (g !=0) (K (iv g) f) (∃ d g h i j k l m n o p q,af f.drew (qd a 0) 0 [.slice d g h,.slice i j k,.slice l m n,.slice o p q]/\∃ r,f.drew.cell? (qd a 7)=some (iv r)/\∃ s t:I6,af f.drew (qd e 0) 0 (s.on (t.vs))/\CC 24 #[qp a,iv b] f.drew λ f u=>∃ v x y,f=.returned (.slice v x y)/\af u (qd e 0) 0 (s.on (t.vs))/\u.cell? (qd a 7)=some (iv r)/\af u (qd a 0) 0 [.slice d g h,.slice i j k,.slice l m n,.slice o p q]/\CC 130 #[.agg #[.slice d g h,.slice i j k,.slice l m n,.slice o p q],iv r,iv b,.slice v x y,.agg (s.on (t.vs):List Value).toArray] u λ d e=>∃ f,d=.returned (iv f)/\cond (f !=0) (K (iv f) e) (∃ d f g,e.drew.cell? (qd a 15)=some (.slice d f g)/\∃ g h i,e.drew.cell? (qd a 16)=some (.slice g h i)/\∃ a:I6,af e.drew (qd c 0) 0 a.vs/\ak d λ c=>0<=b/\b<(f:Int)/\aN (Addr.add c ((b).toNat*6)) 0 a.vs e.drew λ a=>ak g λ c=>0<=b/\b<(h:Int)/\dW a (Addr.add c ((b).toNat*1)) (.bool true) λ a=>K qz a))))))
theorem mP{b1 n1 u1 w K}(h:jr b1 n1 u1 w K):CP 91 #[.pointer (some ⟨b1,0,none⟩),iv n1,.agg u1.vs.toArray] w K:=aj (aC []) func91 (by kernel_rfl) (by kernel_rfl) h
def gy(a:Nat)(w:World)(K:KP):=∃ b,w.cell? (qd a 18)=some (.bool b)/\cond b (K (.tuple #[.bool false,iv 10]) w) (∃ b c d,w.cell? (qd a 0)=some (.slice b c d)/\CC 41 #[.slice b c d] w λ b c=>∃ d:I6,b=.returned (.agg d.vs.toArray)/\au c (.cells z6.vs.toArray 35) λ b c=>aN (qd b 0) 0 d.vs c λ c=>∃ d e f,c.cell? (qd a 15)=some (.slice d e f)/\CC 99 #[.slice d e f] c λ c d=>∃ e f g,c=.returned (.slice e f g)/\∃ c:OA->Nat->Nat->qW,(∀ h i j k,c i j k h->∀ l:qv,∃ l m n,h.drew.cell? (qd a 8)=some (.slice l m n)/\∃ o:I6,af h.drew (qd a 9) 0 o.vs/\∃ p q r,h.drew.cell? (qd a 15)=some (.slice p q r)/\∃ s t u,h.drew.cell? (qd a 16)=some (.slice s t u)/\au h.drew (.cells (o.on [.slice p q r,.slice i j k,.slice s t u]:List Value).toArray 58) λ h o=>o.cell? (qd a 8)=some (.slice l m n)/\aW prog (Builtin.append_ #[55,55] 55 #[.slice l m n,.slice (some (qd h 0)) 1 1]) o λ h l=>∃ m n o,h=(.slice m n o)/\dW l (qd a 8) (.slice m n o) λ h=>CC 90 #[qp a] h λ h l=>h=.returned (.tuple #[])/\∃ h:I6,af l (qd b 0) 0 h.vs/\CC 133 #[.agg h.vs.toArray,.slice i j k] l λ h i=>∃ j:I6,h=.returned (.agg j.vs.toArray)/\au i (.cells z6.vs.toArray 35) λ h i=>aN (qd h 0) 0 j.vs i λ i=>∃ j:Nat->Int->qW,(∀ k l m,j l m k->∀ n:qv,∃ n:Bool->qW,(∀ o p,n p o->∀ q:qv,cond p (dW o (qd a 18) (.bool true) λ p=>K (.tuple #[.bool true,qz]) p) (∃ p:I6,af o (qd l 0) 0 p.vs/\aN (qd a 9) 0 p.vs o λ l=>K (.tuple #[.bool false,qz]) l))/\∃ l:I6,af k (qd h 0) 0 l.vs/\cond (I6.beq l z6) (n true k) (∃ l o p,k.cell? (qd a 8)=some (.slice l o p)/\cond (decide ((o:Int)>=(30:Int))) (n true k) (n (m !=0) k)))/\∃ k l m n,af i.drew (qd a 4) 0 [iv k,iv l,iv m,iv n]/\∃ o:I6,af i.drew (qd a 9) 0 o.vs/\∃ p:I6,af i.drew (qd h 0) 0 p.vs/\(CC 134 #[.agg #[iv k,iv l,iv m,iv n],.agg o.vs.toArray,.agg p.vs.toArray] i.drew λ q r=>∃ s:I6,∃ t,q=.returned (.tuple #[.agg s.vs.toArray,iv t])/\au r (.cells z6.vs.toArray 30) λ q r=>aN (qd q 0) 0 s.vs r λ r=>j q t r)/\au i.drew (.cells z6.vs.toArray 30) λ i q=>af q (qd h 0) 0 p.vs/\af q (qd a 9) 0 o.vs/\af q (qd a 4) 0 [iv k,iv l,iv m,iv n]/\CC 134 #[.agg #[iv k,iv l,iv m,iv n],.agg o.vs.toArray,.agg p.vs.toArray] q λ h k=>∃ l:I6,∃ m,h=.returned (.tuple #[.agg l.vs.toArray,iv m])/\aN (qd i 0) 0 l.vs k λ h=>j i m h)/\∃ h i j,d.cell? (qd a 8)=some (.slice h i j)/\cond (decide ((i:Int)>(0:Int))) (∃ h,d.drew.cell? (qd a 6)=some (iv h)/\∃ i:I6,af d.drew (qd b 0) 0 i.vs/\∃ j k l,d.drew.cell? (qd a 15)=some (.slice j k l)/\CC 132 #[qp a] d.drew λ m n=>∃ o p q,m=.returned (.slice o p q)/\n.cell? (qd a 15)=some (.slice j k l)/\af n (qd b 0) 0 i.vs/\n.cell? (qd a 6)=some (iv h)/\CC 131 #[iv h,.agg i.vs.toArray,.slice o p q,.slice j k l] n λ a b=>∃ h i j k,a=.returned (.tuple #[.slice h i j,iv k])/\cond (k !=0) (K (.tuple #[.bool false,iv k]) b) (c h i j b)) (c e f g d))
theorem j0{b1 w K}(h:gy b1 w K):CP 92 #[.pointer (some ⟨b1,0,none⟩)] w K:=aj (aC [(31,[(5,.s .slice)]),(511,[(9,.s (.blk)),(10,.s (.int .i64))]),(2046,[(111,.s .bool)])]) func92 (by kernel_rfl) (by kernel_rfl) h
def gA(a:Nat)(w:World)(K:KP):=∃ b c d,w.drew.cell? (qd a 17)=some (.slice b c d)/\∃ e f g,w.drew.cell? (qd a 17)=some (.slice e f g)/\(aW prog (Instr.makeSlice 46 (iv (c:Int)) (iv (c:Int))) w.drew λ h i=>∃ j k l,h=(.slice j k l)/\i.cell? (qd a 17)=some (.slice e f g)/\(aW prog (Instr.makeSlice 47 (iv (f:Int)) (iv (f:Int))) i λ e g=>∃ h m n,e=(.slice h m n)/\dW g (qd a 15) (.slice j k l) λ e=>dW e (qd a 16) (.slice h m n) λ e=>K (.tuple #[]) e)/\dW i (qd a 15) (.slice j k l) λ e=>aW prog (Instr.makeSlice 47 (iv (f:Int)) (iv (f:Int))) e λ e g=>∃ h i j,e=(.slice h i j)/\dW g (qd a 16) (.slice h i j) λ e=>K (.tuple #[]) e)/\aW prog (Instr.makeSlice 47 (iv (f:Int)) (iv (f:Int))) w.drew λ e f=>∃ g h i,e=(.slice g h i)/\f.cell? (qd a 17)=some (.slice b c d)/\aW prog (Instr.makeSlice 46 (iv (c:Int)) (iv (c:Int))) f λ b c=>∃ d e f,b=(.slice d e f)/\dW c (qd a 15) (.slice d e f) λ b=>dW b (qd a 16) (.slice g h i) λ a=>K (.tuple #[]) a
theorem j4{b1 w K}(h:gA b1 w K):CP 90 #[.pointer (some ⟨b1,0,none⟩)] w K:=aj (aC []) func90 (by kernel_rfl) (by kernel_rfl) h
def eT(a:Nat)(w:World)(K:KP):=∃ b c d,w.drew.cell? (qd a 8)=some (.slice b c d)/\∃ d e f,w.drew.cell? (qd a 8)=some (.slice d e f)/\ak b λ b=>0<=(IntKind.i64.wrap ((e:Int)-(1:Int)))/\(IntKind.i64.wrap ((e:Int)-(1:Int)))<(c:Int)/\∃ c d f,w.drew.cell? (Addr.add (Addr.add b (((IntKind.i64.wrap ((e:Int)-(1:Int)))).toNat*9)) 7)=some (.slice c d f)/\CC 99 #[.slice c d f] w.drew λ b c=>∃ d e f,b=.returned (.slice d e f)/\∃ b g h,c.cell? (qd a 17)=some (.slice b g h)/\∃ a:Int->qN,(∃ h,a 0 c h)/\∀ c h i,a i c h->∀ j:qv,cond (decide (i<(g:Int))) (∃ j:qW,(∀ k,j k->∀ l:qv,∃ l,l<h/\a (IntKind.i64.wrap (i+1)) k l)/\ak b λ a=>0<=i/\i<(g:Int)/\∃ b,c.cell? (Addr.add a ((i).toNat*1))=some (.bool b)/\cond b (ak d λ a=>0<=i/\i<(e:Int)/\aN (Addr.add a ((i).toNat*6)) 0 z6.vs c λ a=>j a) (j c)) (K (.slice d e f) c)
theorem iy{b1 w K}(h:eT b1 w K):CP 132 #[.pointer (some ⟨b1,0,none⟩)] w K:=aj (aC [(58,[(25,.s (.int .i64))]),(467,[])]) func132 (by kernel_rfl) (by kernel_rfl) h
theorem Kr:gW prog 22 117 (.agg ({ nm:=[],sup:=0,res:=0,pts:=0,grp:=0 }:Pr).cells.toArray) 5 48:=gW.mk' underlying22 (by kernel_rfl) rfl (by decide)
theorem Kn:gW prog 23 66 (.agg ({ nm:=[],cls:=0,bud:=0,pts:=0 }:Br).cells.toArray) 4 40:=gW.mk' underlying23 (by kernel_rfl) rfl (by decide)
theorem Ko:gW prog 24 113 (.agg (⟨0,0,0⟩:T3).cells.toArray) 3 24:=gW.mk' underlying24 (by kernel_rfl) rfl (by decide)
theorem Km:gW prog 25 115 (.agg (⟨0,0,0⟩:T3).cells.toArray) 3 24:=gW.mk' underlying25 (by kernel_rfl) rfl (by decide)
theorem Pr.len(p:Pr):p.cells.length=5:=rfl
theorem Br.len(p:Br):p.cells.length=4:=rfl
theorem T3.len(p:T3):p.cells.length=3:=rfl
theorem dX.fl{w:World}{a:OA}{l:List Pr}(h:dX w a l):bU 5 Pr.cells w a l:=λ _ p hp=>let ⟨_,q,hq,hc⟩:=h _ p hp; ⟨q,_,hq,hc,rfl,rfl⟩
theorem iS.fl{w:World}{a:OA}{l:List Br}(h:iS w a l):bU 4 Br.cells w a l:=λ _ p hp=>let ⟨_,q,hq,hc⟩:=h _ p hp; ⟨q,_,hq,hc,rfl,rfl⟩
theorem Ci.fl{w:World}{a:OA}{l:List T3}(h:Ci w a l):bU 3 T3.cells w a l:=λ _ p hp=>let ⟨q,hq,hc⟩:=h _ p hp; ⟨q,_,hq,hc,rfl,rfl⟩
theorem dX.of{w:World}{a:OA}{l:List Pr}(h:bU 5 Pr.cells w a l)(k:∀ p∈l,p.In):dX w a l:=λ _ p hp=>let ⟨q,hq,hc⟩:=h.at hp; ⟨k p (List.mem_of_getElem? hp),q,hq,hc⟩
theorem iS.of{w:World}{a:OA}{l:List Br}(h:bU 4 Br.cells w a l)(k:∀ p∈l,p.In):iS w a l:=λ _ p hp=>let ⟨q,hq,hc⟩:=h.at hp; ⟨k p (List.mem_of_getElem? hp),q,hq,hc⟩
theorem Ci.of{w:World}{a:OA}{l:List T3}(h:bU 3 T3.cells w a l):Ci w a l:=λ _ _ hp=>let ⟨q,hq,hc⟩:=h.at hp; ⟨q,hq,hc⟩
theorem dX.in{w:World}{a:OA}{l:List Pr}(h:dX w a l):∀ p∈l,p.In:=λ p hp=>let ⟨i,hi⟩:=List.getElem?_of_mem hp; (h i p hi).1
theorem iS.in{w:World}{a:OA}{l:List Br}(h:iS w a l):∀ p∈l,p.In:=λ p hp=>let ⟨i,hi⟩:=List.getElem?_of_mem hp; (h i p hi).1
theorem Cv{w:World}{a:OA}{c:Nat}{l:List Pr}(h:bU 5 Pr.cells w a l)(hl:l.length<=1000) :
  CP 126 #[.slice a l.length c] w (λ r w'=>∃ a' c',r=.slice a' l.length c'/\St w w' (dA 117 5 Pr.cells a' c' l)):=by
 refine iM ?_;unfold e6;exact iD (c:=c) (K:=λ r w'=>∃ a' c',r=.slice a' l.length c'/\St w w' (dA 117 5 Pr.cells a' c' l)) Kr Pr.len Pr.one (St.start w) h (by omega) (by omega) λ a' c' w' s'=>⟨a',c',rfl,s'.first⟩
theorem Ct{w:World}{a:OA}{c:Nat}{l:List Br}(h:bU 4 Br.cells w a l)(hl:l.length<=1000) :
  CP 127 #[.slice a l.length c] w (λ r w'=>∃ a' c',r=.slice a' l.length c'/\St w w' (dA 66 4 Br.cells a' c' l)):=by
 refine jg ?_;unfold fm;exact iD (c:=c) (K:=λ r w'=>∃ a' c',r=.slice a' l.length c'/\St w w' (dA 66 4 Br.cells a' c' l)) Kn Br.len Br.one (St.start w) h (by omega) (by omega) λ a' c' w' s'=>⟨a',c',rfl,s'.first⟩
theorem Cu{w:World}{a:OA}{c:Nat}{l:List T3}(h:bU 3 T3.cells w a l)(hl:l.length<=1000) :
  CP 128 #[.slice a l.length c] w (λ r w'=>∃ a' c',r=.slice a' l.length c'/\St w w' (dA 113 3 T3.cells a' c' l)):=by
 refine lU ?_;unfold iL;exact iD (c:=c) (K:=λ r w'=>∃ a' c',r=.slice a' l.length c'/\St w w' (dA 113 3 T3.cells a' c' l)) Ko T3.len T3.one (St.start w) h (by omega) (by omega) λ a' c' w' s'=>⟨a',c',rfl,s'.first⟩
theorem Cs{w:World}{a:OA}{c:Nat}{l:List T3}(h:bU 3 T3.cells w a l)(hl:l.length<=1000) :
  CP 129 #[.slice a l.length c] w (λ r w'=>∃ a' c',r=.slice a' l.length c'/\St w w' (dA 115 3 T3.cells a' c' l)):=by
 refine jM ?_;unfold fW;exact iD (c:=c) (K:=λ r w'=>∃ a' c',r=.slice a' l.length c'/\St w w' (dA 115 3 T3.cells a' c' l)) Km T3.len T3.one (St.start w) h (by omega) (by omega) λ a' c' w' s'=>⟨a',c',rfl,s'.first⟩
def Se.er(s:Se):Se:={ s with a1:=none,c1:=0,a2:=none,c2:=0,a3:=none,c3:=0,a4:=none,c4:=0 }
structure Se.Sz (s:Se):Prop where
 ps:s.ps.length<=100
 bd:s.bd.length<=100
 cp:s.cp.length<=100
 sa:s.sa.length<=100
theorem Se.Ok.sz{s:Se}(h:s.Ok):s.Sz:=⟨by have:=h.ps.l2; omega,by have:=h.bd.l2; omega,by have:=h.cp.l1; omega,by have:=h.sa.l1; omega⟩
theorem xz{w:World}{S:Se}(h:S.In w)(hz:S.Sz) :
  CP 88 #[.agg S.arr] w (λ r w'=>∃ S' : Se,S'.er=S.er/\r=.agg S'.arr/\St w w' (held S'.In)):=by
 refine rS ?_;unfold p6;obtain⟨z1,z2,z3,z4⟩:=hz;refine(St.start w).one.av S.arr λ r1 w1 s1=>s1.av #[.slice none 0 0,.slice none 0 0,.slice none 0 0,.slice none 0 0] λ r2 w2 s2=>?_;have s3:=s2.quiet (ax.drew w2 []);refine⟨_,_,_,s3.ag 1 rfl 0,_,_,_,s3.ag 1 rfl 1,_,_,_,s3.ag 1 rfl 2,_,_,_,s3.ag 1 rfl 3,aq (Cv (h.an s3.an).ps.fl (by omega)) ?_⟩;rintro v w3 ⟨a1,c1,rfl,k1⟩;have s4:St w w3 (Sep [_,_,_,_]):=s3.and k1;refine⟨_,_,_,rfl,s4.ag 2 rfl 3,s4.ag 2 rfl 2,s4.ag 2 rfl 1,aq (Ct (h.an s4.an).bd.fl (by omega)) ?_⟩;rintro v w4 ⟨a2,c2,rfl,k2⟩;have s5:St w w4 (Sep [_,_,_,_,_]):=s4.and k2;refine⟨_,_,_,rfl,s5.ag 3 rfl 3,s5.ag 3 rfl 2,aq (Cu (h.an s5.an).cp.fl (by omega)) ?_⟩;rintro v w5 ⟨a3,c3,rfl,k3⟩;have s6:St w w5 (Sep [_,_,_,_,_,_]):=s5.and k3;refine⟨_,_,_,rfl,s6.ag 4 rfl 3,aq (Cs (h.an s6.an).sa.fl (by omega)) ?_⟩;rintro v w6 ⟨a4,c4,rfl,k4⟩;have s7:St w w6 (Sep [_,_,_,_,_,_,_]):=s6.and k4;let S' : Se:={ S with a1:=a1,c1:=c1,a2:=a2,c2:=c2,a3:=a3,c3:=c3,a4:=a4,c4:=c4 };refine⟨_,_,_,rfl,s7.az 4 rfl S'.arr.toList rfl (by simp[S',Se.arr,Value.oneCell']) λ w7 s8=>⟨_,_,_,_,_,_,_,_,_,_,_,_,s8.cellsIn 4 rfl,S',rfl,rfl,?_⟩⟩;have q4:=St.sU (s8.out 0 rfl); have q3:=St.sU (s8.out 1 rfl); have q2:=St.sU (s8.out 2 rfl); have q1:=St.sU (s8.out 3 rfl);exact((s8.aA [0,1,2,3]).held ((bJ T3.len).cons ((bJ T3.len).cons ((bJ Br.len).cons ((bJ Pr.len).cons nF.nil))))).weak (pg λ w' ⟨i4,i3,i2,i1,_⟩=>⟨dX.of i1 h.ps.in,iS.of i2 h.bd.in,Ci.of i3,Ci.of i4,q1.1,q2.1,q3.1,q4.1⟩)
abbrev bl (b:Bool):List Value:=[.bool b]
theorem aP(b:Bool):(bl b).length=1:=rfl
theorem DM(b:Bool):∀ v∈bl b,v.oneCell' = true:=by intro v hv; simp at hv; subst hv; rfl
structure Rn where
 p:I6
 ask:List I6
 got:List I6
 bd:List Bool
 xa:Option Addr
 xc:Nat
 ga:Option Addr
 gc:Nat
 ba:Option Addr
 bc:Nat
def Rn.cells(x:Rn):List Value:=x.p.on [.slice x.xa x.ask.length x.xc,.slice x.ga x.got.length x.gc,.slice x.ba x.bd.length x.bc]
theorem Rn.len(x:Rn):x.cells.length=9:=rfl
theorem Rn.one(x:Rn):∀ v∈x.cells,v.oneCell' = true:=by
 intro v hv; simp[Rn.cells,I6.on] at hv; rcases hv with rfl|rfl|rfl|rfl|rfl|rfl|rfl|rfl|rfl<;>rfl
def Rn.er(x:Rn):Rn:={ x with xa:=none,xc:=0,ga:=none,gc:=0,ba:=none,bc:=0 }
def IZ:Rn:=⟨z6,[],[],[],none,0,none,0,none,0⟩
structure Rn.In (x:Rn) (w:World):Prop where
 ask:bU 6 I6.vs w x.xa x.ask
 got:bU 6 I6.vs w x.ga x.got
 bd:bU 1 bl w x.ba x.bd
theorem Rn.In.an{x:Rn}{w w' : World}(h:x.In w)(hc:ax w w' []):x.In w':=⟨h.ask.an hc,h.got.an hc,h.bd.an hc⟩
structure Rn.Sz (n:Nat) (x:Rn):Prop where
 ask:x.ask.length=n
 got:x.got.length=n
 bd:x.bd.length=n
theorem bY:gW prog 47 4 (.bool false) 1 1:=gW.mk' underlying47 (by kernel_rfl) rfl (by decide)
theorem JK:gW prog 55 58 (.agg IZ.cells.toArray) 9 120:=gW.mk' underlying55 (by kernel_rfl) rfl (by decide)
abbrev bE (a:OA) (c:Nat) (l:List Bool):aJ:=dA 4 1 bl a c l
abbrev wZ (a:OA) (c:Nat) (l:List Rn):aJ:=dA 58 9 Rn.cells a c l
theorem kZ{w:World}{a:OA}{c:Nat}{l:List I6}(h:bU 6 I6.vs w a l)(hl:l.length<=1000) :
  CP 99 #[.slice a l.length c] w (λ r w'=>∃ g,r=.slice (some ⟨g,0,none⟩) l.length l.length/\St w w' (bn (some ⟨g,0,none⟩) l.length l)):=by
 refine iW ?_;unfold fh;exact uk (c:=c) (x0:=z6) (K:=λ r w'=>∃ g,r=.slice (some ⟨g,0,none⟩) l.length l.length/\St w w' (bn (some ⟨g,0,none⟩) l.length l)) eZ aM I6.one rfl (St.start w) h (by omega) (by omega) λ g w' s'=>⟨g,rfl,s'.first⟩
theorem Cw{w:World}{a:OA}{c:Nat}{l:List Bool}(h:bU 1 bl w a l)(hl:l.length<=1000) :
  CP 100 #[.slice a l.length c] w (λ r w'=>∃ g,r=.slice (some ⟨g,0,none⟩) l.length l.length/\St w w' (bE (some ⟨g,0,none⟩) l.length l)):=by
 refine j5 ?_;unfold gB;exact uk (c:=c) (x0:=false) (K:=λ r w'=>∃ g,r=.slice (some ⟨g,0,none⟩) l.length l.length/\St w w' (bE (some ⟨g,0,none⟩) l.length l)) bY aP DM rfl (St.start w) h (by omega) (by omega) λ g w' s'=>⟨g,rfl,s'.first⟩
theorem Dj{w:World}{x:Rn}{n:Nat}(h:x.In w)(hz:x.Sz n)(hn:n<=1000) :
  CP 52 #[.agg x.cells.toArray] w (λ r w'=>∃ x' : Rn,x'.er=x.er/\r=.agg x'.cells.toArray/\St w w' (held x'.In)):=by
 refine jH ?_;unfold fP;have z1:=hz.ask; have z2:=hz.got; have z3:=hz.bd;refine(St.start w).one.av x.cells.toArray λ r1 w1 s1=>s1.av IZ.cells.toArray λ r2 w2 s2=>?_;have s3:=s2.quiet (ax.drew w2 []);refine⟨_,_,_,s3.ag 1 rfl 6,_,_,_,s3.ag 1 rfl 7,_,_,_,s3.ag 1 rfl 8,aq (kZ (h.an s3.an).ask (by omega)) ?_⟩;rintro v w3 ⟨a1,rfl,k1⟩;have s4:St w w3 (Sep [_,_,_,_]):=s3.and k1;refine⟨_,_,_,rfl,s4.ag 2 rfl 8,s4.ag 2 rfl 7,aq (kZ (h.an s4.an).got (by omega)) ?_⟩;rintro v w4 ⟨a2,rfl,k2⟩;have s5:St w w4 (Sep [_,_,_,_,_]):=s4.and k2;refine⟨_,_,_,rfl,s5.ag 3 rfl 8,aq (Cw (h.an s5.an).bd (by omega)) ?_⟩;rintro v w5 ⟨a3,rfl,k3⟩;have s6:St w w5 (Sep [_,_,_,_,_,_]):=s5.and k3;let x' : Rn:={ x with xa:=some ⟨a1,0,none⟩,xc:=x.ask.length,ga:=some ⟨a2,0,none⟩,gc:=x.got.length,ba:=some ⟨a3,0,none⟩,bc:=x.bd.length };refine⟨_,_,_,rfl,s6.bL 4 rfl (j:=6) (show 6<9 by decide) rfl λ w6 s7=>s7.bL 4 rfl (j:=7) (show 7<9 by decide) rfl λ w7 s8=>s8.bL 4 rfl (j:=8) (show 8<9 by decide) rfl λ w8 s9=>?_⟩;refine⟨x.p,_,_,_,_,_,_,_,_,_,s9.cellsIn 4 rfl,s9.az 3 rfl x'.cells rfl x'.one λ w9 s10=>⟨x.p,_,_,_,_,_,_,_,_,_,s10.cellsIn 3 rfl,x',rfl,rfl,?_⟩⟩;exact((s10.aA [0,1,2]).held ((bJ aP).cons ((bJ aM).cons ((bJ aM).cons nF.nil)))).weak (pg λ w' ⟨i3,i2,i1,_⟩=>⟨i1,i2,i3⟩)
theorem Gv{l l' : List Rn}{k:Nat}{x x' : Rn}(h:l'.map Rn.er=(l.take k).map Rn.er)(hx:l[k]?=some x)(e:x'.er=x.er):(l'++[x']).map Rn.er=(l.take (k+1)).map Rn.er:=by
 rw[aQ hx,List.map_append,List.map_append,h,List.map_singleton,List.map_singleton,e]
abbrev cj (l:List Rn) (w:World):Prop:=∀ x∈l,x.In w
theorem Ie{w:World}{a:OA}{c:Nat}{l:List Rn}{n:Nat}(h:bU 9 Rn.cells w a l)(hi:cj l w)(hz:∀ x∈l,x.Sz n)(hn:n<=1000)(hl:l.length<=1000) :
  CP 51 #[.slice a l.length c,.func (.func 52) #[] #[]] w (λ r w'=>∃ l' a' c',l'.map Rn.er=l.map Rn.er/\r=.slice a' l'.length c'/\St w w' (star (wZ a' c' l') (held (cj l')))):=by
 refine lM ?_;unfold iz;refine⟨λ a2 l2 c2 n1 w1 m=>∃ (k:Nat) (l' : List Rn),n1=k/\k<=l.length/\m=l.length-k/\l2=l'.length/\l'.length=k/\l'.map Rn.er=(l.take k).map Rn.er/\St w w1 (Sep [wZ a2 c2 l',held (cj l'),emp]),⟨l.length,0,[],rfl,by omega,by omega,rfl,rfl,rfl,((St.start w).one.Jj (λ _=>by simp[cj])).gU⟩,?_⟩
 rintro w1 m a2 l2 c2 n1 ⟨k,l',rfl,hk,hm,rfl,hlen,he,s1⟩ -
 by_cases hlt:(k:Int)<(l.length:Int)
 ·have hx:l[k]?=some (l[k]'(by omega)):=gE (by omega);generalize l[k]'(by omega)=x at hx;have hm:=List.mem_of_getElem? hx;obtain⟨q,hq,hcl⟩:=(h.an s1.an).at hx;refine cT (dT hlt) (ai hq ⟨by omega,by omega,x.p,_,_,_,_,_,_,_,_,_,hcl,s1.av IZ.cells.toArray λ r1 w2 s2=>s2.az 0 rfl x.cells rfl x.one λ w3 s3=>⟨x.p,_,_,_,_,_,_,_,_,_,s3.cellsIn 0 rfl,?_⟩⟩);refine cI (by kernel_rfl) (aq (Dj ((hi x hm).an s3.an) (hz x hm) hn) ?_);rintro v w4 ⟨x',ex,rfl,k4⟩;have s4:St w w4 (Sep [held x'.In,_,wZ a2 c2 l',held (cj l'),emp]):=s3.and k4;refine⟨x'.p,_,_,_,_,_,_,_,_,_,rfl,rI JK Rn.len (x:=x') x'.one (s4.out 2 rfl) (by omega) (by omega) (λ a' c' w' s5=>?_) rfl⟩;refine⟨l.length-(k+1),by omega,k+1,l'++[x'],ay ⟨by omega,by omega⟩,by omega,rfl,rfl,by simp[hlen],Gv he hx ex,?_⟩;have s6:St w w' (Sep [_,_,_,_,_]):=s5;exact(((s6.aA [3,1,0,4]).mj (bB _) (bB _) λ w'' h1 h2 y hy=>(List.mem_append.1 hy).elim (h1 y) λ e=>by rw[List.mem_singleton.1 e]; exact h2).aA [1,0,2])
 ·obtain rfl:l.length=k:=by omega
  rw[List.take_length] at he;exact cF (dF hlt) ⟨l',_,_,he,rfl,s1.aA [0,1] |>.pair⟩
structure Ck where
 s:Se
 o:Po
 cl:List Rn
 p:I6
 ask:List I6
 bd:List Bool
 dp:List Bool
 ov:Bool
 ka:Option Addr
 kc:Nat
 xa:Option Addr
 xc:Nat
 ya:Option Addr
 yc:Nat
 za:Option Addr
 zc:Nat
def Ck.cells(C:Ck):List Value:=(.slice C.s.a1 C.s.ps.length C.s.c1) :: ((.slice C.s.a2 C.s.bd.length C.s.c2) :: ((.slice C.s.a3 C.s.cp.length C.s.c3) :: ((.slice C.s.a4 C.s.sa.length C.s.c4) :: ((iv C.o.step) :: ((iv C.o.pct) :: ((iv C.o.und) :: ((iv C.o.rule) :: ((.slice C.ka C.cl.length C.kc) :: (C.p.on [.slice C.xa C.ask.length C.xc,.slice C.ya C.bd.length C.yc,.slice C.za C.dp.length C.zc,.bool C.ov])))))))))
theorem Ck.one(C:Ck):∀ v∈C.cells,v.oneCell' = true:=by
 intro v hv; simp[Ck.cells,I6.on] at hv;rcases hv with rfl|rfl|rfl|rfl|rfl|rfl|rfl|rfl|rfl|rfl|rfl|rfl|rfl|rfl|rfl|rfl|rfl|rfl|rfl<;>rfl
def Ck.er(C:Ck):Ck:={ C with s:=C.s.er,cl:=C.cl.map Rn.er,ka:=none,kc:=0,xa:=none,xc:=0,ya:=none,yc:=0,za:=none,zc:=0 }
structure IU (S:Se) (cl:List Rn) (w:World):Prop where
 s:S.In w
 cl:cj cl w
abbrev Ck.In (C:Ck):World->Prop:=IU C.s C.cl
theorem IU.an{S:Se}{cl:List Rn}{w w' : World}(h:IU S cl w)(hc:ax w w' []):IU S cl w':=⟨h.s.an hc,λ x hx=>(h.cl x hx).an hc⟩
structure Ck.Rd (b:Nat) (C:Ck) (w:World):Prop where
 me:af w ⟨b,0,none⟩ 0 C.cells
 ask:bU 6 I6.vs w C.xa C.ask
 bd:bU 1 bl w C.ya C.bd
 dp:bU 1 bl w C.za C.dp
 cl:bU 9 Rn.cells w C.ka C.cl
 i:C.In w
theorem Ck.Rd.an{b:Nat}{C:Ck}{w w' : World}(h:C.Rd b w)(hc:ax w w' []):C.Rd b w':=⟨aK hc h.me,h.ask.an hc,h.bd.an hc,h.dp.an hc,h.cl.an hc,h.i.an hc⟩
def eu(b:Nat)(C:Ck):List aJ:=[ah b C.cells.toArray 103,bn C.xa C.xc C.ask,bE C.ya C.yc C.bd,bE C.za C.zc C.dp,wZ C.ka C.kc C.cl,held C.In]
theorem F7{r:Nat}{cs:Array Value}{T:TypeId}:nF (ah r cs T) λ w=>af w ⟨r,0,none⟩ 0 cs.toList:=λ w F h=>by
 have s:St w w (Sep []):=St.start w;obtain⟨h1,rfl⟩:=h;refine bt _ 0 λ j v hj=>?_;rw[rE,Nat.zero_add];simp only[World.cell?,h1];simpa using hj
theorem nO{b:Nat}{C:Ck}:nF (Sep (eu b C)) (C.Rd b) :=
 nF.mono (F7.cons ((bJ aM).cons ((bJ aP).cons ((bJ aP).cons ((bJ Rn.len).cons ((bB _).cons nF.nil)))))) λ _ ⟨h1,h2,h3,h4,h5,h6,_⟩=>⟨h1,h2,h3,h4,h5,h6⟩
structure Ck.Ok (C:Ck):Prop where
 s:C.s.Ok
 o:C.o.ok
 cl:C.cl.length<=30
 cz:∀ x∈C.cl,x.Sz C.s.bd.length
 cp:∀ x∈C.cl,bw x.p=true
 ca:∀ x∈C.cl,∀ u∈x.ask,I6.Le u 4
 cg:∀ x∈C.cl,∀ u∈x.got,I6.Le u 4
 p:bw C.p=true
 ask:C.ask.length=C.s.bd.length
 bd:C.bd.length=C.s.bd.length
 dp:C.dp.length=C.s.bd.length
 asked:∀ u∈C.ask,I6.Le u 4
section
variable {b:Nat} {C:Ck} {w:World}
theorem Ck.Rd.cell(h:C.Rd b w)(j:Nat){v:Value}(e:C.cells[j]?=some v):w.cell? ⟨b,j,none⟩=some v:=by
 have:=aL h.me j v e
 rwa [Nat.zero_add,rE] at this
theorem Ck.Rd.aF(h:C.Rd b w)(j:Nat){vs:List Value}(hv:(C.cells.drop j).take vs.length=vs):af w ⟨b,j,none⟩ 0 vs :=
 bt _ 0 λ k v hk=>by
  have hl:k<vs.length:=(List.getElem?_eq_some_iff.1 hk).1;have ha:(⟨b,j,none⟩:Addr).add (0+k)=⟨b,j+k,none⟩:=by unfold Addr.add; split<;>simp_all
  have h2:((C.cells.drop j).take vs.length)[k]?=vs[k]?:=by rw[hv]
  rw[List.getElem?_take,if_pos hl,List.getElem?_drop,hk] at h2;rw[ha]; exact h.cell _ h2
theorem Aa(h:C.Rd b w)(n:Int):CP 57 #[.pointer (some ⟨b,0,none⟩),iv n] w (λ r w'=>r=.bool (decide (0<=n)&&decide (n<(C.dp.length:Int)))/\w' = w):=by
 refine mQ ?_;unfold js
 by_cases g:n>=0
 ·exact cT (dT g) ⟨_,_,_,h.cell 17 rfl,by rw[dT g]; rfl,rfl⟩
 ·exact cF (dF g) ⟨by rw[dF (by omega)]; rfl,rfl⟩
theorem Ep(h:C.Rd b w):CP 33 #[.pointer (some ⟨b,0,none⟩)] w (λ r w'=>r=iv C.cl.length/\w' = w):=by
 refine j3 ?_;unfold gz;exact⟨_,_,_,h.cell 8 rfl,rfl,rfl⟩
theorem ld(h:C.Rd b w):CP 15 #[.pointer (some ⟨b,0,none⟩)] w (λ r w'=>r=.agg C.p.vs.toArray/\ax w w' []):=by
 refine jF ?_;unfold fN;refine(St.start w).one.av z6.vs.toArray λ r1 w1 s1=>⟨C.p,(h.an s1.an).aF 9 rfl,s1.az 0 rfl C.p.vs rfl C.p.one λ w2 s2=>⟨C.p,s2.cellsIn 0 rfl,rfl,s2.an⟩⟩
theorem lf(h:C.Rd b w)(hk:C.Ok):CP 18 #[.pointer (some ⟨b,0,none⟩)] w (λ r w'=>∃ l' a' c',l'.map Rn.er=C.cl.map Rn.er/\r=.slice a' l'.length c'/\St w w' (star (wZ a' c' l') (held (cj l')))):=by
 refine jG ?_;unfold fO;refine⟨_,_,_,h.cell 8 rfl,aq (Ie h.cl h.i.cl hk.cz (by have:=hk.s.bd.l2; omega) (by have:=hk.cl; omega)) ?_⟩;rintro v w1 ⟨l',a',c',e,rfl,s⟩;exact⟨_,_,_,rfl,l',a',c',e,rfl,s⟩
def fz(C:Ck)(n:Nat):List Ch:=C.cl.map λ x=>⟨x.p,x.ask.getD n z6⟩
theorem uh(h:C.Rd b w)(hk:C.Ok){n:Nat}(hn:n<C.s.bd.length):CP 24 #[.pointer (some ⟨b,0,none⟩),iv n] w (λ r w'=>∃ a' c',r=.slice a' (fz C n).length c'/\St w w' (dA 90 12 Ch.cells a' c' (fz C n))):=by
 refine dQ ?_;unfold de;have hd:=hk.dp; have hl:=hk.cl;refine⟨λ b w1=>b=false/\w1=w,?_,aq (Aa h n) ?_⟩
 ·rintro w1 b ⟨rfl,rfl⟩ -;refine cF rfl ⟨_,_,_,h.cell 8 rfl,λ a2 l2 c2 n2 w2 m=>∃ k:Nat,n2=k/\k<=C.cl.length/\m=C.cl.length-k/\l2=((fz C n).take k).length/\St w1 w2 (star (dA 90 12 Ch.cells a2 c2 ((fz C n).take k)) emp),⟨C.cl.length,0,rfl,by omega,by omega,rfl,(St.start w1).gU⟩,?_⟩;rintro w2 m a2 l2 c2 n2 ⟨k,rfl,hk1,hm,rfl,s2⟩ -
  by_cases hlt:(k:Int)<(C.cl.length:Int)
  ·have hx:C.cl[k]?=some (C.cl[k]'(by omega)):=gE (by omega);generalize C.cl[k]'(by omega)=x at hx;have hm:=List.mem_of_getElem? hx;have za:=(hk.cz x hm).ask;obtain⟨q,hq,hcl⟩:=(h.cl.an s2.an).at hx;refine cT (dT hlt) (ai hq ⟨by omega,by omega,x.p,_,_,_,_,_,_,_,_,_,hcl,s2.av (l:=[_]) IZ.cells.toArray λ r1 w3 s3=>s3.az 0 rfl x.cells rfl x.one λ w4 s4=>?_⟩);have s5:=s4.quiet (ax.drew w4 []);have hu:x.ask[n]?=some (x.ask.getD n z6):=by rw[List.getD_eq_getElem?_getD,gE (by omega)]; rfl
   obtain⟨q2,hq2,hcl2⟩:=((h.i.cl x hm).an s5.an).ask.at hu;refine⟨x.p,s5.aF 0 0 rfl rfl,_,_,_,s5.ag 0 rfl 6,ai hq2 ⟨by omega,by omega,_,hcl2,?_⟩⟩;have hch:(fz C n)[k]?=some ⟨x.p,x.ask.getD n z6⟩:=by simp[fz,hx]
   have hlen:((fz C n).take k).length=k:=by simp[fz]; omega
   refine rI Hg Ch.len (x:=⟨x.p,x.ask.getD n z6⟩) (Ch.one _) (s5.out 1 rfl) (by omega) (by omega) (λ a' c' w5 s6=>?_) rfl;refine⟨C.cl.length-(k+1),by omega,k+1,ay ⟨by omega,by omega⟩,by omega,rfl,?_,?_⟩
   ·rw[aQ hch]
   ·rw[aQ hch]; exact s6.first.one
  ·obtain rfl:C.cl.length=k:=by omega
   rw[List.take_of_length_le (by simp[fz])] at s2 ⊢;exact cF (dF hlt) ⟨_,_,rfl,s2.first⟩
 ·rintro r w1 ⟨rfl,rfl⟩;exact⟨_,rfl,by simp; omega,rfl⟩
end
section
variable {b:Nat} {C:Ck} {w0 w:World} {B:aJ}
def eG(C:Ck):Ck:={ C with ask:=List.replicate C.dp.length z6,bd:=List.replicate C.dp.length false }
theorem A8(s:St w0 w (Sep [ah b C.cells.toArray 103,bE C.za C.zc C.dp,B]))(hd:C.dp.length<=100) :
  CP 90 #[.pointer (some ⟨b,0,none⟩)] w (λ r w'=>∃ xa xc ya yc,r=.tuple #[]/\St w0 w' (Sep [ah b ({ eG C with xa:=xa,xc:=xc,ya:=ya,yc:=yc }:Ck).cells.toArray 103,bn xa xc (eG C).ask,bE ya yc (eG C).bd,bE C.za C.zc C.dp,B])):=by
 refine j4 ?_;unfold gA;have s1:=s.quiet (ax.drew w []);have e1:(eG C).ask.length=C.dp.length:=by simp[eG]
 have e2:(eG C).bd.length=C.dp.length:=by simp[eG]
 have fin:∀ {g1 g2:Nat},(((C.cells.toArray.setIfInBounds 15 (.slice (some ⟨g1,0,none⟩) C.dp.length C.dp.length)).setIfInBounds 16 (.slice (some ⟨g2,0,none⟩) C.dp.length C.dp.length))=({ eG C with xa:=some ⟨g1,0,none⟩,xc:=C.dp.length,ya:=some ⟨g2,0,none⟩,yc:=C.dp.length }:Ck).cells.toArray):=by
  intro g1 g2;show _=(Ck.cells _).toArray;simp only[Ck.cells];rw[e1,e2]; rfl
 refine⟨_,_,_,s1.ag 0 rfl 17,_,_,_,s1.ag 0 rfl 17,⟨?_,?_⟩⟩
 ·refine aE (x:=z6) eZ aM rfl s1 (n:=C.dp.length) (by omega) (by omega) λ g1 w1 c1 s2=>⟨St.ag (l:=[_,_,_,_]) s2 1 rfl 17,⟨?_,?_⟩⟩
  ·refine aE (x:=false) bY aP rfl s2 (n:=C.dp.length) (by omega) (by omega) λ g2 w2 c2 s3=>?_;refine St.bL (l:=[_,_,_,_,_]) s3 2 rfl (j:=15) (show 15<19 by decide) rfl λ w3 s4=>s4.bL 2 rfl (j:=16) (show 16<19 by decide) rfl λ w4 s5=>⟨some ⟨g1,0,none⟩,C.dp.length,some ⟨g2,0,none⟩,C.dp.length,rfl,?_⟩;rw[<- fin]; exact s5.aA [2,1,0,3,4]
  ·refine St.bL (l:=[_,_,_,_]) s2 1 rfl (j:=15) (show 15<19 by decide) rfl λ w3 s4=>?_;refine aE (x:=false) bY aP rfl s4 (n:=C.dp.length) (by omega) (by omega) λ g2 w2 c2 s3=>St.bL (l:=[_,_,_,_,_]) s3 2 rfl (j:=16) (show 16<19 by decide) rfl λ w4 s5=>⟨some ⟨g1,0,none⟩,C.dp.length,some ⟨g2,0,none⟩,C.dp.length,rfl,?_⟩;rw[<- fin]; exact s5.aA [2,1,0,3,4]
 ·refine aE (x:=false) bY aP rfl s1 (n:=C.dp.length) (by omega) (by omega) λ g1 w1 c1 s2=>⟨St.ag (l:=[_,_,_,_]) s2 1 rfl 17,?_⟩;refine aE (x:=z6) eZ aM rfl s2 (n:=C.dp.length) (by omega) (by omega) λ g2 w2 c2 s3=>?_;refine St.bL (l:=[_,_,_,_,_]) s3 2 rfl (j:=15) (show 15<19 by decide) rfl λ w3 s4=>s4.bL 2 rfl (j:=16) (show 16<19 by decide) rfl λ w4 s5=>⟨some ⟨g2,0,none⟩,C.dp.length,some ⟨g1,0,none⟩,C.dp.length,rfl,?_⟩;rw[<- fin]; exact s5.aA [2,0,1,3,4]
end
theorem HU{p:I6}{q:Int->Bool}(h:∀ k,k<6->q (p.at' k)=true):p.l.all q=true:=by
 have h0:=h 0 (by decide); have h1:=h 1 (by decide); have h2:=h 2 (by decide); have h3:=h 3 (by decide); have h4:=h 4 (by decide); have h5:=h 5 (by decide);show([p.at' 0,p.at' 1,p.at' 2,p.at' 3,p.at' 4,p.at' 5]:List Int).all q=true;simp[h0,h1,h2,h3,h4,h5]
def dy(S:Se)(o:Po):Ck:={ s:=S,o:=o,cl:=[],p:=aU S.ps,ask:=List.replicate S.bd.length z6,bd:=List.replicate S.bd.length false,dp:=List.replicate S.bd.length false,ov:=false,ka:=none,kc:=0,xa:=none,xc:=0,ya:=none,yc:=0,za:=none,zc:=0 }
theorem GV{S:Se}{o:Po}(hs:S.Ok)(ho:o.ok):(dy S o).Ok:=by
 refine⟨hs,ho,by simp[dy],by simp[dy],by simp[dy],by simp[dy],by simp[dy],?_,by simp[dy],by simp[dy],by simp[dy],?_⟩
 ·refine HU λ k hk=>?_;show fy ((aU S.ps).at' k)=true;rw[iN _ k hk,List.getD_eq_getElem?_getD,List.getElem?_map]
  cases hx:S.ps[k]? with
  | none=>rfl
  | some x =>
   have h1:=(hs.ps.good k x hx).1;simp only[jK,rA,Bool.and_eq_true,decide_eq_true_eq] at h1;show fy x.res=true;simp only[fy,Bool.and_eq_true,decide_eq_true_eq];exact h1.2.2.1
 ·intro u hu;rw[List.eq_of_mem_replicate hu];intro k hk; match k,hk with
  | 0,_|1,_|2,_|3,_|4,_|5,_=>exact⟨by decide,by decide⟩
theorem Js{w:World}{S:Se}{o:Po}(h:S.In w)(hs:S.Ok)(ho:o.ok) :
  CP 46 #[.agg S.arr,o.v] w (λ r w'=>∃ g C',C'.er=(dy S o).er/\r=.tuple #[.pointer (some ⟨g,0,none⟩),iv 0]/\St w w' (Sep (eu g C'))):=by
 refine nP ?_;unfold oY;have z:=hs.bd.l2;refine(St.start w).one.av S.arr λ r1 w1 s1=>s1.av o.cells.toArray λ r2 w2 s2=>⟨_,_,_,_,_,_,_,_,_,_,_,_,s2.cellsIn 1 rfl,aq (zn (h.an s2.an)) ?_⟩;rintro v w3 ⟨⟨e,rfl,he⟩,c3⟩;obtain rfl:=he.2 hs;have s3:=s2.quiet c3;refine⟨_,rfl,cF rfl ⟨_,_,_,_,s3.cellsIn 0 rfl,aq (pE w3 o) ?_⟩⟩;rintro v w4 ⟨rfl,c4⟩;have s4:=(s3.quiet c4).quiet (ax.drew w4 []);refine⟨_,rfl,cF (by rw[ei,if_pos ho]; rfl) ?_⟩;have hl:∀ {w'},ax w w' []->S.In w':=λ hc=>h.an hc;let C0 (S' : Se) (g2:Nat):Ck:={ dy S o with s:=S',ask:=[],bd:=[],za:=some ⟨g2,0,none⟩,zc:=S.bd.length };have eC:∀ (S' : Se) (g2:Nat),(C0 S' g2).cells.toArray=((.slice S'.a1 S'.ps.length S'.c1) :: ((.slice S'.a2 S'.bd.length S'.c2) :: ((.slice S'.a3 S'.cp.length S'.c3) :: ((.slice S'.a4 S'.sa.length S'.c4) :: ((iv o.step) :: ((iv o.pct) :: ((iv o.und) :: ((iv o.rule) :: ((.slice none 0 0) :: ((aU S.ps).on [.slice none 0 0,.slice none 0 0,.slice (some ⟨g2,0,none⟩) S.bd.length S.bd.length,.bool false]))))))))):List Value).toArray:=by
  intro S' g2; simp only[C0,dy,Ck.cells,List.length_replicate,List.length_nil]
 have fin:∀ {S' : Se} {g g2:Nat} {w' : World},S'.er=S.er->St w w' (Sep [ah g (C0 S' g2).cells.toArray 103,bE (some ⟨g2,0,none⟩) S.bd.length (List.replicate S.bd.length false),held S'.In]) ->
   CC 90 #[.pointer (some ⟨g,0,none⟩)] w' (nH λ r w''=>r=.tuple #[]/\∃ C',C'.er=(dy S o).er/\St w w'' (Sep (eu g C'))):=by
  intro S' g g2 w' eS s;refine aq (A8 (C:=C0 S' g2) s (by simp[C0,dy]; omega)) ?_;rintro r w1 ⟨xa,xc,ya,yc,rfl,s1⟩;refine⟨_,rfl,rfl,{ eG (C0 S' g2) with xa:=xa,xc:=xc,ya:=ya,yc:=yc },?_,?_⟩
  ·simp only[C0,eG,dy,Ck.er,eS,List.length_replicate]
  ·have s2:St w w1 (Sep [_,_,_,_,_,_]):=s1.gU (e:=58) (sz:=9) (f:=Rn.cells);have s3:=((s2.aA [5,1,2,3,4,0]).HB ((bB _).mono λ w h=>(⟨h,λ x hx=>by simp[C0,eG,dy] at hx⟩:({ eG (C0 S' g2) with xa:=xa,xc:=xc,ya:=ya,yc:=yc }:Ck).In w)));exact s3.aA [1,2,3,4,5,0]
 refine⟨λ p w5=>∃ (S' : Se) (g g2:Nat),p=some ⟨g,0,none⟩/\S'.er=S.er/\St w w5 (Sep [ah g (C0 S' g2).cells.toArray 103,bE (some ⟨g2,0,none⟩) S.bd.length (List.replicate S.bd.length false),held S'.In]),?_,?_⟩
 ·rintro w5 p ⟨S',g,g2,rfl,eS,s5⟩ -;refine aq (fin eS s5) ?_;rintro r w6 ⟨rfl,C',e,s6⟩;exact⟨rfl,g,C',e,rfl,s6⟩
 refine⟨_,_,_,_,_,_,_,_,_,_,_,_,s4.cellsIn 1 rfl,_,_,_,_,s4.cellsIn 0 rfl,_,_,_,s4.ag 1 rfl 0,_,_,_,s4.ag 1 rfl 1,⟨?_,?_⟩⟩
 ·refine aq (xz (hl s4.an) hs.sz) ?_;rintro v w7 ⟨S',eS,rfl,k7⟩;have s7:St w w7 (Sep [_,_,_,_]):=s4.and k7;refine⟨_,_,_,_,_,_,_,_,_,_,_,_,rfl,s7.ag 2 rfl 1,s7.ag 2 rfl 0,s7.cellsIn 1 rfl,⟨?_,?_⟩⟩
  ·refine aq (wN (hl s7.an).ps hs.ps.l2 h.h1) ?_;rintro v w8 ⟨rfl,c8⟩;have s8:=s7.quiet c8;refine⟨_,rfl,s8.ag 2 rfl 1,s8.cellsIn 1 rfl,aE (x:=false) bY aP rfl s8 (n:=S.bd.length) (by omega) (by omega) λ g2 w9 c9 s9=>?_⟩;refine⟨St.cellsIn (l:=[_,_,_,_,_]) s9 2 rfl,St.av (l:=[_,_,_,_,_]) s9 _ λ r3 w10 s10=>⟨S',r3,g2,rfl,eS,by rw[eC]; exact s10.aA [0,1,2]⟩⟩
  ·refine aE (x:=false) bY aP rfl s7 (n:=S.bd.length) (by omega) (by omega) λ g2 w9 c9 s9=>?_;have s9:St w w9 (Sep [_,_,_,_,_]):=s9;refine⟨s9.ag 3 rfl 0,s9.cellsIn 2 rfl,aq (wN (hl s9.an).ps hs.ps.l2 h.h1) ?_⟩;rintro v w8 ⟨rfl,c8⟩;have s8:=s9.quiet c8;exact⟨_,rfl,s8.cellsIn 2 rfl,s8.av _ λ r3 w10 s10=>⟨S',r3,g2,rfl,eS,by rw[eC]; exact s10.aA [0,1,2]⟩⟩
 ·refine aE (x:=false) bY aP rfl s4 (n:=S.bd.length) (by omega) (by omega) λ g2 w9 c9 s9=>?_;have s9:St w w9 (Sep [_,_,_,_]):=s9;refine⟨s9.ag 2 rfl 0,s9.cellsIn 1 rfl,s9.cellsIn 2 rfl,aq (xz (hl s9.an) hs.sz) ?_⟩;rintro v w7 ⟨S',eS,rfl,k7⟩;have s7:St w w7 (Sep [_,_,_,_,_]):=s9.and k7;refine⟨_,_,_,_,_,_,_,_,_,_,_,_,rfl,s7.ag 3 rfl 0,s7.cellsIn 2 rfl,aq (wN (hl s7.an).ps hs.ps.l2 h.h1) ?_⟩;rintro v w8 ⟨rfl,c8⟩;have s8:=s7.quiet c8;exact⟨_,rfl,s8.cellsIn 2 rfl,s8.av _ λ r3 w10 s10=>⟨S',r3,g2,rfl,eS,by rw[eC]; exact s10.aA [0,2,1]⟩⟩
section
variable {b:Nat} {C:Ck} {w0 w:World} {B:aJ}
def bR(dp:List Bool):Nat->List I6->List I6
 | _,[]=>[]
 | k,u :: l=>(if dp.getD k false then z6 else u) :: bR dp (k+1) l
theorem lz(dp:List Bool):∀ (l:List I6) (k:Nat),(bR dp k l).length=l.length
 | [],_=>rfl
 | _ :: l,k=>by simp[bR,lz dp l (k+1)]
theorem pG(dp:List Bool):∀ (l:List I6) (k i:Nat),(bR dp k l)[i]?=l[i]?.map λ u=>if dp.getD (k+i) false then z6 else u
 | [],_,_=>by simp[bR]
 | u :: l,k,0=>by simp[bR]
 | u :: l,k,i+1=>by
  rw[bR,List.getElem?_cons_succ,List.getElem?_cons_succ,pG dp l (k+1) i,show k+(i+1)=k+1+i by omega]
def dz(C:Ck):List I6:=bR C.dp 0 ((C.cl.getLast?.map Rn.got).getD [])
theorem Ar(h:C.Rd b w)(hk:C.Ok)(hn:0<C.cl.length) :
  CP 132 #[.pointer (some ⟨b,0,none⟩)] w (λ r w'=>∃ g,r=.slice (some ⟨g,0,none⟩) (dz C).length (dz C).length/\St w w' (bn (some ⟨g,0,none⟩) (dz C).length (dz C))):=by
 refine iy ?_;unfold eT;have hl:=hk.cl; have z:=hk.s.bd.l2; have z1:=hk.dp;have hx:C.cl[C.cl.length-1]?=some (C.cl[C.cl.length-1]'(by omega)):=gE (by omega);generalize C.cl[C.cl.length-1]'(by omega)=x at hx;have hlast:C.cl.getLast? = some x:=by rw[List.getLast?_eq_getElem?]; exact hx
 have hm:=List.mem_of_getElem? hx;have zx:=(hk.cz x hm).got;have d0:ax w w.drew []:=ax.drew w [];have h1:=h.an d0;obtain⟨q,hq,hcl⟩:=h1.cl.at hx;have e1:IntKind.i64.wrap ((C.cl.length:Int)-1)=((C.cl.length-1:Nat):Int):=by rw[ay ⟨by omega,by omega⟩]; omega
 have ep:dz C=bR C.dp 0 x.got:=by rw[dz,hlast]; rfl
 refine⟨_,_,_,h1.cell 8 rfl,_,_,_,h1.cell 8 rfl,ai hq ⟨?_,?_,x.ga,x.got.length,x.gc,?_,?_⟩⟩
 ·rw[e1]; omega
 ·rw[e1]; omega
 ·rw[e1,Int.toNat_natCast];exact aL hcl 7 _ rfl
 refine aq (kZ ((h.i.cl x hm).an d0).got (by omega)) ?_;rintro v w1 ⟨g,rfl,k1⟩;have s1:St w w1 (Sep [_]):=(St.start' d0).and k1;have hL:(bR C.dp 0 x.got).length=x.got.length:=lz _ _ _;let L:Nat->List I6:=fU (bR C.dp 0 x.got) x.got;have Llen:∀ k,k<=x.got.length->(L k).length=x.got.length:=λ k hk=>sn hL (by omega);refine⟨_,_,_,rfl,_,_,_,(h.an s1.an).cell 17 rfl,λ n w2 m=>∃ k:Nat,n=k/\k<=C.dp.length/\m=C.dp.length-k/\St w w2 (Sep [bn (some ⟨g,0,none⟩) x.got.length (L k)]),⟨C.dp.length,0,rfl,by omega,by omega,?_⟩,?_⟩
 ·rw[show L 0=x.got from uz]; exact s1.aA [0]
 rintro w2 m n ⟨k,rfl,hk1,hm1,s2⟩ -
 by_cases hlt:(k:Int)<(C.dp.length:Int)
 ·have hd:C.dp[k]?=some (C.dp[k]'(by omega)):=gE (by omega);generalize C.dp[k]'(by omega)=y at hd;have hgy:C.dp.getD k false=y:=by rw[List.getD_eq_getElem?_getD,hd]; rfl
  obtain⟨q2,hq2,hcl2⟩:=(h.dp.an s2.an).at hd;have hu:x.got[k]?=some (x.got[k]'(by omega)):=gE (by omega);generalize x.got[k]'(by omega)=u at hu;have hp:(bR C.dp 0 x.got)[k]?=some (if y then z6 else u):=by rw[pG,hu,Nat.zero_add,hgy]; rfl
  have estep:∀ v,(bR C.dp 0 x.got)[k]?=some v->(L k).set k v=L (k+1):=λ v hv=>xX hL hv;have esame:y=false->L k=L (k+1):=λ hy=>uy hL (by omega) (by rw[hp,hu,hy]; rfl);refine cT (dT hlt) ⟨λ w3=>St w w3 (Sep [bn (some ⟨g,0,none⟩) x.got.length (L (k+1))]),λ w3 s3 _=>⟨C.dp.length-(k+1),by omega,k+1,ay ⟨by omega,by omega⟩,by omega,rfl,s3⟩,ai hq2 ⟨by omega,by omega,y,hcl2.1,?_⟩⟩
  cases y with
  | true =>
   refine cT rfl (ai rfl ⟨by omega,by omega,?_⟩);rw[Int.toNat_natCast];refine St.tc aM (x:=z6) z6.one s2 (i:=k) (by rw[Llen k (by omega)]; omega) λ w3 s3=>?_;rw[estep z6 hp] at s3; exact s3
  | false=>exact cF rfl (by rw[<- esame rfl]; exact s2)
 ·obtain rfl:C.dp.length=k:=by omega
  have e2:L C.dp.length=dz C:=by
   show fU _ _ _=_;rw[show C.dp.length=x.got.length by omega,ux hL,ep]
  have e3:(dz C).length=x.got.length:=by rw[ep,hL]
  rw[e2] at s2;rw[e3];exact cF (dF hlt) ⟨g,rfl,s2.single⟩
end
section
variable {b:Nat} {C:Ck} {w0 w:World} {B:aJ}
theorem sup_le{l:List Pr}(h:bZ l):I6.Le (aG l) 4:=HK (by rw[AT]; exact B8 h.good)
theorem AY{u:I6}{m n:Int}(h:I6.Le u m)(hn:m<=n):I6.Le u n:=λ k hk=>by have:=h k hk; omega
theorem Ce{n:Int}(h:0<=n):I6.Le z6 n:=λ k hk=>by
 match k,hk with
 | 0,_|1,_|2,_|3,_|4,_|5,_=>exact⟨Int.le_refl _,h⟩
theorem yo{dp:List Bool}{n:Int}(hn:0<=n):∀ (l:List I6) (k:Nat),(∀ u∈l,I6.Le u n)->∀ u∈bR dp k l,I6.Le u n
 | [],_,_,u,hu=>by simp[bR] at hu
 | x :: l,k,h,u,hu=>by
  rcases List.mem_cons.1 hu with rfl|hu
  ·split
   ·exact Ce hn
   ·exact h x (by simp)
  ·exact yo hn l (k+1) (λ u hu=>h u (by simp[hu])) u hu
theorem vU(hk:C.Ok)(hn:0<C.cl.length):(dz C).length=C.s.bd.length/\∀ u∈dz C,I6.Le u 4:=by
 have hx:C.cl[C.cl.length-1]?=some (C.cl[C.cl.length-1]'(by omega)):=gE (by omega);generalize C.cl[C.cl.length-1]'(by omega)=x at hx;have hlast:C.cl.getLast? = some x:=by rw[List.getLast?_eq_getElem?]; exact hx
 have hm:=List.mem_of_getElem? hx;have ep:dz C=bR C.dp 0 x.got:=by rw[dz,hlast]; rfl
 rw[ep];exact⟨by rw[lz,(hk.cz x hm).got],yo (by omega) _ _ (hk.cg x hm)⟩
def bg(C:Ck):List I6:=if C.cl.length=0 then C.ask else HQ C.o.und (aG C.s.ps) (dz C) C.ask
theorem zX(hk:C.Ok):(bg C).length=C.s.bd.length/\∀ u∈bg C,I6.Le u 4:=by
 unfold bg
 split
 ·exact⟨hk.ask,hk.asked⟩
 ·rename_i h;obtain⟨h1,h2⟩:=vU hk (by omega);have:=pV (p:=C.o.und) (sup:=aG C.s.ps) (by omega) h2 hk.asked C.ask.length;exact⟨this.1.trans h1,this.2⟩
def vf(C:Ck):Rn:=⟨C.p,C.ask,bg C,C.bd,none,0,none,0,none,0⟩
def e9(C:Ck):I6:=om (bF (bg C)) (aG C.s.ps)
def cW(C:Ck):I6×Int:=fj C.o C.p (e9 C)
def bP(C:Ck):Bool:=decide (e9 C=z6)||(decide (C.cl.length+1>=30)||(cW C).2 !=0)
def bA(C:Ck):Ck:={ eG C with cl:=C.cl++[vf C],ov:=bP C,p:=if bP C then C.p else (cW C).1 }
theorem Gm(s:St w0 w (Sep (eu b C++[B])))(hk:C.Ok) :
  CP 92 #[.pointer (some ⟨b,0,none⟩)] w (λ r w'=>(C.ov=true/\r=.tuple #[.bool false,iv 10]/\St w0 w' (Sep (eu b C++[B])))\/(C.ov=false/\r=.tuple #[.bool (bP C),iv 0]/\∃ C',C'.er=(bA C).er/\St w0 w' (Sep (eu b C'++[B])))):=by
 refine j0 ?_;unfold gy;have hl:=hk.cl; have z:=hk.s.bd.l2; have z1:=hk.ask; have z2:=hk.bd; have z3:=hk.dp;have hg:=zX hk;have hsup:=sup_le hk.s.ps;refine⟨_,s.ag 0 rfl 18,?_⟩
 cases hov:C.ov with
 | true=>exact cT rfl (.inl ⟨rfl,rfl,s⟩)
 | false =>
 have inC:∀ {w' : World} {L:List aJ} {i:Nat},St w0 w' (Sep L)->L[i]?=some (held C.In)->C.In w':=λ s e=>s.jc _ e;refine cF rfl ⟨_,_,_,s.ag 0 rfl 0,aq (kR (inC s (i:=5) rfl).s.ps (by have:=hk.s.ps.l2; omega)) ?_⟩;rintro v w1 ⟨rfl,c1⟩;refine⟨_,rfl,(s.quiet c1).av z6.vs.toArray λ r1 w2 s2=>s2.az 0 rfl (aG C.s.ps).vs rfl (I6.one _) λ w3 s3=>?_⟩;refine⟨_,_,_,s3.ag 1 rfl 15,aq (kZ (St.rd aM (s3.out 2 rfl)) (by omega)) ?_⟩;rintro v w4 ⟨g,rfl,k4⟩;have s4:St w0 w4 (Sep (bn _ _ _ :: ah r1 (aG C.s.ps).vs.toArray 35 :: (eu b C++[B]))):=s3.and k4;refine⟨_,_,_,rfl,λ a4 l4 c4 w5=>l4=(bg C).length/\St w0 w5 (Sep (bn a4 c4 (bg C) :: ah r1 (aG C.s.ps).vs.toArray 35 :: (eu b C++[B]))),?_,?_⟩
 ·rintro w5 a4 l4 c4 ⟨rfl,s5⟩ -;have s6:=s5.quiet (ax.drew w5 []);let x:Rn:={ vf C with xa:=C.xa,xc:=C.xc,ga:=a4,gc:=c4,ba:=C.ya,bc:=C.yc };refine⟨_,_,_,s6.ag 2 rfl 8,C.p,s6.aF 2 9 rfl rfl,_,_,_,s6.ag 2 rfl 15,_,_,_,s6.ag 2 rfl 16,s6.av x.cells.toArray λ r2 w6 s7=>⟨s7.ag 3 rfl 8,?_⟩⟩;have hx1:bU 9 Rn.cells w6 (some ⟨r2,0,none⟩) [x]:=λ i y hy=>by
   obtain⟨rfl,rfl⟩:i=0/\y=x:=by
    cases i with
    | zero=>simp at hy; exact⟨rfl,hy.symm⟩
    | succ i=>simp at hy
   exact⟨_,_,rfl,by rw[Nat.zero_mul,rE]; exact s7.cellsIn 0 rfl,rfl,rfl⟩
  refine aY JK Rn.len Rn.one (s7.out 7 rfl) (a2:=some ⟨r2,0,none⟩) (c2:=1) (l2:=[x]) hx1 (by simp; omega) (by simp; omega) λ a8 c8 w7 s8=>?_;have s9:=s8.back (show 7<10 by decide);refine s9.bL 3 rfl (j:=8) (show 8<19 by decide) rfl λ w8 s10=>?_;let D:Ck:={ C with cl:=C.cl++[x],ka:=a8,kc:=c8 };refine aq (A8 (C:=D) (St.JO (A:=ah b D.cells.toArray 103) (B:=bE D.za D.zc D.dp) (m:=[bn C.xa C.xc C.ask,bn a4 c4 (bg C),bE C.ya C.yc C.bd,held C.In,wZ a8 c8 (C.cl++[x]),ah r1 (aG C.s.ps).vs.toArray 35,B]) (s10.aA [3,6,4,1,5,8,7,2,9])) (by show C.dp.length<=100; omega)) ?_;rintro r w9 ⟨xa,xc,ya,yc,rfl,s11⟩;have s12:=s11.IT [_,_,_,_];let D' : Ck:={ eG D with xa:=xa,xc:=xc,ya:=ya,yc:=yc };have s13:=(((s12.aA [4,5,6,7,0,1,2,3,8,9,10]).mj (bJ aM) (bJ aM) λ _ h1 h2=>And.intro h1 h2).mj (bB _) (bJ aP) λ _ h1 h2=>(⟨h1.1,h1.2,h2⟩:x.In _)).mj (bB _) (bB _) λ w h1 h2=>(⟨h2.s,λ y hy=>(List.mem_append.1 hy).elim (h2.cl y) λ e=>by rw[List.mem_singleton.1 e]; exact h1⟩:IU C.s (C.cl++[x]) w);have s14:St w0 w9 (Sep (eu b D'++[ah r1 (aG C.s.ps).vs.toArray 35,B])):=s13.aA [1,2,3,4,5,0,6,7];refine⟨rfl,_,s14.cellsIn 6 rfl,?_⟩;have hin:IU C.s (C.cl++[x]) w9:=s14.jc 5 rfl;have hgr:DC w9 a4 (bg C):=(hin.cl x (by simp)).got;refine aq (D9 (aG C.s.ps) (AY hsup (by omega)) hgr (λ u hu=>AY (hg.2 u hu) (by omega)) (by omega)) ?_;rintro v w10 ⟨rfl,c10⟩;refine⟨_,rfl,(s14.quiet c10).av z6.vs.toArray λ r3 w11 s15=>s15.az 0 rfl (e9 C).vs rfl (I6.one _) λ w12 s16=>?_⟩;let J:World->Nat->Prop:=λ w13 r4=>St w0 w13 (Sep (ah r4 (cW C).1.vs.toArray 30 :: ah r3 (e9 C).vs.toArray 35 :: (eu b D'++[ah r1 (aG C.s.ps).vs.toArray 35,B])));have erD:∀ {ov:Bool} {p:I6},({ D' with ov:=ov,p:=p }:Ck).er=({ eG C with cl:=C.cl++[vf C],ov:=ov,p:=p }:Ck).er:=by
   intro ov p;simp[D',D,eG,Ck.er,Rn.er,x,vf]
  have lenD:(C.cl++[x]).length=C.cl.length+1:=by simp
  refine⟨λ r4 n w13=>n=(cW C).2/\J w13 r4,?_,?_⟩
  ·rintro w13 r4 n ⟨rfl,s17⟩ -;refine⟨λ x w14=>x=bP C/\J w14 r4,?_,?_⟩
   ·rintro w14 x ⟨rfl,s18⟩ -
    cases hla:bP C with
    | true =>
     refine cT rfl (St.bL s18 2 rfl (j:=18) (show 18<19 by decide) rfl λ w15 s19=>.inr ⟨rfl,rfl,{ D' with ov:=true },?_,St.aA s19 [2,3,4,5,6,7,9]⟩);rw[bA,hla,if_pos rfl];exact erD (ov:=true) (p:=C.p)
    | false =>
     refine cF rfl ⟨(cW C).1,s18.cellsIn 0 rfl,s18.Fx 2 9 rfl ({ D' with p:=(cW C).1 }:Ck).cells.toArray (show 15<=19 by decide) (I6.one _) rfl λ w15 s19=>.inr ⟨rfl,rfl,{ D' with p:=(cW C).1 },?_,St.aA s19 [2,3,4,5,6,7,9]⟩⟩;rw[bA,hla,if_neg (by decide)];have:=erD (ov:=false) (p:=(cW C).1);rw[<- this];have e:∀ o,o=C.ov->({ D' with p:=(cW C).1 }:Ck)={ D' with ov:=o,p:=(cW C).1 }:=λ o h=>by subst h; rfl
     rw[e false hov.symm]
   ·refine⟨e9 C,s17.cellsIn 1 rfl,?_⟩;rw[I6.beq_eq]
    by_cases g1:e9 C=z6
    ·exact cT (dT g1) ⟨by rw[bP,dT g1,Bool.true_or],s17⟩
    refine cF (dF g1) ⟨_,_,_,s17.ag 2 rfl 8,?_⟩
    by_cases g2:C.cl.length+1>=30
    ·exact cT (dT (by show(((C.cl++[x]).length:Nat):Int)>=30; omega)) ⟨by rw[bP,dT g2,Bool.true_or,Bool.or_true],s17⟩
    exact cF (dF (by show ¬ (((C.cl++[x]).length:Nat):Int)>=30; omega)) ⟨by rw[bP,dF g1,dF g2,Bool.false_or,Bool.false_or],s17⟩
  have s17:=s16.quiet (ax.drew w12 []);refine⟨_,_,_,_,s17.aF 1 4 rfl rfl,C.p,s17.aF 1 9 rfl rfl,e9 C,s17.cellsIn 0 rfl,⟨?_,?_⟩⟩
  ·refine aq (EC _ hk.o hk.p (e9 C)) ?_;rintro v w18 ⟨rfl,c18⟩;exact⟨_,_,rfl,(s17.quiet c18).av z6.vs.toArray λ r5 w19 s18=>s18.az 0 rfl (cW C).1.vs rfl (I6.one _) λ w20 s19=>⟨rfl,s19⟩⟩
  ·refine s17.av z6.vs.toArray λ r5 w19 s18=>⟨s18.cellsIn 1 rfl,s18.aF 2 9 rfl rfl,s18.aF 2 4 rfl rfl,aq (EC _ hk.o hk.p (e9 C)) ?_⟩;rintro v w18 ⟨rfl,c18⟩;exact⟨_,_,rfl,(s18.quiet c18).az 0 rfl (cW C).1.vs rfl (I6.one _) λ w20 s19=>⟨rfl,s19⟩⟩
 ·refine⟨_,_,_,s4.ag 2 rfl 8,?_⟩
  by_cases hn:(C.cl.length:Int)>0
  ·have s5:=s4.quiet (ax.drew w4 []);have rd5:C.Rd b w4.drew:=(s5.aA [2,3,4,5,6,7]).imp nO;obtain⟨hp1,hp2⟩:=vU hk (by omega);refine cT (dT hn) ⟨_,s5.ag 2 rfl 6,_,s5.cellsIn 1 rfl,_,_,_,s5.ag 2 rfl 15,aq (Ar rd5 hk (by omega)) ?_⟩;rintro v w6 ⟨g2,rfl,k6⟩;have s6:St w0 w6 (Sep (_ :: _)):=s5.and k6;refine⟨_,_,_,rfl,s6.ag 3 rfl 15,s6.cellsIn 2 rfl,s6.ag 3 rfl 6,aq (FF s6 (by have:=hk.o; unfold Po.ok at this; omega) hsup (St.rd aM (s6.out 0 rfl)) (St.rd aM (s6.out 4 rfl)) (by rw[hp1,z1]) (by omega) hp2 hk.asked) ?_⟩;rintro v w7 ⟨a,c,rfl,s7,-⟩;have eg:bg C=HQ C.o.und (aG C.s.ps) (dz C) C.ask:=by rw[bg,if_neg (by omega)]
   refine⟨_,_,_,_,rfl,cF rfl ⟨by rw[hg.1,hp1],?_⟩⟩;rw[eg];exact St.aA (l:=_ :: _ :: _ :: _ :: _) s7 [0,3,4,5,6,7,8,9,10]
  ·have eg:bg C=C.ask:=by rw[bg,if_pos (by omega)]
   exact cF (dF hn) ⟨by rw[eg],by rw[eg]; exact s4⟩
end
abbrev Wf:=I6->Int
def r5:List Int:=[0,1,2,3,4]
section
variable {lim:I6}
theorem dK{α β:Type}{f:α->β->α}{a:α}{l:List β}{k:Nat}{x:β}(h:l[k]?=some x):(l.take (k+1)).foldl f a=f ((l.take k).foldl f a) x:=by rw[aQ h,List.foldl_append]; rfl
end
abbrev Kl (a:OA) (c:Nat) (l:List Int):aJ:=dA 2 1 i1 a c l
section
variable {w0 w:World} {B:aJ} {g r3 r5:Nat} {n:Nat} {T:List Int} {i k:Nat}
end
structure Of where
 b:Int
 want:I6
 v:Int
def Of.cells(o:Of):List Value:=iv o.b :: o.want.on [iv o.v]
theorem Of.len(o:Of):o.cells.length=8:=rfl
def eX(o:Of):Bool:=o.want.l.all dD&&(decide (o.want≠z6)&&(decide (1<=o.v)&&decide (o.v<=1000000)))
theorem CS(w:World)(o:Of):CP 60 #[.agg o.cells.toArray] w (λ r w'=>r=.bool (eX o)/\ax w w' []):=by
 refine qQ (u1:=o.want) ?_;unfold oD;refine(St.start w).one.av o.cells.toArray λ r1 w1 s1=>⟨o.want,s1.aF 0 1 rfl rfl,aq (dr w1 o.want) ?_⟩;rintro v w2 ⟨rfl,c2⟩;have s2:=s1.quiet c2;refine⟨_,rfl,?_⟩
 cases hq:o.want.l.all dD with
 | false=>exact cF rfl ⟨by rw[eX,hq]; rfl,s2.an⟩
 | true =>
  have e1:eX o=(decide (o.want≠z6)&&(decide (1<=o.v)&&decide (o.v<=1000000))):=by rw[eX,hq]; rfl
  refine cT rfl ⟨o.want,s2.aF 0 1 rfl rfl,?_⟩;rw[I6.beq_eq]
  by_cases hz:o.want=z6
  ·exact cF (by rw[dT hz]; rfl) ⟨by rw[e1,dF (λ h=>h hz)]; rfl,s2.an⟩
  ·rw[dT hz,Bool.true_and] at e1;refine cT (by rw[dF hz]; rfl) ⟨_,s2.ag 0 rfl 7,?_⟩
   by_cases g1:1<=o.v
   ·rw[dT g1,Bool.true_and] at e1;exact cT (dT g1) ⟨_,s2.ag 0 rfl 7,by rw[e1],s2.an⟩
   ·exact cF (dF g1) ⟨by rw[e1,dF g1]; rfl,s2.an⟩
end Go.Proofs.YtpddenfeaadgpaaGreatDoor
namespace Go.Vc
open Go
theorem Dg{P:Program}{gf:FuncId}{lb:List Value}{rec:FuncId->Nat->Loop}{w0 w:World}{N R:World->Prop}{X:List (Nat×(World->Prop))}{L:List aJ}(s:St w0 w (Sep L))(hp:∀ fn D,(rec fn D).pending=none/\(rec fn D).state=.ready) (k:∀ fn l w1,St w0 w1 (Sep (dU l (.loop (rec fn w.heap.size)) :: dU w.heap.size (.deferred (some [])) :: L)) ->
   Calls P gf (Value.func (.yield l) #[] #[] :: lb).toArray w1 (nH λ _ w2=>∃ L',St w0 w2 (Sep (dU l (.loop (rec fn w.heap.size)) :: L'))/\∀ w3,St w0 w3 (Sep L')->N w3)):AM P gf lb rec w N R X:=by
 intro fn;have s1:=s.Ju (.deferred (some []));have hD:(w.alloc (.deferred (some []))).heap.size=w.heap.size+1:=by rw[World.size_alloc]
 have s2:=s1.Ju (.loop (rec fn w.heap.size));rw[hD] at s2;refine(k fn _ _ s2).mono λ e w2 ⟨v,he,L',s3,hN⟩=>⟨⟨v,he⟩,_,s3.uD 0 rfl,?_,?_⟩
 ·rw[(hp fn _).2]; intro h; cases h
 ·rw[(hp fn _).1];exact hN _ ((s3.putAt 0 rfl _).second)
end Go.Vc
namespace Go.Proofs.YtpddenfeaadgpaaGreatDoor
open Go Go.Vc _root_.Go.Proofs.Tryz
def hJ(q:I6)(v:Int)(c:Ch):Int:=if c.want=q then (if cost c.p q>v then cost c.p q else v) else v
def nU(q:I6)(v:Int)(x:Of):Int:=if x.want=q then (if x.v>v then x.v else v) else v
def jJ(l:List Ch)(bids:List Of)(q:I6):Int:=bids.foldl (nU q) (l.foldl (hJ q) 0)
abbrev iQ (w:World) (a:OA) (l:List Of):Prop:=bU 8 Of.cells w a l
theorem Of.one(o:Of):∀ v∈o.cells,v.oneCell' = true:=by
 intro v hv; simp[Of.cells,I6.on] at hv; rcases hv with rfl|rfl|rfl|rfl|rfl|rfl|rfl|rfl<;>rfl
def FQ:Of:=⟨0,z6,0⟩
theorem GB{w:World}{a1 a2:OA}{c1 c2 b1 b2:Nat}{l:List Ch}{bids:List Of}(hr:nG w a1 l)(hl:l.length<=1000)(ho:∀ c∈l,c.Ok)(hb:iQ w a2 bids)(hbl:bids.length<=100000)(e1:w.cell? ⟨b1,0,none⟩=some (.slice a1 l.length c1))(e2:w.cell? ⟨b2,0,none⟩=some (.slice a2 bids.length c2))(q:I6) :
  CP 111 #[.agg q.vs.toArray,pt b1,pt b2] w (λ r w'=>r=iv (jJ l bids q)/\ax w w' []):=by
 refine nq ?_;unfold jA;refine(St.start w).one.av q.vs.toArray λ r1 w1 s1=>⟨_,_,_,br e1 s1.an,?_⟩;let M:List aJ:=[ah r1 q.vs.toArray 35,emp];refine⟨λ n i w2 m=>∃ k:Nat,i=k/\k<=l.length/\m=l.length-k/\n=(l.take k).foldl (hJ q) 0/\St w w2 (Sep M),⟨l.length,0,rfl,by omega,by omega,rfl,s1⟩,?_⟩;rintro w2 m n i ⟨k,rfl,hk,hm,rfl,s2⟩ -
 by_cases hlt:(k:Int)<(l.length:Int)
 ·have hx:l[k]?=some (l[k]'(by omega)):=gE (by omega);generalize l[k]'(by omega)=y at hx;obtain⟨p,hp,hcl⟩:=(hr.an s2.an).at hx;have ef:=dK (f:=hJ q) (a:=0) hx;refine cT (dT hlt) ⟨λ n w3=>n=(l.take (k+1)).foldl (hJ q) 0/\St w w3 (Sep M),?_,ai hp ⟨by omega,by omega,y.p,y.want,hcl,s2.av dj.cells.toArray λ r2 w4 s4=>s4.az 0 rfl y.cells rfl y.one λ w5 s5=>⟨y.want,bz s5 0 rfl,q,s5.cellsIn 1 rfl,?_⟩⟩⟩
  ·rintro w3 n ⟨rfl,s3⟩ -;exact⟨l.length-(k+1),by omega,k+1,ay ⟨by omega,by omega⟩,by omega,rfl,rfl,s3⟩
  rw[I6.beq_eq]
  by_cases hw:y.want=q
  ·have oy:=ho y (List.mem_of_getElem? hx);refine cT (dT hw) ⟨y.p,mO s5 0 rfl,q,s5.cellsIn 1 rfl,aq (eV w5 oy.p (by rw[<- hw]; exact oy.w)) ?_⟩;rintro v w6 ⟨rfl,c6⟩;exact⟨_,rfl,by rw[ef,hJ,if_pos hw],(s5.quiet c6).aA [1,2]⟩
  ·exact cF (dF hw) ⟨by rw[ef,hJ,if_neg hw],s5.aA [1,2]⟩
 ·obtain rfl:l.length=k:=by omega
  rw[List.take_length];refine cF (dF hlt) ⟨_,_,_,br e2 s2.an,?_⟩;refine⟨λ n i w2 m=>∃ k:Nat,i=k/\k<=bids.length/\m=bids.length-k/\n=(bids.take k).foldl (nU q) (l.foldl (hJ q) 0)/\St w w2 (Sep M),⟨bids.length,0,rfl,by omega,by omega,rfl,s2⟩,?_⟩;clear hm hk hlt s2;rintro w7 m n i ⟨k,rfl,hk,hm,rfl,s2⟩ -
  by_cases hlt:(k:Int)<(bids.length:Int)
  ·have hx:bids[k]?=some (bids[k]'(by omega)):=gE (by omega);generalize bids[k]'(by omega)=y at hx;obtain⟨p,hp,hcl⟩:=(hb.an s2.an).at hx;have ef:=dK (f:=nU q) (a:=l.foldl (hJ q) 0) hx;refine cT (dT hlt) ⟨λ n w3=>n=(bids.take (k+1)).foldl (nU q) (l.foldl (hJ q) 0)/\St w w3 (Sep M),?_,ai hp ⟨by omega,by omega,_,y.want,_,hcl,s2.av FQ.cells.toArray λ r2 w4 s4=>s4.az 0 rfl y.cells rfl y.one λ w5 s5=>⟨y.want,s5.aF 0 1 rfl rfl,q,s5.cellsIn 1 rfl,?_⟩⟩⟩
   ·rintro w3 n ⟨rfl,s3⟩ -;exact⟨bids.length-(k+1),by omega,k+1,ay ⟨by omega,by omega⟩,by omega,rfl,rfl,s3⟩
   rw[I6.beq_eq]
   by_cases hw:y.want=q
   ·exact cT (dT hw) ⟨_,s5.ag 0 rfl 7,by rw[ef,nU,if_pos hw],s5.aA [1,2]⟩
   ·exact cF (dF hw) ⟨by rw[ef,nU,if_neg hw],s5.aA [1,2]⟩
  ·obtain rfl:bids.length=k:=by omega
   rw[List.take_length];exact cF (dF hlt) ⟨rfl,s2.an⟩
theorem zo:gW prog 28 81 (.agg FQ.cells.toArray) 8 64:=gW.mk' underlying28 (by kernel_rfl) rfl (by decide)
abbrev cw (a:OA) (c:Nat) (l:List Of):aJ:=dA 81 8 Of.cells a c l
theorem cH{α:Type}{sz:Nat}{f:α->List Value}{w:World}{r:Nat}{x:α}(h:af w ⟨r,0,none⟩ 0 (f x))(hf:(f x).length=sz):bU sz f w (some ⟨r,0,none⟩) [x]:=λ i y hy=>by
 match i,hy with
 | 0,rfl=>exact⟨_,_,rfl,by rw[dN]; simpa using h,hf,rfl⟩
section
variable {w0 w:World} {B:aJ} {m:I6} {g r1 r2 r3 r4 r5 l D:Nat} {lp:Loop} {T:List Int} {a1:OA} {c1:Nat}
end
def gO(a:I6)(w:World)(K:KP):=au w (.cells a.vs.toArray 30) λ a b=>∃ c:I6,af b (qd a 0) 0 c.vs/\∃ a:Int->qN,(∃ d,a 0 b d)/\∀ b d e,a e b d->∀ f:qv,cond (decide (e<6)) (0<=e/\e<6/\∃ f,(c.vs.toArray:Array Value)[(e).toNat*1]?=some (iv f)/\∃ c:Bool->qW,(∀ g h,c h g->∀ i:qv,cond h (K (iv 4) g) (∃ h,h<d/\a (IntKind.i64.wrap (e+1)) g h))/\cond (decide (f<0)) (c true b) (c (decide (f>1000000)) b)) (K qz b)
theorem kC{u1 w K}(h:gO u1 w K):CP 35 #[.agg u1.vs.toArray] w K:=aj (aC [(26,[(6,.s (.int .i64))]),(1689,[(14,.s .bool)])]) func35 (by kernel_rfl) (by kernel_rfl) h
def ju(a:I6)(w:World)(K:KP):=au w (.cells a.vs.toArray 30) λ a b=>∃ c:I6,af b (qd a 0) 0 c.vs/\∃ a:Int->qN,(∃ d,a 0 b d)/\∀ b d e,a e b d->∀ f:qv,cond (decide (e<6)) (0<=e/\e<6/\∃ f,(c.vs.toArray:Array Value)[(e).toNat*1]?=some (iv f)/\∃ c:Bool->qW,(∀ g h,c h g->∀ i:qv,cond h (K (.bool false) g) (∃ h,h<d/\a (IntKind.i64.wrap (e+1)) g h))/\cond (decide (f<0)) (c true b) (c (decide (f>1000000)) b)) (K (.bool true) b)
theorem mT{u1 w K}(h:ju u1 w K):CP 72 #[.agg u1.vs.toArray] w K:=aj (aC [(26,[(6,.s (.int .i64))]),(1689,[(14,.s .bool)])]) func72 (by kernel_rfl) (by kernel_rfl) h
def mh(a:OA)(b c:Nat)(d:I6)(w:World)(K:KP):=au w (.cells d.vs.toArray 35) λ c d=>∃ e:Int->Int->qN,(∃ f,e 0 (0:Int) d f)/\∀ d f g h,e g h d f->∀ i:qv,cond (decide (h<(b:Int))) (∃ i:Int->qW,(∀ j k,i k j->∀ l:qv,∃ l,l<f/\e k (IntKind.i64.wrap (h+1)) j l)/\ak a λ a=>0<=h/\h<(b:Int)/\∃ b,∃ e:I6,∃ f,af d (Addr.add a ((h).toNat*8)) 0 (iv b :: e.on [iv f])/\au d (.cells #[qz,qz,qz,qz,qz,qz,qz,qz] 81) λ a h=>aN (qd a 0) 0 (iv b :: e.on [iv f]) h λ b=>∃ e:Bool->qW,(∀ f h,e h f->∀ j:qv,cond h (∃ h,f.cell? (qd a 7)=some (iv h)/\i h f) (i g f))/\∃ f,b.cell? (qd a 7)=some (iv f)/\cond (decide (f>g)) (∃ f:I6,af b (qd a 1) 0 f.vs/\∃ a:I6,af b (qd c 0) 0 a.vs/\CC 119 #[.agg f.vs.toArray,.agg a.vs.toArray] b λ a c=>∃ f,a=.returned (.bool f)/\e f c) (e false b)) (K (iv g) d)
theorem o9{a1 l1 c1 u1 w K}(h:mh a1 l1 c1 u1 w K):CP 122 #[.slice a1 l1 c1,.agg u1.vs.toArray] w K:=aj (aC [(58,[(5,.s (.int .i64)),(10,.s (.int .i64))]),(467,[(5,.s (.int .i64))]),(3737,[(23,.s .bool)])]) func122 (by kernel_rfl) (by kernel_rfl) h
def fQ(a:OA)(b c:Nat)(w:World)(K:KP):=∃ c:OA->Nat->Nat->Int->qN,(∃ d,c none 0 0 0 w d)/\∀ e d f g h i,c f g h i e d->∀ j:qv,cond (decide (i<(b:Int))) (∃ j:OA->Nat->Nat->qW,(∀ k l m n,j l m n k->∀ o:qv,∃ o,o<d/\c l m n (IntKind.i64.wrap (i+1)) k o)/\ak a λ a=>0<=i/\i<(b:Int)/\∃ b,∃ c:I6,∃ d,af e (Addr.add a ((i).toNat*8)) 0 (iv b :: c.on [iv d])/\au e (.cells #[qz,qz,qz,qz,qz,qz,qz,qz] 81) λ a i=>aN (qd a 0) 0 (iv b :: c.on [iv d]) i λ b=>∃ c:Bool->qW,(∀ d i,c i d->∀ k:qv,cond i (∃ i,∃ k:I6,∃ l,af d (qd a 0) 0 (iv i :: k.on [iv l])/\au d (.cells (iv i :: k.on [iv l]:List Value).toArray 81) λ i k=>aW prog (Builtin.append_ #[130,130] 130 #[.slice f g h,.slice (some (qd i 0)) 1 1]) k λ i k=>∃ l m n,i=(.slice l m n)/\j l m n k) (j f g h d))/\∃ d:I6,af b (qd a 1) 0 d.vs/\CC 73 #[.agg d.vs.toArray] b λ b d=>∃ i,b=.returned (iv i)/\cond (i==0) (∃ b,d.cell? (qd a 7)=some (iv b)/\cond (decide (b>=1)) (∃ b,d.cell? (qd a 7)=some (iv b)/\c (decide (b<=1000000)) d) (c false d)) (c false d)) (K (.slice f g h) e)
theorem jI{a1 l1 c1 w K}(h:fQ a1 l1 c1 w K):CP 75 #[.slice a1 l1 c1] w K:=aj (aC [(58,[(3,.s .slice),(8,.s (.int .i64))]),(467,[(3,.s .slice)]),(3737,[(25,.s .bool)])]) func75 (by kernel_rfl) (by kernel_rfl) h
def dw(a:OA)(b c:Nat)(d e:I6)(w:World)(K:KP):=au w (.cells d.vs.toArray 30) λ d f=>au f (.cells e.vs.toArray 35) λ e f=>∃ g:I6,af f.drew (qd e 0) 0 g.vs/\∃ h:I6,af f.drew (qd d 0) 0 h.vs/\∃ i:I6,af f.drew (qd e 0) 0 i.vs/\CC 122 #[.slice a b c,.agg g.vs.toArray] f.drew λ a b=>∃ c,a=.returned (iv c)/\af b (qd e 0) 0 i.vs/\af b (qd d 0) 0 h.vs/\CC 71 #[.agg h.vs.toArray,.agg i.vs.toArray] b λ a b=>∃ d,a=.returned (iv d)/\K (iv (IntKind.i64.wrap (c-d))) b
theorem fA{a1 l1 c1 u1 u2 w K}(h:dw a1 l1 c1 u1 u2 w K):CP 74 #[.slice a1 l1 c1,.agg u1.vs.toArray,.agg u2.vs.toArray] w K:=aj (aC []) func74 (by kernel_rfl) (by kernel_rfl) h
def gD(a:OA)(b c:Nat)(d e:I6)(w:World)(K:KP):=au w (.cells d.vs.toArray 30) λ d f=>au f (.cells e.vs.toArray 35) λ e f=>∃ g:Bool->qW,(∀ h i,g i h->∀ j:qv,cond i (K qz h) (∃ i:I6,af h.drew (qd d 0) 0 i.vs/\∃ j:I6,af h.drew (qd e 0) 0 j.vs/\CC 75 #[.slice a b c] h.drew λ a b=>∃ c h k,a=.returned (.slice c h k)/\af b (qd e 0) 0 j.vs/\af b (qd d 0) 0 i.vs/\CC 74 #[.slice c h k,.agg i.vs.toArray,.agg j.vs.toArray] b λ a b=>∃ c,a=.returned (iv c)/\K (iv c) b))/\∃ a:I6,af f (qd d 0) 0 a.vs/\CC 72 #[.agg a.vs.toArray] f λ a b=>∃ c,a=.returned (.bool c)/\cond (!c) (g true b) (∃ a:I6,af b (qd e 0) 0 a.vs/\CC 73 #[.agg a.vs.toArray] b λ a b=>∃ c,a=.returned (iv c)/\g (c !=0) b)
theorem j8{a1 l1 c1 u1 u2 w K}(h:gD a1 l1 c1 u1 u2 w K):CP 39 #[.slice a1 l1 c1,.agg u1.vs.toArray,.agg u2.vs.toArray] w K:=aj (aC [(6,[(14,.s .bool)])]) func39 (by kernel_rfl) (by kernel_rfl) h
def oq(a:I6)(b c d:Nat)(w:World)(K:KP):=au w (.cells a.vs.toArray 35) λ a e=>∃ f g h i j k l m n o p q,af e (qd b 0) 0 [.slice f g h,.slice i j k,.slice l m n,.slice o p q]/\∃ r,e.cell? (qd c 0)=some (iv r)/\∃ s:I6,af e (qd a 0) 0 s.vs/\CC 37 #[.agg #[.slice f g h,.slice i j k,.slice l m n,.slice o p q],iv r,.agg s.vs.toArray] e λ e f=>∃ g,e=.returned (iv g)/\cond (g==0) (∃ e g h i j k l m n o p q,af f (qd b 0) 0 [.slice e g h,.slice i j k,.slice l m n,.slice o p q]/\∃ b,f.cell? (qd c 0)=some (iv b)/\∃ c:I6,af f (qd d 0) 0 c.vs/\∃ d:I6,af f (qd a 0) 0 d.vs/\CC 38 #[.agg #[.slice e g h,.slice i j k,.slice l m n,.slice o p q],iv b,.agg (c.on (d.vs):List Value).toArray] f λ a b=>∃ c,a=.returned (iv c)/\K (.bool (c==0)) b) (K (.bool false) f)
theorem qG{u1 b1 b2 b3 w K}(h:oq u1 b1 b2 b3 w K):CP 36 #[.agg u1.vs.toArray,.pointer (some ⟨b1,0,none⟩),.pointer (some ⟨b2,0,none⟩),.pointer (some ⟨b3,0,none⟩)] w K:=aj (aC []) func36 (by kernel_rfl) (by kernel_rfl) h
noncomputable def cL(a1:OA)(l1:Nat)(c1:Nat)(a2:OA)(l2:Nat)(c2:Nat)(a3:OA)(l3:Nat)(c3:Nat)(a4:OA)(l4:Nat)(c4:Nat)(n1:Int)(a5:OA)(l5:Nat)(c5:Nat)(u1:I6)(r1:Nat)(r2:Nat)(r3:Nat)(r4:Nat)(r5:Nat)(a6:OA)(l6:Nat)(c6:Nat)(a7:OA)(l7:Nat)(c7:Nat)(a8:OA)(l8:Nat)(c8:Nat)(a9:OA)(l9:Nat)(c9:Nat)(n2:Int)(b1:Bool)(x1:Nat->Value)(u4:I6)(n3:Int)(r6:Nat)(r7:Nat)(a10:OA)(l10:Nat)(c10:Nat)(u6:I6)(u7:I6)(n4:Int)(r8:Nat)(a11:OA)(l11:Nat)(c11:Nat)(u8:I6)(v1:Value):Tm:=[.agg #[.slice a1 l1 c1,.slice a2 l2 c2,.slice a3 l3 c3,.slice a4 l4 c4],iv n1,.slice a5 l5 c5,.agg u1.vs.toArray,qp r1,qp r2,qp r3,qp r4,qp r5,qz,iv n2,iv n3,qp r6,qp r7,qp r8,undef,undef,.agg #[.slice a6 l6 c6,.slice a7 l7 c7,.slice a8 l8 c8,.slice a9 l9 c9],iv n2,iv n2,.bool (n2 !=0),undef,undef,x1 23,x1 24,x1 25,x1 26,x1 27,x1 28,x1 29,x1 30,.bool b1,undef,.agg u4.vs.toArray,iv n3,iv n3,.bool (n3 !=0),undef,undef,.func (.func 36) #[] #[qp r1,qp r2,qp r4],.slice a10 l10 c10,.agg u6.vs.toArray,.agg u7.vs.toArray,iv n4,qp r1,.slice a11 l11 c11,.agg u8.vs.toArray,v1,undef,undef,undef,undef,undef,undef,undef,undef,undef,undef,undef,undef,undef,undef,undef,undef]
noncomputable def jL(a1:OA)(l1:Nat)(c1:Nat)(a2:OA)(l2:Nat)(c2:Nat)(a3:OA)(l3:Nat)(c3:Nat)(a4:OA)(l4:Nat)(c4:Nat)(n1:Int)(a5:OA)(l5:Nat)(c5:Nat)(u1:I6)(r1:Nat)(r2:Nat)(r3:Nat)(r4:Nat)(r5:Nat)(a6:OA)(l6:Nat)(c6:Nat)(a7:OA)(l7:Nat)(c7:Nat)(a8:OA)(l8:Nat)(c8:Nat)(a9:OA)(l9:Nat)(c9:Nat)(n2:Int)(b1:Bool)(x1:Nat->Value)(u4:I6)(n3:Int)(r6:Nat)(r7:Nat)(a10:OA)(l10:Nat)(c10:Nat)(u6:I6)(u7:I6)(n4:Int)(r8:Nat)(a11:OA)(l11:Nat)(c11:Nat)(u8:I6)(v1:Value)(fn:FuncId)(D:Nat):Loop:={ state:=.ready,pending:=none,fn:=fn,tmps:=(cL a1 l1 c1 a2 l2 c2 a3 l3 c3 a4 l4 c4 n1 a5 l5 c5 u1 r1 r2 r3 r4 r5 a6 l6 c6 a7 l7 c7 a8 l8 c8 a9 l9 c9 n2 b1 x1 u4 n3 r6 r7 a10 l10 c10 u6 u7 n4 r8 a11 l11 c11 u8 v1).toArray,params:=II (fL Tryz.f10) 2042,assign:=IF (fL Tryz.f10) 2042,body:=IG (fL Tryz.f10) 2042,defers:=D }
def gM(a:OA)(b:Nat)(c:Nat)(d:OA)(e:Nat)(f:Nat)(g:OA)(h:Nat)(i:Nat)(j:OA)(k:Nat)(l:Nat)(m:Int)(n:OA)(o:Nat)(p:Nat)(q:I6)(r:Nat)(s:Nat)(t:Nat)(u:Nat)(v:Nat)(x:OA)(y:Nat)(z:Nat)(A:OA)(B:Nat)(C:Nat)(D:OA)(E:Nat)(F:Nat)(G:OA)(H:Nat)(I:Nat)(J:Int)(L:Bool)(M:Nat->Value)(N:I6)(O:Int)(P:Nat)(Q:Nat)(R:OA)(S:Nat)(T:Nat)(U:I6)(V:I6)(W:Int)(X:Nat)(Y:OA)(Z:Nat)(a1:Nat)(a2:I6)(a3:Value)(a4:Nat)(a5:I6)(w:World)(K:Bool->qW):Prop:=au w (.cells z6.vs.toArray 35) λ a b=>aN (qd a 0) 0 a5.vs b λ b=>∃ c,b.heap[a4]?=some (.loop c)/\c.state=.ready/\∃ d e f,(World.putObj b a4 (.loop { c with state:=.busy })).cell? (qd t 0)=some (.slice d e f)/\∃ g:I6,af (World.putObj b a4 (.loop { c with state:=.busy })) (qd u 0) 0 g.vs/\∃ h:I6,af (World.putObj b a4 (.loop { c with state:=.busy })) (qd a 0) 0 h.vs/\CC 39 #[.slice d e f,.agg g.vs.toArray,.agg h.vs.toArray] (World.putObj b a4 (.loop { c with state:=.busy })) λ b c=>∃ d,b=.returned (iv d)/\∃ b:Bool->qW,(∀ e f,b f e->∀ g:qv,cond f (∃ f:I6,af e (qd a 0) 0 f.vs/\aN (qd Q 0) 0 f.vs e λ f=>dW f (qd X 0) (iv d) λ f=>∃ g,f.heap[a4]?=some (.loop g)/\K true (World.putObj f a4 (.loop { g with state:=.ready,pending:=none }))) (∃ f,e.heap[a4]?=some (.loop f)/\K true (World.putObj e a4 (.loop { f with state:=.ready,pending:=none }))))/\∃ e,c.cell? (qd X 0)=some (iv e)/\cond (decide (d>e)) (∃ d:Value,c.cell? (qd P 0)=some d/\∃ e:I6,af c (qd a 0) 0 e.vs/\gw prog d #[.agg e.vs.toArray] c λ a d=>∃ e,a=.returned (.bool e)/\b e d) (b false c)
theorem kA{a1:OA}{l1:Nat}{c1:Nat}{a2:OA}{l2:Nat}{c2:Nat}{a3:OA}{l3:Nat}{c3:Nat}{a4:OA}{l4:Nat}{c4:Nat}{n1:Int}{a5:OA}{l5:Nat}{c5:Nat}{u1:I6}{r1:Nat}{r2:Nat}{r3:Nat}{r4:Nat}{r5:Nat}{a6:OA}{l6:Nat}{c6:Nat}{a7:OA}{l7:Nat}{c7:Nat}{a8:OA}{l8:Nat}{c8:Nat}{a9:OA}{l9:Nat}{c9:Nat}{n2:Int}{b1:Bool}{x1:Nat->Value}{u4:I6}{n3:Int}{r6:Nat}{r7:Nat}{a10:OA}{l10:Nat}{c10:Nat}{u6:I6}{u7:I6}{n4:Int}{r8:Nat}{a11:OA}{l11:Nat}{c11:Nat}{u8:I6}{v1:Value}{l13:Nat}{u11:I6}{w:World}{K:Bool->World->Prop}{r:Loop}(hl:w.heap[l13]?=some (.loop r))(ht:r.tmps=(cL a1 l1 c1 a2 l2 c2 a3 l3 c3 a4 l4 c4 n1 a5 l5 c5 u1 r1 r2 r3 r4 r5 a6 l6 c6 a7 l7 c7 a8 l8 c8 a9 l9 c9 n2 b1 x1 u4 n3 r6 r7 a10 l10 c10 u6 u7 n4 r8 a11 l11 c11 u8 v1).toArray)(hp:r.params=II (fL Tryz.f10) 2042)(ha:r.assign=IF (fL Tryz.f10) 2042)(hb:r.body=IG (fL Tryz.f10) 2042)(h:gM a1 l1 c1 a2 l2 c2 a3 l3 c3 a4 l4 c4 n1 a5 l5 c5 u1 r1 r2 r3 r4 r5 a6 l6 c6 a7 l7 c7 a8 l8 c8 a9 l9 c9 n2 b1 x1 u4 n3 r6 r7 a10 l10 c10 u6 u7 n4 r8 a11 l11 c11 u8 v1 l13 u11 w K):mI prog l13 #[.agg u11.vs.toArray] w K:=FP (aC [(13,[(60,.s .bool)])]) (args:=[.agg u11.vs.toArray]) hl ht hp ha hb (by kernel_rfl) (by kernel_rfl) (by kernel_rfl) h
def sy(a:OA)(b c:Nat)(d:OA)(e f:Nat)(g:OA)(h i:Nat)(j:OA)(k l:Nat)(m:Int)(n:OA)(o p:Nat)(q:I6)(w:World)(K:KP):=au w (.cells #[.slice a b c,.slice d e f,.slice g h i,.slice j k l] 27) λ r s=>au s (.cells #[iv m] 3) λ s t=>au t (.cells #[.slice n o p] 28) λ t u=>au u (.cells q.vs.toArray 30) λ u v=>au v (.cells z6.vs.toArray 35) λ v x=>∃ y z A B C D E F G H I J,af x (qd r 0) 0 [.slice y z A,.slice B C D,.slice E F G,.slice H I J]/\CC 34 #[.agg #[.slice y z A,.slice B C D,.slice E F G,.slice H I J]] x λ x L=>∃ M,x=.returned (iv M)/\cond (M !=0) (aN (qd v 0) 0 z6.vs L λ x=>∃ N:I6,af x (qd v 0) 0 N.vs/\K (.tuple #[.agg N.vs.toArray,iv M]) x) (∃ x:Bool->qW,(∀ N O,x O N->∀ P:qv,cond O (aN (qd v 0) 0 z6.vs N λ Q=>∃ R:I6,af Q (qd v 0) 0 R.vs/\K (.tuple #[.agg R.vs.toArray,iv 6]) Q) (∃ Q:I6,af N (qd u 0) 0 Q.vs/\CC 35 #[.agg Q.vs.toArray] N λ N R=>∃ S,N=.returned (iv S)/\cond (S !=0) (aN (qd v 0) 0 z6.vs R λ N=>∃ T:I6,af N (qd v 0) 0 T.vs/\K (.tuple #[.agg T.vs.toArray,iv S]) N) (au R (.cells #[.nilFunc] 91) λ N R=>dW R (qd N 0) (.func (.func 36) #[] #[qp r,qp s,qp u]) λ R=>au R (.cells z6.vs.toArray 35) λ R T=>∃ U V W,T.cell? (qd t 0)=some (.slice U V W)/\∃ X:I6,af T (qd u 0) 0 X.vs/\∃ Y:I6,af T (qd R 0) 0 Y.vs/\CC 39 #[.slice U V W,.agg X.vs.toArray,.agg Y.vs.toArray] T λ T Z=>∃ a1,T=.returned (iv a1)/\au Z (.cells #[qz] 2) λ T Z=>dW Z (qd T 0) (iv a1) λ Z=>∃ a2 a3 a4,Z.cell? (qd r 0)=some (.slice a2 a3 a4)/\CC 41 #[.slice a2 a3 a4] Z λ Z a5=>∃ a6:I6,Z=.returned (.agg a6.vs.toArray)/\CC 40 #[.agg a6.vs.toArray] a5 λ Z a5=>∃ a7:Value,Z=.returned a7/\wF prog a7 λ Z a8=>AM prog Z a8 (jL a b c d e f g h i j k l m n o p q r s t u v y z A B C D E F G H I J M O P Q S N R U V W X Y a1 T a2 a3 a4 a6 a7) a5 (λ a=>∃ b:I6,af a (qd R 0) 0 b.vs/\aN (qd v 0) 0 b.vs a λ a=>a.heap[a5.heap.size]?=some (.deferred (some []))/\∃ b:I6,af (World.putObj a a5.heap.size (.deferred none)) (qd v 0) 0 b.vs/\K (.tuple #[.agg b.vs.toArray,qz]) (World.putObj a a5.heap.size (.deferred none))) (λ _=>False) [])))/\∃ a,L.cell? (qd s 0)=some (iv a)/\cond (decide (a<0)) (x true L) (∃ a,L.cell? (qd s 0)=some (iv a)/\∃ b c d,L.cell? (qd r 1)=some (.slice b c d)/\x (decide (a>=(c:Int))) L))
theorem tI{a1 l1 c1 a2 l2 c2 a3 l3 c3 a4 l4 c4 n1 a5 l5 c5 u1 w K}(h:sy a1 l1 c1 a2 l2 c2 a3 l3 c3 a4 l4 c4 n1 a5 l5 c5 u1 w K):CP 10 #[.agg #[.slice a1 l1 c1,.slice a2 l2 c2,.slice a3 l3 c3,.slice a4 l4 c4],iv n1,.slice a5 l5 c5,.agg u1.vs.toArray] w K:=aj (aC [(14,[(31,.s .bool)])]) func10 (by kernel_rfl) (by kernel_rfl) h
