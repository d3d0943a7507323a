import Derived.Test.YtpihmghnbplohaaGreatDoorM17
set_option linter.unusedVariables false
set_option maxRecDepth 100000
namespace Go.Proofs.YtpihmghnbplohaaGreatDoor
open Go Go.Vc Tryz
structure Ck where
  s:Se
  o:Po
  cl:List Rn
  p:I6
  ask:List I6
  bd:List Bool
  dp:List Bool
  ov:Bool
  ka:Option Addr
  kc:Nat
  xa:Option Addr
  xc:Nat
  ya:Option Addr
  yc:Nat
  za:Option Addr
  zc:Nat
def Ck.cells(C:Ck):List Value:=(.slice C.s.a1 C.s.ps.length C.s.c1) :: ((.slice C.s.a2 C.s.bd.length C.s.c2) :: ((.slice C.s.a3 C.s.cp.length C.s.c3) :: ((.slice C.s.a4 C.s.sa.length C.s.c4) :: ((iv C.o.step) :: ((iv C.o.pct) :: ((iv C.o.und) :: ((iv C.o.rule) :: ((.slice C.ka C.cl.length C.kc) :: (C.p.on [.slice C.xa C.ask.length C.xc,.slice C.ya C.bd.length C.yc,.slice C.za C.dp.length C.zc,.bool C.ov])))))))))
theorem Ck.one(C:Ck):∀ v∈C.cells,v.oneCell' = true:=by
  intro v hv; simp[Ck.cells,I6.on] at hv;rcases hv with rfl | rfl | rfl | rfl | rfl | rfl | rfl | rfl | rfl | rfl | rfl | rfl | rfl | rfl | rfl | rfl | rfl | rfl | rfl<;>rfl
def Ck.er(C:Ck):Ck:={ C with s:=C.s.er,cl:=C.cl.map Rn.er,ka:=none,kc:=0,xa:=none,xc:=0,ya:=none,yc:=0,za:=none,zc:=0 }
structure Pw (S:Se) (cl:List Rn) (w:World):Prop where
  s:S.In w
  cl:uO cl w
abbrev Ck.In (C:Ck):World->Prop:=Pw C.s C.cl
theorem Pw.av{S:Se}{cl:List Rn}{w w' : World}(h:Pw S cl w)(hc:az w w' []):Pw S cl w':=⟨h.s.av hc,λ x hx=>(h.cl x hx).av hc⟩
structure Ck.Rd (b:Nat) (C:Ck) (w:World):Prop where
  me:af w ⟨b,0,none⟩ 0 C.cells
  ask:cH 6 I6.vs w C.xa C.ask
  bd:cH 1 bl w C.ya C.bd
  dp:cH 1 bl w C.za C.dp
  cl:cH 9 Rn.cells w C.ka C.cl
  i:C.In w
theorem Ck.Rd.av{b:Nat}{C:Ck}{w w' : World}(h:C.Rd b w)(hc:az w w' []):C.Rd b w':=⟨br hc h.me,h.ask.av hc,h.bd.av hc,h.dp.av hc,h.cl.av hc,h.i.av hc⟩
def dW(b:Nat)(C:Ck):List aD:=[ai b C.cells.toArray 179,AK C.xa C.xc C.ask,IW C.ya C.yc C.bd,IW C.za C.zc C.dp,NX C.ka C.kc C.cl,held C.In]
theorem MA{r:Nat}{cs:Array Value}{T:TypeId}:iu (ai r cs T) λ w=>af w ⟨r,0,none⟩ 0 cs.toList:=λ w F h=>by
  have s:St w w (Sep []):=St.start w;obtain⟨h1,rfl⟩:=h;refine bE _ 0 λ j v hj=>?_;rw[fQ,Nat.zero_add];simp only[World.cell?,h1];simpa using hj
theorem uV{b:Nat}{C:Ck}:iu (Sep (dW b C)) (C.Rd b) :=
  iu.mono (MA.cons ((bK cS).cons ((bK iD).cons ((bK iD).cons ((bK Rn.len).cons ((bn _).cons iu.nil)))))) λ _ ⟨h1,h2,h3,h4,h5,h6,_⟩=>⟨h1,h2,h3,h4,h5,h6⟩
structure Ck.Ok (C:Ck):Prop where
  s:C.s.Ok
  o:C.o.ok
  cl:C.cl.length<=30
  cz:∀ x∈C.cl,x.Sz C.s.bd.length
  cp:∀ x∈C.cl,nr x.p=true
  ca:∀ x∈C.cl,∀ u∈x.ask,I6.Le u 4
  cg:∀ x∈C.cl,∀ u∈x.got,I6.Le u 4
  p:nr C.p=true
  ask:C.ask.length=C.s.bd.length
  bd:C.bd.length=C.s.bd.length
  dp:C.dp.length=C.s.bd.length
  asked:∀ u∈C.ask,I6.Le u 4
section
variable {b:Nat} {C:Ck} {w:World}
theorem Ck.Rd.cell(h:C.Rd b w)(j:Nat){v:Value}(e:C.cells[j]? = some v):w.cell? ⟨b,j,none⟩=some v:=by
  have:=bC h.me j v e
  rwa [Nat.zero_add,fQ] at this
theorem Ck.Rd.aP(h:C.Rd b w)(j:Nat){vs:List Value}(hv:(C.cells.drop j).take vs.length=vs):af w ⟨b,j,none⟩ 0 vs :=
  bE _ 0 λ k v hk=>by
    have hl:k<vs.length:=(List.getElem?_eq_some_iff.1 hk).1;have ha:(⟨b,j,none⟩:Addr).add (0+k)=⟨b,j+k,none⟩:=by unfold Addr.add; split<;>simp_all
    have h2:((C.cells.drop j).take vs.length)[k]? = vs[k]?:=by rw[hv]
    rw[List.getElem?_take,if_pos hl,List.getElem?_drop,hk] at h2;rw[ha]; exact h.cell _ h2
theorem E9(h:C.Rd b w)(n:Int):CP 143 #[.pointer (some ⟨b,0,none⟩),iv n] w (λ r w'=>r=.bool (decide (0<=n)&&decide (n<(C.dp.length:Int)))/\w' = w):=by
  refine qH ?_;unfold mw
  by_cases g:n>=0
  · exact cT (dT g) ⟨_,_,_,h.cell 17 rfl,by rw[dT g]; rfl,rfl⟩
  · exact cF (dF g) ⟨by rw[dF (by omega)]; rfl,rfl⟩
theorem KB(h:C.Rd b w):CP 47 #[.pointer (some ⟨b,0,none⟩)] w (λ r w'=>r=iv C.cl.length/\w' = w):=by
  refine nJ ?_;unfold jw;exact⟨_,_,_,h.cell 8 rfl,rfl,rfl⟩
theorem Ij(h:C.Rd b w):CP 46 #[.pointer (some ⟨b,0,none⟩)] w (λ r w'=>r=.agg C.p.vs.toArray/\az w w' []):=by
  refine mR ?_;unfold iE;refine(St.start w).one.ax z6.vs.toArray λ r1 w1 s1=>⟨C.p,(h.av s1.av).aP 9 rfl,s1.aA 0 rfl C.p.vs rfl C.p.one λ w2 s2=>⟨C.p,s2.cellsIn 0 rfl,rfl,s2.av⟩⟩
theorem Ik(h:C.Rd b w)(hk:C.Ok):CP 73 #[.pointer (some ⟨b,0,none⟩)] w (λ r w'=>∃ l' a' c',l'.map Rn.er=C.cl.map Rn.er/\r=.slice a' l'.length c'/\St w w' (star (NX a' c' l') (held (uO l')))):=by
  refine mT ?_;unfold iG;refine⟨_,_,_,h.cell 8 rfl,aj (PZ h.cl h.i.cl hk.cz (by have:=hk.s.bd.l2; omega) (by have:=hk.cl; omega)) ?_⟩;rintro v w1 ⟨l',a',c',e,rfl,s⟩;exact⟨_,_,_,rfl,l',a',c',e,rfl,s⟩
def zn(C:Ck)(n:Nat):List Ch:=C.cl.map λ x=>⟨x.p,x.ask.getD n z6⟩
theorem z7(h:C.Rd b w)(hk:C.Ok){n:Nat}(hn:n<C.s.bd.length):CP 147 #[.pointer (some ⟨b,0,none⟩),iv n] w (λ r w'=>∃ a' c',r=.slice a' (zn C n).length c'/\St w w' (bW 235 12 Ch.cells a' c' (zn C n))):=by
  refine lB ?_;unfold gP;have hd:=hk.dp; have hl:=hk.cl;refine⟨λ b w1=>b=false/\w1=w,?_,aj (E9 h n) ?_⟩
  · rintro w1 b ⟨rfl,rfl⟩ -;refine cF rfl ⟨_,_,_,h.cell 8 rfl,λ a2 l2 c2 n2 w2 m=>∃ k:Nat,n2=k/\k<=C.cl.length/\m=C.cl.length-k/\l2=((zn C n).take k).length/\St w1 w2 (star (bW 235 12 Ch.cells a2 c2 ((zn C n).take k)) emp),⟨C.cl.length,0,rfl,by omega,by omega,rfl,(St.start w1).eZ⟩,?_⟩;rintro w2 m a2 l2 c2 n2 ⟨k,rfl,hk1,hm,rfl,s2⟩ -
    by_cases hlt:(k:Int)<(C.cl.length:Int)
    · have hx:C.cl[k]? = some (C.cl[k]'(by omega)):=gE (by omega);generalize C.cl[k]'(by omega)=x at hx;have hm:=List.mem_of_getElem? hx;have za:=(hk.cz x hm).ask;obtain⟨q,hq,hcl⟩:=(h.cl.av s2.av).at hx;refine cT (dT hlt) (au hq ⟨by omega,by omega,x.p,_,_,_,_,_,_,_,_,_,hcl,s2.ax (l:=[_]) SL.cells.toArray λ r1 w3 s3=>s3.aA 0 rfl x.cells rfl x.one λ w4 s4=>?_⟩);have s5:=s4.quiet (az.drew w4 []);have hu:x.ask[n]? = some (x.ask.getD n z6):=by rw[List.getD_eq_getElem?_getD,gE (by omega)]; rfl
      obtain⟨q2,hq2,hcl2⟩:=((h.i.cl x hm).av s5.av).ask.at hu;refine⟨x.p,s5.aP 0 0 rfl rfl,_,_,_,s5.ag 0 rfl 6,au hq2 ⟨by omega,by omega,_,hcl2,?_⟩⟩;have hch:(zn C n)[k]? = some ⟨x.p,x.ask.getD n z6⟩:=by simp[zn,hx]
      have hlen:((zn C n).take k).length=k:=by simp[zn]; omega
      refine iC So Ch.len (x:=⟨x.p,x.ask.getD n z6⟩) (Ch.one _) (s5.out 1 rfl) (by omega) (by omega) (λ a' c' w5 s6=>?_) rfl;refine⟨C.cl.length-(k+1),by omega,k+1,aC ⟨by omega,by omega⟩,by omega,rfl,?_,?_⟩
      · rw[aL hch]
      · rw[aL hch]; exact s6.first.one
    · obtain rfl:C.cl.length=k:=by omega
      rw[List.take_of_length_le (by simp[zn])] at s2 ⊢;exact cF (dF hlt) ⟨_,_,rfl,s2.first⟩
  · rintro r w1 ⟨rfl,rfl⟩;exact⟨_,rfl,by simp; omega,rfl⟩
end
section
variable {b:Nat} {C:Ck} {w:World}
theorem ET(h:C.Rd b w)(hk:C.Ok):CP 52 #[.pointer (some ⟨b,0,none⟩)] w (λ r w'=>∃ g C',C'.er=C.er/\r=.pointer (some ⟨g,0,none⟩)/\St w w' (Sep (dW g C'))):=by
  refine pL ?_;unfold ki;have z:=hk.s.bd.l2; have z1:=hk.ask; have z2:=hk.bd; have z3:=hk.dp;refine⟨_,_,_,_,_,_,_,_,_,_,_,_,_,_,_,_,_,_,_,C.p,_,_,_,_,_,_,_,_,_,_,h.me,(St.start w).one.ax ⟨[.slice none 0 0,.slice none 0 0,.slice none 0 0,.slice none 0 0,iv 0,iv 0,iv 0,iv 0,.slice none 0 0,iv 0,iv 0,iv 0,iv 0,iv 0,iv 0,.slice none 0 0,.slice none 0 0,.slice none 0 0,.bool false]⟩ λ r1 w1 s1=>s1.aA 0 rfl C.cells rfl C.one λ w2 s2=>?_⟩;refine⟨_,_,_,_,_,_,_,_,_,_,_,_,(h.av s2.av).aP 0 rfl,aj (xH (h.av s2.av).i.s hk.s.sz) ?_⟩;rintro v w3 ⟨S',eS,rfl,k3⟩;have s3:St w w3 (Sep [_,_,_]):=s2.and k3;refine⟨_,_,_,_,_,_,_,_,_,_,_,_,rfl,aj (Ik (h.av s3.av) hk) ?_⟩;rintro v w4 ⟨l',a4,c4,e4,rfl,k4⟩;have s4:St w w4 (Sep [_,_,_,_,_]):=(s3.and k4).assoc;refine⟨_,_,_,rfl,s4.oF 3 0 rfl ({ C with s:=S' }:Ck).cells.toArray (show 4<=19 by decide) (by simp[Value.oneCell']) rfl λ w5 s5=>s5.aH 3 rfl (j:=8) (show 8<19 by decide) rfl λ w6 s6=>?_⟩;have s7:=s6.quiet (az.drew w6 []);have h7:=h.av s7.av;refine⟨_,_,_,h7.cell 15 rfl,_,_,_,h7.cell 16 rfl,_,_,_,h7.cell 17 rfl,aj (kB h7.ask (by omega)) ?_⟩;rintro v w8 ⟨g1,rfl,k8⟩;have s8:St w w8 (Sep [_,_,_,_,_,_]):=s7.and k8;have h8:=h.av s8.av;refine⟨_,_,_,rfl,h8.cell 17 rfl,h8.cell 16 rfl,aj (tW h8.bd (by omega)) ?_⟩;rintro v w9 ⟨g2,rfl,k9⟩;have s9:St w w9 (Sep [_,_,_,_,_,_,_]):=s8.and k9;have h9:=h.av s9.av;refine⟨_,_,_,rfl,h9.cell 17 rfl,aj (tW h9.dp (by omega)) ?_⟩;rintro v w10 ⟨g3,rfl,k10⟩;have s10:St w w10 (Sep [_,_,_,_,_,_,_,_]):=s9.and k10;refine⟨_,_,_,rfl,s10.aH 6 rfl (j:=15) (show 15<19 by decide) rfl λ w11 s11=>s11.aH 6 rfl (j:=16) (show 16<19 by decide) rfl λ w12 s12=>s12.aH 6 rfl (j:=17) (show 17<19 by decide) rfl λ w13 s13=>?_⟩;let C' : Ck:={ C with s:=S',cl:=l',ka:=a4,kc:=c4,xa:=some ⟨g1,0,none⟩,xc:=C.ask.length,ya:=some ⟨g2,0,none⟩,yc:=C.bd.length,za:=some ⟨g3,0,none⟩,zc:=C.dp.length };refine⟨r1,C',?_,rfl,?_⟩
  · simp only[Ck.er,C',eS,e4]
  · have s14:St w w13 (Sep [IW (some ⟨g3,0,none⟩) C.dp.length C.dp,IW (some ⟨g2,0,none⟩) C.bd.length C.bd,AK (some ⟨g1,0,none⟩) C.ask.length C.ask,NX a4 c4 l',held (uO l'),held S'.In,ai r1 C'.cells.toArray 179,emp]):=s13;exact((s14.aq [5,4,6,2,1,0,3]).qj (bn _) (bn _) λ _ h1 h2=>(⟨h1,h2⟩:C'.In _)).aq [1,2,3,4,5,0]
end
section
variable {b:Nat} {C:Ck} {w0 w:World} {B:aD}
def fo(C:Ck):Ck:={ C with ask:=List.replicate C.dp.length z6,bd:=List.replicate C.dp.length false }
theorem Bt(s:St w0 w (Sep [ai b C.cells.toArray 179,IW C.za C.zc C.dp,B]))(hd:C.dp.length<=100) :
    CP 142 #[.pointer (some ⟨b,0,none⟩)] w (λ r w'=>∃ xa xc ya yc,r=.tuple #[]/\St w0 w' (Sep [ai b ({ fo C with xa:=xa,xc:=xc,ya:=ya,yc:=yc }:Ck).cells.toArray 179,AK xa xc (fo C).ask,IW ya yc (fo C).bd,IW C.za C.zc C.dp,B])):=by
  refine nK ?_;unfold jx;have s1:=s.quiet (az.drew w []);have e1:(fo C).ask.length=C.dp.length:=by simp[fo]
  have e2:(fo C).bd.length=C.dp.length:=by simp[fo]
  have fin:∀ {g1 g2:Nat},(((C.cells.toArray.setIfInBounds 15 (.slice (some ⟨g1,0,none⟩) C.dp.length C.dp.length)).setIfInBounds 16 (.slice (some ⟨g2,0,none⟩) C.dp.length C.dp.length))=({ fo C with xa:=some ⟨g1,0,none⟩,xc:=C.dp.length,ya:=some ⟨g2,0,none⟩,yc:=C.dp.length }:Ck).cells.toArray):=by
    intro g1 g2;show _=(Ck.cells _).toArray;simp only[Ck.cells];rw[e1,e2]; rfl
  refine⟨_,_,_,s1.ag 0 rfl 17,_,_,_,s1.ag 0 rfl 17,⟨?_,?_⟩⟩
  · refine cW (x:=z6) N9 cS rfl s1 (n:=C.dp.length) (by omega) (by omega) λ g1 w1 c1 s2=>⟨St.ag (l:=[_,_,_,_]) s2 1 rfl 17,⟨?_,?_⟩⟩
    · refine cW (x:=false) FQ iD rfl s2 (n:=C.dp.length) (by omega) (by omega) λ g2 w2 c2 s3=>?_;refine St.aH (l:=[_,_,_,_,_]) s3 2 rfl (j:=15) (show 15<19 by decide) rfl λ w3 s4=>s4.aH 2 rfl (j:=16) (show 16<19 by decide) rfl λ w4 s5=>⟨some ⟨g1,0,none⟩,C.dp.length,some ⟨g2,0,none⟩,C.dp.length,rfl,?_⟩;rw[<- fin]; exact s5.aq [2,1,0,3,4]
    · refine St.aH (l:=[_,_,_,_]) s2 1 rfl (j:=15) (show 15<19 by decide) rfl λ w3 s4=>?_;refine cW (x:=false) FQ iD rfl s4 (n:=C.dp.length) (by omega) (by omega) λ g2 w2 c2 s3=>St.aH (l:=[_,_,_,_,_]) s3 2 rfl (j:=16) (show 16<19 by decide) rfl λ w4 s5=>⟨some ⟨g1,0,none⟩,C.dp.length,some ⟨g2,0,none⟩,C.dp.length,rfl,?_⟩;rw[<- fin]; exact s5.aq [2,1,0,3,4]
  · refine cW (x:=false) FQ iD rfl s1 (n:=C.dp.length) (by omega) (by omega) λ g1 w1 c1 s2=>⟨St.ag (l:=[_,_,_,_]) s2 1 rfl 17,?_⟩;refine cW (x:=z6) N9 cS rfl s2 (n:=C.dp.length) (by omega) (by omega) λ g2 w2 c2 s3=>?_;refine St.aH (l:=[_,_,_,_,_]) s3 2 rfl (j:=15) (show 15<19 by decide) rfl λ w3 s4=>s4.aH 2 rfl (j:=16) (show 16<19 by decide) rfl λ w4 s5=>⟨some ⟨g2,0,none⟩,C.dp.length,some ⟨g1,0,none⟩,C.dp.length,rfl,?_⟩;rw[<- fin]; exact s5.aq [2,0,1,3,4]
end
theorem Pz{p:I6}{q:Int->Bool}(h:∀ k,k<6->q (p.at' k)=true):p.l.all q=true:=by
  have h0:=h 0 (by decide); have h1:=h 1 (by decide); have h2:=h 2 (by decide); have h3:=h 3 (by decide); have h4:=h 4 (by decide); have h5:=h 5 (by decide);show([p.at' 0,p.at' 1,p.at' 2,p.at' 3,p.at' 4,p.at' 5]:List Int).all q=true;simp[h0,h1,h2,h3,h4,h5]
def kL(S:Se)(o:Po):Ck:={ s:=S,o:=o,cl:=[],p:=ja S.ps,ask:=List.replicate S.bd.length z6,bd:=List.replicate S.bd.length false,dp:=List.replicate S.bd.length false,ov:=false,ka:=none,kc:=0,xa:=none,xc:=0,ya:=none,yc:=0,za:=none,zc:=0 }
theorem Nt{S:Se}{o:Po}(hs:S.Ok)(ho:o.ok):(kL S o).Ok:=by
  refine⟨hs,ho,by simp[kL],by simp[kL],by simp[kL],by simp[kL],by simp[kL],?_,by simp[kL],by simp[kL],by simp[kL],?_⟩
  · refine Pz λ k hk=>?_;show qc ((ja S.ps).at' k)=true;rw[uK _ k hk,List.getD_eq_getElem?_getD,List.getElem?_map]
    cases hx:S.ps[k]? with
    | none=>rfl
    | some x =>
      have h1:=(hs.ps.good k x hx).1;simp only[zE,Jn,Bool.and_eq_true,decide_eq_true_eq] at h1;show qc x.res=true;simp only[qc,Bool.and_eq_true,decide_eq_true_eq];exact h1.2.2.1
  · intro u hu;rw[List.eq_of_mem_replicate hu];intro k hk; match k,hk with
    | 0,_ | 1,_ | 2,_ | 3,_ | 4,_ | 5,_=>exact⟨by decide,by decide⟩
theorem R3{w:World}{S:Se}{o:Po}(h:S.In w)(hs:S.Ok)(ho:o.ok) :
    CP 122 #[.agg S.arr,o.v] w (λ r w'=>∃ g C',C'.er=(kL S o).er/\r=.tuple #[.pointer (some ⟨g,0,none⟩),iv 0]/\St w w' (Sep (dW g C'))):=by
  refine Bu ?_;unfold z8;have z:=hs.bd.l2;refine(St.start w).one.ax S.arr λ r1 w1 s1=>s1.ax o.cells.toArray λ r2 w2 s2=>⟨_,_,_,_,_,_,_,_,_,_,_,_,s2.cellsIn 1 rfl,aj (Eh (h.av s2.av)) ?_⟩;rintro v w3 ⟨⟨e,rfl,he⟩,c3⟩;obtain rfl:=he.2 hs;have s3:=s2.quiet c3;refine⟨_,rfl,cF rfl ⟨_,_,_,_,s3.cellsIn 0 rfl,aj (uq w3 o) ?_⟩⟩;rintro v w4 ⟨rfl,c4⟩;have s4:=(s3.quiet c4).quiet (az.drew w4 []);refine⟨_,rfl,cF (by rw[oo,if_pos ho]; rfl) ?_⟩;have hl:∀ {w'},az w w' []->S.In w':=λ hc=>h.av hc;let C0 (S' : Se) (g2:Nat):Ck:={ kL S o with s:=S',ask:=[],bd:=[],za:=some ⟨g2,0,none⟩,zc:=S.bd.length };have eC:∀ (S' : Se) (g2:Nat),(C0 S' g2).cells.toArray=((.slice S'.a1 S'.ps.length S'.c1) :: ((.slice S'.a2 S'.bd.length S'.c2) :: ((.slice S'.a3 S'.cp.length S'.c3) :: ((.slice S'.a4 S'.sa.length S'.c4) :: ((iv o.step) :: ((iv o.pct) :: ((iv o.und) :: ((iv o.rule) :: ((.slice none 0 0) :: ((ja S.ps).on [.slice none 0 0,.slice none 0 0,.slice (some ⟨g2,0,none⟩) S.bd.length S.bd.length,.bool false]))))))))):List Value).toArray:=by
    intro S' g2; simp only[C0,kL,Ck.cells,List.length_replicate,List.length_nil]
  have fin:∀ {S' : Se} {g g2:Nat} {w' : World},S'.er=S.er->St w w' (Sep [ai g (C0 S' g2).cells.toArray 179,IW (some ⟨g2,0,none⟩) S.bd.length (List.replicate S.bd.length false),held S'.In]) ->
      Calls prog 142 #[.pointer (some ⟨g,0,none⟩)] w' (qw λ r w''=>r=.tuple #[]/\∃ C',C'.er=(kL S o).er/\St w w'' (Sep (dW g C'))):=by
    intro S' g g2 w' eS s;refine aj (Bt (C:=C0 S' g2) s (by simp[C0,kL]; omega)) ?_;rintro r w1 ⟨xa,xc,ya,yc,rfl,s1⟩;refine⟨_,rfl,rfl,{ fo (C0 S' g2) with xa:=xa,xc:=xc,ya:=ya,yc:=yc },?_,?_⟩
    · simp only[C0,fo,kL,Ck.er,eS,List.length_replicate]
    · have s2:St w w1 (Sep [_,_,_,_,_,_]):=s1.eZ (e:=157) (sz:=9) (f:=Rn.cells);have s3:=((s2.aq [5,1,2,3,4,0]).Dn ((bn _).mono λ w h=>(⟨h,λ x hx=>by simp[C0,fo,kL] at hx⟩:({ fo (C0 S' g2) with xa:=xa,xc:=xc,ya:=ya,yc:=yc }:Ck).In w)));exact s3.aq [1,2,3,4,5,0]
  refine⟨λ p w5=>∃ (S' : Se) (g g2:Nat),p=some ⟨g,0,none⟩/\S'.er=S.er/\St w w5 (Sep [ai g (C0 S' g2).cells.toArray 179,IW (some ⟨g2,0,none⟩) S.bd.length (List.replicate S.bd.length false),held S'.In]),?_,?_⟩
  · rintro w5 p ⟨S',g,g2,rfl,eS,s5⟩ -;refine aj (fin eS s5) ?_;rintro r w6 ⟨rfl,C',e,s6⟩;exact⟨rfl,g,C',e,rfl,s6⟩
  refine⟨_,_,_,_,_,_,_,_,_,_,_,_,s4.cellsIn 1 rfl,_,_,_,_,s4.cellsIn 0 rfl,_,_,_,s4.ag 1 rfl 0,_,_,_,s4.ag 1 rfl 1,⟨?_,?_⟩⟩
  · refine aj (xH (hl s4.av) hs.sz) ?_;rintro v w7 ⟨S',eS,rfl,k7⟩;have s7:St w w7 (Sep [_,_,_,_]):=s4.and k7;refine⟨_,_,_,_,_,_,_,_,_,_,_,_,rfl,s7.ag 2 rfl 1,s7.ag 2 rfl 0,s7.cellsIn 1 rfl,⟨?_,?_⟩⟩
    · refine aj (Cp (hl s7.av).ps hs.ps.l2 h.h1) ?_;rintro v w8 ⟨rfl,c8⟩;have s8:=s7.quiet c8;refine⟨_,rfl,s8.ag 2 rfl 1,s8.cellsIn 1 rfl,cW (x:=false) FQ iD rfl s8 (n:=S.bd.length) (by omega) (by omega) λ g2 w9 c9 s9=>?_⟩;refine⟨St.cellsIn (l:=[_,_,_,_,_]) s9 2 rfl,St.ax (l:=[_,_,_,_,_]) s9 _ λ r3 w10 s10=>⟨S',r3,g2,rfl,eS,by rw[eC]; exact s10.aq [0,1,2]⟩⟩
    · refine cW (x:=false) FQ iD rfl s7 (n:=S.bd.length) (by omega) (by omega) λ g2 w9 c9 s9=>?_;have s9:St w w9 (Sep [_,_,_,_,_]):=s9;refine⟨s9.ag 3 rfl 0,s9.cellsIn 2 rfl,aj (Cp (hl s9.av).ps hs.ps.l2 h.h1) ?_⟩;rintro v w8 ⟨rfl,c8⟩;have s8:=s9.quiet c8;exact⟨_,rfl,s8.cellsIn 2 rfl,s8.ax _ λ r3 w10 s10=>⟨S',r3,g2,rfl,eS,by rw[eC]; exact s10.aq [0,1,2]⟩⟩
  · refine cW (x:=false) FQ iD rfl s4 (n:=S.bd.length) (by omega) (by omega) λ g2 w9 c9 s9=>?_;have s9:St w w9 (Sep [_,_,_,_]):=s9;refine⟨s9.ag 2 rfl 0,s9.cellsIn 1 rfl,s9.cellsIn 2 rfl,aj (xH (hl s9.av) hs.sz) ?_⟩;rintro v w7 ⟨S',eS,rfl,k7⟩;have s7:St w w7 (Sep [_,_,_,_,_]):=s9.and k7;refine⟨_,_,_,_,_,_,_,_,_,_,_,_,rfl,s7.ag 3 rfl 0,s7.cellsIn 2 rfl,aj (Cp (hl s7.av).ps hs.ps.l2 h.h1) ?_⟩;rintro v w8 ⟨rfl,c8⟩;have s8:=s7.quiet c8;exact⟨_,rfl,s8.cellsIn 2 rfl,s8.ax _ λ r3 w10 s10=>⟨S',r3,g2,rfl,eS,by rw[eC]; exact s10.aq [0,2,1]⟩⟩
section
variable {b:Nat} {C:Ck} {w0 w:World} {B:aD}
theorem C6(s:St w0 w (Sep (dW b C++[B])))(hk:C.Ok) :
    CP 142 #[.pointer (some ⟨b,0,none⟩)] w (λ r w'=>∃ xa xc ya yc,r=.tuple #[]/\St w0 w' (Sep (dW b { fo C with xa:=xa,xc:=xc,ya:=ya,yc:=yc }++[B]))):=by
  have z:=hk.s.bd.l2; have z1:=hk.dp;refine aj (Bt (C:=C) (s.aq [0,3,4,5,6]).AS (by omega)) ?_;rintro r w1 ⟨xa,xc,ya,yc,rfl,s1⟩;exact⟨_,rfl,xa,xc,ya,yc,rfl,s1.bN [_,_,_,_]⟩
def tr(C:Ck):Ck:={ fo C with ov:=true }
theorem Rf(s:St w0 w (Sep (dW b C++[B])))(hk:C.Ok) :
    CP 125 #[.pointer (some ⟨b,0,none⟩)] w (λ r w'=>(C.ov=true/\r=iv 10/\St w0 w' (Sep (dW b C++[B])))\/(C.ov=false/\r=iv 0/\∃ C',C'.er=(tr C).er/\St w0 w' (Sep (dW b C'++[B])))):=by
  refine pO ?_;unfold kn;refine⟨_,s.ag 0 rfl 18,?_⟩
  cases ho:C.ov with
  | true=>exact cT rfl (.inl ⟨rfl,rfl,s⟩)
  | false =>
    refine cF rfl (aj (C6 s hk) ?_);rintro r w1 ⟨xa,xc,ya,yc,rfl,s1⟩;exact⟨rfl,s1.aH 0 rfl (j:=18) (show 18<19 by decide) rfl λ w2 s2=>.inr ⟨rfl,rfl,{ tr C with xa:=xa,xc:=xc,ya:=ya,yc:=yc },rfl,s2⟩⟩
def jA(C:Ck)(n:Nat):Ck:={ C with dp:=C.dp.set n true,ask:=C.ask.set n z6,bd:=C.bd.set n false }
theorem PX(s:St w0 w (Sep (dW b C++[B])))(hk:C.Ok){n:Nat}(hn:n<C.s.bd.length) :
    CP 128 #[.pointer (some ⟨b,0,none⟩),iv n] w (λ r w'=>(C.dp[n]? = some true/\r=iv 10/\St w0 w' (Sep (dW b C++[B])))\/(C.dp[n]? = some false/\r=iv 0/\St w0 w' (Sep (dW b (jA C n)++[B])))):=by
  refine pM ?_;unfold kj;have z:=hk.s.bd.l2; have z1:=hk.dp; have z2:=hk.ask; have z3:=hk.bd;have rd:=(s.split (dW b C)).first.imp uV;refine⟨λ b w1=>b=false/\w1=w,?_,aj (E9 rd n) ?_⟩
  · rintro w1 _ ⟨rfl,rfl⟩ -;have hx:C.dp[n]? = some (C.dp[n]'(by omega)):=gE (by omega);generalize C.dp[n]'(by omega)=x at hx;obtain⟨q,hq,hcl⟩:=rd.dp.at hx;refine cF rfl ⟨_,_,_,rd.cell 17 rfl,au hq ⟨by omega,by omega,x,hcl.1,?_⟩⟩
    cases x with
    | true=>exact cT rfl (.inl ⟨hx,rfl,s⟩)
    | false =>
      have s1:=s.quiet (az.drew w1 []);obtain⟨g1,e1⟩:=(s1.out 3 rfl).uC (by omega);obtain⟨g2,e2⟩:=(s1.out 1 rfl).uC (by omega);obtain⟨g3,e3⟩:=(s1.out 2 rfl).uC (by omega);refine cF rfl ⟨_,_,_,s1.ag 0 rfl 17,_,_,_,s1.ag 0 rfl 15,_,_,_,s1.ag 0 rfl 16,au e1 ⟨by omega,by omega,?_⟩⟩;rw[Int.toNat_natCast];have t1:=s1.out 3 rfl;rw[e1] at t1;refine St.iZ (v:=.bool) (x:=true) rfl t1 (i:=n) (by omega) λ w2 s2=>au e2 ⟨by omega,by omega,?_⟩;have s2:=s2.back (l:=dW b C++[B]) (i:=3) (show 3<7 by decide);have t2:=s2.out 1 rfl;rw[e2] at t2;refine St.Em cS (x:=z6) z6.one t2 (i:=n) (by omega) λ w3 s3=>au e3 ⟨by omega,by omega,?_⟩;have t3:=(s3.back (show 1<7 by decide)).out 2 rfl;rw[e3] at t3;refine St.iZ (v:=.bool) (x:=false) rfl t3 (i:=n) (by omega) λ w4 s4=>.inr ⟨hx,rfl,?_⟩;have s5:=s4.back (show 2<7 by decide);rw[<- e1,<- e2,<- e3] at s5;have eC:(jA C n).cells=C.cells:=by simp[jA,Ck.cells]
      show St w0 w4 (Sep [ai b (jA C n).cells.toArray 179,_,_,_,_,_,B]);rw[eC]; exact s5
  · rintro r w1 ⟨rfl,rfl⟩;exact⟨_,rfl,by simp; omega,rfl⟩
def dQ(C:Ck)(r:Nat):Ck:=match C.cl[r]? with
  | some x=>{ fo C with p:=x.p,cl:=C.cl.take r,ov:=false }
  | none=>{ fo C with ov:=false }
def bV(C:Ck)(r:Int):Bool:=decide (r<0)||decide (r>(C.cl.length:Int))||(r==(C.cl.length:Int)&&C.ov)
theorem NT(s:St w0 w (Sep (dW b C++[B])))(hk:C.Ok)(r:Int) :
    CP 129 #[.pointer (some ⟨b,0,none⟩),iv r] w (λ v w'=>(bV C r=true/\v=iv 4/\St w0 w' (Sep (dW b C++[B])))\/(bV C r=false/\v=iv 0/\∃ C',C'.er=(dQ C r.toNat).er/\St w0 w' (Sep (dW b C'++[B])))):=by
  refine nI ?_;unfold jv;have hl:=hk.cl;refine⟨λ x w1=>x=bV C r/\w1=w,?_,?_⟩
  · rintro w1 _ ⟨rfl,rfl⟩ -
    cases he:bV C r with
    | true=>exact cT rfl (.inl ⟨rfl,rfl,s⟩)
    | false =>
      have h0:0<=r/\r<=(C.cl.length:Int):=by
        simp only[bV,Bool.or_eq_false_iff,decide_eq_false_iff_not] at he; omega
      obtain⟨n,rfl⟩:=Int.eq_ofNat_of_zero_le h0.1;refine cF rfl (aj (C6 s hk) ?_);rintro v w2 ⟨xa,xc,ya,yc,rfl,s2⟩;refine⟨rfl,λ w3=>∃ C' : Ck,({ C' with ov:=false }:Ck).er=(dQ C n).er/\St w0 w3 (Sep (dW b C'++[B])),?_,?_⟩
      · rintro w3 ⟨C',e,s3⟩ -;exact s3.aH 0 rfl (j:=18) (show 18<19 by decide) rfl λ w4 s4=>.inr ⟨rfl,rfl,{ C' with ov:=false },e,s4⟩
      refine⟨_,_,_,s2.ag 0 rfl 8,?_⟩
      by_cases hlt:(n:Int)<(C.cl.length:Int)
      · have hx:C.cl[n]? = some (C.cl[n]'(by omega)):=gE (by omega);generalize C.cl[n]'(by omega)=x at hx;have rd:=(s2.split (dW b _)).first.imp uV;obtain⟨q,hq,hcl⟩:=rd.cl.at hx;refine cT (dT hlt) ⟨_,_,_,s2.ag 0 rfl 8,au hq ⟨by omega,hlt,x.p,?_,?_⟩⟩
        · rw[Int.toNat_natCast];exact CZ hcl rfl
        · refine s2.oF 0 9 rfl ({ fo C with xa:=xa,xc:=xc,ya:=ya,yc:=yc,p:=x.p }:Ck).cells.toArray (show 15<=19 by decide) x.p.one rfl λ w5 s5=>⟨_,_,_,s5.ag 0 rfl 8,by omega,?_,?_⟩
          · have:C.cl.length<=C.kc:=(St.mK (s5.out 4 rfl)).1;show(n:Int)<=(C.kc:Int);omega
          · show Calls prog 156 #[.slice (if C.kc=0 then C.ka else Option.map (λ x=>Addr.add x (0*9)) C.ka) (((n:Nat):Int).toNat-0) (C.kc-0)] w5 _;have rd5:cH 9 Rn.cells w5 C.ka C.cl:=St.rd Rn.len (s5.out 4 rfl);have el:(C.cl.take n).length=n:=by rw[List.length_take]; omega
            rw[RO,Int.toNat_natCast,Nat.sub_zero,Nat.sub_zero];have cc:=HW (c:=C.kc) (Jf.take rd5 n) (by omega);rw[el] at cc;refine aj cc ?_;rintro v w6 ⟨g,rfl,k6⟩;have s6:St w0 w6 (Sep (_ :: _)):=s5.and k6;refine⟨_,_,_,rfl,s6.aH 1 rfl (j:=8) (show 8<19 by decide) rfl λ w7 s7=>⟨{ fo C with xa:=xa,xc:=xc,ya:=ya,yc:=yc,p:=x.p,cl:=C.cl.take n,ka:=some ⟨g,0,none⟩,kc:=n },by rw[dQ,hx]; rfl,?_⟩⟩;have s8:=(s7.aq [6,1,2,3,4,0,7]).Dn ((bn _).mono λ w h=>(⟨h.s,λ y hy=>h.cl y (List.mem_of_mem_take hy)⟩:Pw C.s (C.cl.take n) w));have eC:({ fo C with xa:=xa,xc:=xc,ya:=ya,yc:=yc,p:=x.p,cl:=C.cl.take n,ka:=some ⟨g,0,none⟩,kc:=n }:Ck).cells.toArray=({ fo C with xa:=xa,xc:=xc,ya:=ya,yc:=yc,p:=x.p }:Ck).cells.toArray.setIfInBounds 8 (.slice (some ⟨g,0,none⟩) n n):=by
              simp only[Ck.cells,fo,el]; rfl
            show St w0 w7 (Sep [ai b (Ck.cells _).toArray 179,_,_,_,_,_,_]);rw[eC];exact s8.aq [1,2,3,4,5,0,6]
      · have hn:C.cl[n]? = none:=List.getElem?_eq_none (by omega);exact cF (dF hlt) ⟨_,by rw[dQ,hn]; rfl,s2⟩
  · by_cases g1:r<0
    · exact cT (dT g1) ⟨by rw[bV,dT g1]; rfl,rfl⟩
    refine cF (dF g1) ⟨_,_,_,s.ag 0 rfl 8,?_⟩
    by_cases g2:r>(C.cl.length:Int)
    · exact cT (dT g2) ⟨by rw[bV,dT g2]; simp,rfl⟩
    refine cF (dF g2) ⟨_,_,_,s.ag 0 rfl 8,?_⟩
    by_cases g3:r=(C.cl.length:Int)
    · exact cT (by simpa using g3) ⟨_,s.ag 0 rfl 18,by rw[bV,dF g1,dF g2,g3]; simp,rfl⟩
    · exact cF (by simpa using g3) ⟨by rw[bV,dF g1,dF g2]; simp; exact λ h=>absurd h g3,rfl⟩
end
section
variable {b:Nat} {C:Ck} {w0 w:World} {B:aD}
def gz(dp:List Bool):Nat->List I6->List I6
  | _,[]=>[]
  | k,u :: l=>(if dp.getD k false then z6 else u) :: gz dp (k+1) l
theorem ur(dp:List Bool):∀ (l:List I6) (k:Nat),(gz dp k l).length=l.length
  | [],_=>rfl
  | _ :: l,k=>by simp[gz,ur dp l (k+1)]
theorem AA(dp:List Bool):∀ (l:List I6) (k i:Nat),(gz dp k l)[i]? = l[i]?.map λ u=>if dp.getD (k+i) false then z6 else u
  | [],_,_=>by simp[gz]
  | u :: l,k,0=>by simp[gz]
  | u :: l,k,i+1=>by
    rw[gz,List.getElem?_cons_succ,List.getElem?_cons_succ,AA dp l (k+1) i,show k+(i+1)=k+1+i by omega]
def gV(C:Ck):List I6:=gz C.dp 0 ((C.cl.getLast?.map Rn.got).getD [])
theorem FB(h:C.Rd b w)(hk:C.Ok)(hn:0<C.cl.length) :
    CP 150 #[.pointer (some ⟨b,0,none⟩)] w (λ r w'=>∃ g,r=.slice (some ⟨g,0,none⟩) (gV C).length (gV C).length/\St w w' (AK (some ⟨g,0,none⟩) (gV C).length (gV C))):=by
  refine kq ?_;unfold fZ;have hl:=hk.cl; have z:=hk.s.bd.l2; have z1:=hk.dp;have hx:C.cl[C.cl.length-1]? = some (C.cl[C.cl.length-1]'(by omega)):=gE (by omega);generalize C.cl[C.cl.length-1]'(by omega)=x at hx;have hlast:C.cl.getLast? = some x:=by rw[List.getLast?_eq_getElem?]; exact hx
  have hm:=List.mem_of_getElem? hx;have zx:=(hk.cz x hm).got;have d0:az w w.drew []:=az.drew w [];have h1:=h.av d0;obtain⟨q,hq,hcl⟩:=h1.cl.at hx;have e1:IntKind.i64.wrap ((C.cl.length:Int)-1)=((C.cl.length-1:Nat):Int):=by rw[aC ⟨by omega,by omega⟩]; omega
  have ep:gV C=gz C.dp 0 x.got:=by rw[gV,hlast]; rfl
  refine⟨_,_,_,h1.cell 8 rfl,_,_,_,h1.cell 8 rfl,au hq ⟨?_,?_,x.ga,x.got.length,x.gc,?_,?_⟩⟩
  · rw[e1]; omega
  · rw[e1]; omega
  · rw[e1,Int.toNat_natCast];exact bC hcl 7 _ rfl
  refine aj (kB ((h.i.cl x hm).av d0).got (by omega)) ?_;rintro v w1 ⟨g,rfl,k1⟩;have s1:St w w1 (Sep [_]):=(St.start' d0).and k1;have hL:(gz C.dp 0 x.got).length=x.got.length:=ur _ _ _;let L:Nat->List I6:=qQ (gz C.dp 0 x.got) x.got;have Llen:∀ k,k<=x.got.length->(L k).length=x.got.length:=λ k hk=>DL hL (by omega);refine⟨_,_,_,rfl,_,_,_,(h.av s1.av).cell 17 rfl,λ n w2 m=>∃ k:Nat,n=k/\k<=C.dp.length/\m=C.dp.length-k/\St w w2 (Sep [AK (some ⟨g,0,none⟩) x.got.length (L k)]),⟨C.dp.length,0,rfl,by omega,by omega,?_⟩,?_⟩
  · rw[show L 0=x.got from Ix]; exact s1.aq [0]
  rintro w2 m n ⟨k,rfl,hk1,hm1,s2⟩ -
  by_cases hlt:(k:Int)<(C.dp.length:Int)
  · have hd:C.dp[k]? = some (C.dp[k]'(by omega)):=gE (by omega);generalize C.dp[k]'(by omega)=y at hd;have hgy:C.dp.getD k false=y:=by rw[List.getD_eq_getElem?_getD,hd]; rfl
    obtain⟨q2,hq2,hcl2⟩:=(h.dp.av s2.av).at hd;have hu:x.got[k]? = some (x.got[k]'(by omega)):=gE (by omega);generalize x.got[k]'(by omega)=u at hu;have hp:(gz C.dp 0 x.got)[k]? = some (if y then z6 else u):=by rw[AA,hu,Nat.zero_add,hgy]; rfl
    have estep:∀ v,(gz C.dp 0 x.got)[k]? = some v->(L k).set k v=L (k+1):=λ v hv=>KO hL hv;have esame:y=false->L k=L (k+1):=λ hy=>Iw hL (by omega) (by rw[hp,hu,hy]; rfl);refine cT (dT hlt) ⟨λ w3=>St w w3 (Sep [AK (some ⟨g,0,none⟩) x.got.length (L (k+1))]),λ w3 s3 _=>⟨C.dp.length-(k+1),by omega,k+1,aC ⟨by omega,by omega⟩,by omega,rfl,s3⟩,au hq2 ⟨by omega,by omega,y,hcl2.1,?_⟩⟩
    cases y with
    | true =>
      refine cT rfl (au rfl ⟨by omega,by omega,?_⟩);rw[Int.toNat_natCast];refine St.Em cS (x:=z6) z6.one s2 (i:=k) (by rw[Llen k (by omega)]; omega) λ w3 s3=>?_;rw[estep z6 hp] at s3; exact s3
    | false=>exact cF rfl (by rw[<- esame rfl]; exact s2)
  · obtain rfl:C.dp.length=k:=by omega
    have e2:L C.dp.length=gV C:=by
      show qQ _ _ _=_;rw[show C.dp.length=x.got.length by omega,Iv hL,ep]
    have e3:(gV C).length=x.got.length:=by rw[ep,hL]
    rw[e2] at s2;rw[e3];exact cF (dF hlt) ⟨g,rfl,s2.single⟩
end
section
variable {b:Nat} {C:Ck} {w0 w:World} {B:aD}
theorem sup_le{l:List Pr}(h:cY l):I6.Le (bX l) 4:=Jl (by rw[FY]; exact Hs h.good)
theorem rq{u:I6}{m n:Int}(h:I6.Le u m)(hn:m<=n):I6.Le u n:=λ k hk=>by have:=h k hk; omega
theorem Mi{n:Int}(h:0<=n):I6.Le z6 n:=λ k hk=>by
  match k,hk with
  | 0,_ | 1,_ | 2,_ | 3,_ | 4,_ | 5,_=>exact⟨Int.le_refl _,h⟩
theorem D2{dp:List Bool}{n:Int}(hn:0<=n):∀ (l:List I6) (k:Nat),(∀ u∈l,I6.Le u n)->∀ u∈gz dp k l,I6.Le u n
  | [],_,_,u,hu=>by simp[gz] at hu
  | x :: l,k,h,u,hu=>by
    rcases List.mem_cons.1 hu with rfl | hu
    · split
      · exact Mi hn
      · exact h x (by simp)
    · exact D2 hn l (k+1) (λ u hu=>h u (by simp[hu])) u hu
theorem G9(hk:C.Ok)(hn:0<C.cl.length):(gV C).length=C.s.bd.length/\∀ u∈gV C,I6.Le u 4:=by
  have hx:C.cl[C.cl.length-1]? = some (C.cl[C.cl.length-1]'(by omega)):=gE (by omega);generalize C.cl[C.cl.length-1]'(by omega)=x at hx;have hlast:C.cl.getLast? = some x:=by rw[List.getLast?_eq_getElem?]; exact hx
  have hm:=List.mem_of_getElem? hx;have ep:gV C=gz C.dp 0 x.got:=by rw[gV,hlast]; rfl
  rw[ep];exact⟨by rw[ur,(hk.cz x hm).got],D2 (by omega) _ _ (hk.cg x hm)⟩
def nX(C:Ck):List I6:=if C.cl.length=0 then C.ask else Tq C.o.und (bX C.s.ps) (gV C) C.ask
theorem Km(hk:C.Ok):(nX C).length=C.s.bd.length/\∀ u∈nX C,I6.Le u 4:=by
  unfold nX
  split
  · exact⟨hk.ask,hk.asked⟩
  · rename_i h;obtain⟨h1,h2⟩:=G9 hk (by omega);have:=Cz (p:=C.o.und) (sup:=bX C.s.ps) (by omega) h2 hk.asked C.ask.length;exact⟨this.1.trans h1,this.2⟩
def Lp(C:Ck):Rn:=⟨C.p,C.ask,nX C,C.bd,none,0,none,0,none,0⟩
def vP(C:Ck):I6:=sN (gK (nX C)) (bX C.s.ps)
def nq(C:Ck):I6×Int:=vl C.o C.p (vP C)
def dB(C:Ck):Bool:=decide (vP C=z6)||(decide (C.cl.length+1>=30)||(nq C).2 !=0)
def eL(C:Ck):Ck:={ fo C with cl:=C.cl++[Lp C],ov:=dB C,p:=if dB C then C.p else (nq C).1 }
theorem MK(s:St w0 w (Sep (dW b C++[B])))(hk:C.Ok) :
    CP 124 #[.pointer (some ⟨b,0,none⟩)] w (λ r w'=>(C.ov=true/\r=.tuple #[.bool false,iv 10]/\St w0 w' (Sep (dW b C++[B])))\/(C.ov=false/\r=.tuple #[.bool (dB C),iv 0]/\∃ C',C'.er=(eL C).er/\St w0 w' (Sep (dW b C'++[B])))):=by
  refine nG ?_;unfold ju;have hl:=hk.cl; have z:=hk.s.bd.l2; have z1:=hk.ask; have z2:=hk.bd; have z3:=hk.dp;have hg:=Km hk;have hsup:=sup_le hk.s.ps;refine⟨_,s.ag 0 rfl 18,?_⟩
  cases hov:C.ov with
  | true=>exact cT rfl (.inl ⟨rfl,rfl,s⟩)
  | false =>
  have inC:∀ {w' : World} {L:List aD} {i:Nat},St w0 w' (Sep L)->L[i]? = some (held C.In)->C.In w':=λ s e=>s.iP _ e;refine cF rfl ⟨_,_,_,s.ag 0 rfl 0,aj (oO (inC s (i:=5) rfl).s.ps (by have:=hk.s.ps.l2; omega)) ?_⟩;rintro v w1 ⟨rfl,c1⟩;refine⟨_,rfl,(s.quiet c1).ax z6.vs.toArray λ r1 w2 s2=>s2.aA 0 rfl (bX C.s.ps).vs rfl (I6.one _) λ w3 s3=>?_⟩;refine⟨_,_,_,s3.ag 1 rfl 15,aj (kB (St.rd cS (s3.out 2 rfl)) (by omega)) ?_⟩;rintro v w4 ⟨g,rfl,k4⟩;have s4:St w0 w4 (Sep (AK _ _ _ :: ai r1 (bX C.s.ps).vs.toArray 41 :: (dW b C++[B]))):=s3.and k4;refine⟨_,_,_,rfl,λ a4 l4 c4 w5=>l4=(nX C).length/\St w0 w5 (Sep (AK a4 c4 (nX C) :: ai r1 (bX C.s.ps).vs.toArray 41 :: (dW b C++[B]))),?_,?_⟩
  · rintro w5 a4 l4 c4 ⟨rfl,s5⟩ -;have s6:=s5.quiet (az.drew w5 []);let x:Rn:={ Lp C with xa:=C.xa,xc:=C.xc,ga:=a4,gc:=c4,ba:=C.ya,bc:=C.yc };refine⟨_,_,_,s6.ag 2 rfl 8,C.p,s6.aP 2 9 rfl rfl,_,_,_,s6.ag 2 rfl 15,_,_,_,s6.ag 2 rfl 16,s6.ax x.cells.toArray λ r2 w6 s7=>⟨s7.ag 3 rfl 8,?_⟩⟩;have hx1:cH 9 Rn.cells w6 (some ⟨r2,0,none⟩) [x]:=λ i y hy=>by
      obtain⟨rfl,rfl⟩:i=0/\y=x:=by
        cases i with
        | zero=>simp at hy; exact⟨rfl,hy.symm⟩
        | succ i=>simp at hy
      exact⟨_,_,rfl,by rw[Nat.zero_mul,fQ]; exact s7.cellsIn 0 rfl,rfl,rfl⟩
    refine eK Q9 Rn.len Rn.one (s7.out 7 rfl) (a2:=some ⟨r2,0,none⟩) (c2:=1) (l2:=[x]) hx1 (by simp; omega) (by simp; omega) λ a8 c8 w7 s8=>?_;have s9:=s8.back (show 7<10 by decide);refine s9.aH 3 rfl (j:=8) (show 8<19 by decide) rfl λ w8 s10=>?_;let D:Ck:={ C with cl:=C.cl++[x],ka:=a8,kc:=c8 };refine aj (Bt (C:=D) (St.AS (A:=ai b D.cells.toArray 179) (B:=IW D.za D.zc D.dp) (m:=[AK C.xa C.xc C.ask,AK a4 c4 (nX C),IW C.ya C.yc C.bd,held C.In,NX a8 c8 (C.cl++[x]),ai r1 (bX C.s.ps).vs.toArray 41,B]) (s10.aq [3,6,4,1,5,8,7,2,9])) (by show C.dp.length<=100; omega)) ?_;rintro r w9 ⟨xa,xc,ya,yc,rfl,s11⟩;have s12:=s11.bN [_,_,_,_];let D' : Ck:={ fo D with xa:=xa,xc:=xc,ya:=ya,yc:=yc };have s13:=(((s12.aq [4,5,6,7,0,1,2,3,8,9,10]).qj (bK cS) (bK cS) λ _ h1 h2=>And.intro h1 h2).qj (bn _) (bK iD) λ _ h1 h2=>(⟨h1.1,h1.2,h2⟩:x.In _)).qj (bn _) (bn _) λ w h1 h2=>(⟨h2.s,λ y hy=>(List.mem_append.1 hy).elim (h2.cl y) λ e=>by rw[List.mem_singleton.1 e]; exact h1⟩:Pw C.s (C.cl++[x]) w);have s14:St w0 w9 (Sep (dW b D'++[ai r1 (bX C.s.ps).vs.toArray 41,B])):=s13.aq [1,2,3,4,5,0,6,7];refine⟨rfl,_,s14.cellsIn 6 rfl,?_⟩;have hin:Pw C.s (C.cl++[x]) w9:=s14.iP 5 rfl;have hgr:Jp w9 a4 (nX C):=(hin.cl x (by simp)).got;refine aj (J9 (bX C.s.ps) (rq hsup (by omega)) hgr (λ u hu=>rq (hg.2 u hu) (by omega)) (by omega)) ?_;rintro v w10 ⟨rfl,c10⟩;refine⟨_,rfl,(s14.quiet c10).ax z6.vs.toArray λ r3 w11 s15=>s15.aA 0 rfl (vP C).vs rfl (I6.one _) λ w12 s16=>?_⟩;let J:World->Nat->Prop:=λ w13 r4=>St w0 w13 (Sep (ai r4 (nq C).1.vs.toArray 103 :: ai r3 (vP C).vs.toArray 41 :: (dW b D'++[ai r1 (bX C.s.ps).vs.toArray 41,B])));have erD:∀ {ov:Bool} {p:I6},({ D' with ov:=ov,p:=p }:Ck).er=({ fo C with cl:=C.cl++[Lp C],ov:=ov,p:=p }:Ck).er:=by
      intro ov p;simp[D',D,fo,Ck.er,Rn.er,x,Lp]
    have lenD:(C.cl++[x]).length=C.cl.length+1:=by simp
    refine⟨λ r4 n w13=>n=(nq C).2/\J w13 r4,?_,?_⟩
    · rintro w13 r4 n ⟨rfl,s17⟩ -;refine⟨λ x w14=>x=dB C/\J w14 r4,?_,?_⟩
      · rintro w14 x ⟨rfl,s18⟩ -
        cases hla:dB C with
        | true =>
          refine cT rfl (St.aH s18 2 rfl (j:=18) (show 18<19 by decide) rfl λ w15 s19=>.inr ⟨rfl,rfl,{ D' with ov:=true },?_,St.aq s19 [2,3,4,5,6,7,9]⟩);rw[eL,hla,if_pos rfl];exact erD (ov:=true) (p:=C.p)
        | false =>
          refine cF rfl ⟨(nq C).1,s18.cellsIn 0 rfl,s18.oF 2 9 rfl ({ D' with p:=(nq C).1 }:Ck).cells.toArray (show 15<=19 by decide) (I6.one _) rfl λ w15 s19=>.inr ⟨rfl,rfl,{ D' with p:=(nq C).1 },?_,St.aq s19 [2,3,4,5,6,7,9]⟩⟩;rw[eL,hla,if_neg (by decide)];have:=erD (ov:=false) (p:=(nq C).1);rw[<- this];have e:∀ o,o=C.ov->({ D' with p:=(nq C).1 }:Ck)={ D' with ov:=o,p:=(nq C).1 }:=λ o h=>by subst h; rfl
          rw[e false hov.symm]
      · refine⟨vP C,s17.cellsIn 1 rfl,?_⟩;rw[I6.beq_eq]
        by_cases g1:vP C=z6
        · exact cT (dT g1) ⟨by rw[dB,dT g1,Bool.true_or],s17⟩
        refine cF (dF g1) ⟨_,_,_,s17.ag 2 rfl 8,?_⟩
        by_cases g2:C.cl.length+1>=30
        · exact cT (dT (by show(((C.cl++[x]).length:Nat):Int)>=30; omega)) ⟨by rw[dB,dT g2,Bool.true_or,Bool.or_true],s17⟩
        exact cF (dF (by show ¬ (((C.cl++[x]).length:Nat):Int)>=30; omega)) ⟨by rw[dB,dF g1,dF g2,Bool.false_or,Bool.false_or],s17⟩
    have s17:=s16.quiet (az.drew w12 []);refine⟨_,_,_,_,s17.aP 1 4 rfl rfl,C.p,s17.aP 1 9 rfl rfl,vP C,s17.cellsIn 0 rfl,⟨?_,?_⟩⟩
    · refine aj (KW _ hk.o hk.p (vP C)) ?_;rintro v w18 ⟨rfl,c18⟩;exact⟨_,_,rfl,(s17.quiet c18).ax z6.vs.toArray λ r5 w19 s18=>s18.aA 0 rfl (nq C).1.vs rfl (I6.one _) λ w20 s19=>⟨rfl,s19⟩⟩
    · refine s17.ax z6.vs.toArray λ r5 w19 s18=>⟨s18.cellsIn 1 rfl,s18.aP 2 9 rfl rfl,s18.aP 2 4 rfl rfl,aj (KW _ hk.o hk.p (vP C)) ?_⟩;rintro v w18 ⟨rfl,c18⟩;exact⟨_,_,rfl,(s18.quiet c18).aA 0 rfl (nq C).1.vs rfl (I6.one _) λ w20 s19=>⟨rfl,s19⟩⟩
  · refine⟨_,_,_,s4.ag 2 rfl 8,?_⟩
    by_cases hn:(C.cl.length:Int)>0
    · have s5:=s4.quiet (az.drew w4 []);have rd5:C.Rd b w4.drew:=(s5.aq [2,3,4,5,6,7]).imp uV;obtain⟨hp1,hp2⟩:=G9 hk (by omega);refine cT (dT hn) ⟨_,s5.ag 2 rfl 6,_,s5.cellsIn 1 rfl,_,_,_,s5.ag 2 rfl 15,aj (FB rd5 hk (by omega)) ?_⟩;rintro v w6 ⟨g2,rfl,k6⟩;have s6:St w0 w6 (Sep (_ :: _)):=s5.and k6;refine⟨_,_,_,rfl,s6.ag 3 rfl 15,s6.cellsIn 2 rfl,s6.ag 3 rfl 6,aj (L6 s6 (by have:=hk.o; unfold Po.ok at this; omega) hsup (St.rd cS (s6.out 0 rfl)) (St.rd cS (s6.out 4 rfl)) (by rw[hp1,z1]) (by omega) hp2 hk.asked) ?_⟩;rintro v w7 ⟨a,c,rfl,s7,-⟩;have eg:nX C=Tq C.o.und (bX C.s.ps) (gV C) C.ask:=by rw[nX,if_neg (by omega)]
      refine⟨_,_,_,_,rfl,cF rfl ⟨by rw[hg.1,hp1],?_⟩⟩;rw[eg];exact St.aq (l:=_ :: _ :: _ :: _ :: _) s7 [0,3,4,5,6,7,8,9,10]
    · have eg:nX C=C.ask:=by rw[nX,if_pos (by omega)]
      exact cF (dF hn) ⟨by rw[eg],by rw[eg]; exact s4⟩
end
end Go.Proofs.YtpihmghnbplohaaGreatDoor
