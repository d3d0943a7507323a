import Derived.Test.YtpihmghnbplohaaGreatDoorM23
import Derived.Test.YtpihmghnbplohaaGreatDoorM24
import Derived.Test.YtpihmghnbplohaaGreatDoorM25
set_option linter.unusedVariables false
set_option maxRecDepth 100000
namespace Go.Proofs.YtpihmghnbplohaaGreatDoor
open Go Go.Vc Tryz
theorem Nx(x:Xv)(m:I6):sJ x.er m=sJ x m:=by unfold sJ; rw[xI,O8]
theorem Ny(x:Xv)(m:I6):sK x.er m=sK x m:=by unfold sK; rw[O8]
theorem Az{l:List Pr}{t:List UInt8}(h:(bF l t).2=0):dM (bF l t).1=0:=by
  unfold bF at h ⊢
  split at h
  · rename_i g; exact absurd h g
  · rename_i g; rw[if_neg g]
    split at h
    · rename_i g2; exact absurd h g2
    · rename_i g2; rw[if_neg g2]
      split at h
      · rename_i g3; exact absurd h g3
      · rename_i g3; rw[if_neg g3]; simpa using g3
theorem JJ{x:Xv}(h:dM x=0):aV x<=40:=by
  unfold dM at h
  split at h
  · cases h
  · split at h
    · cases h
    · rename_i g; omega
def EG(S:Se)(n:Nat)(y:Br):List Of->Int
  | []=>0
  | o :: l=>if ji S n y o.want≠0 then ji S n y o.want else if y.bud≠0/\y.bud<o.v then 17 else EG S n y l
theorem yo{S:Se}{n:Nat}{y:Br}:∀ (l:List Of) (k:Nat),(∀ o∈l.take k,ji S n y o.want=0/\¬ (y.bud≠0/\y.bud<o.v))->EG S n y l=EG S n y (l.drop k)
  | l,0,_=>rfl
  | [],k+1,_=>rfl
  | o :: l,k+1,h=>by
    obtain⟨h1,h2⟩:=h o (by simp);rw[EG,if_neg (by simpa using h1),if_neg h2,yo l k λ o ho=>h o (by simp[ho])]; rfl
theorem Qu{S:Se}{n:Nat}{y:Br}{l:List Of}{k:Nat}{o:Of}(h:∀ o∈l.take k,ji S n y o.want=0/\¬ (y.bud≠0/\y.bud<o.v))(hx:l[k]? = some o) :
    EG S n y l=if ji S n y o.want≠0 then ji S n y o.want else if y.bud≠0/\y.bud<o.v then 17 else EG S n y (l.drop (k+1)):=by
  obtain⟨hl,rfl⟩:=List.getElem?_eq_some_iff.1 hx;rw[yo l k h,List.drop_eq_getElem_cons hl,EG]
def dZ(S:Se)(C:Ck)(n:Nat)(y:Br)(t:List UInt8):Int :=
  if (bF S.ps t).2≠0 then (bF S.ps t).2 else if sJ (bF S.ps t).1 (bX S.ps)≠0 then sJ (bF S.ps t).1 (bX S.ps)
  else if EG S n y (sK (bF S.ps t).1 (bX S.ps))≠0 then EG S n y (sK (bF S.ps t).1 (bX S.ps)) else IS (zn C n) (sK (bF S.ps t).1 (bX S.ps))
theorem Ri{l:List Pr}(h:cY l):pr (bX l).l<=1024:=by
  rw[FY,Cw h.l2]; exact h.lim
theorem I0{w:World}{b g n:Nat}{S:Sx}{C:Ck}{y:Br}(hb:af w ⟨b,0,none⟩ 0 S.cells)(hI:S.s.In w)(hk:S.k=some ⟨g,0,none⟩)(hK:C.Rd g w)(hC:C.Ok)(hs:S.s.Ok)(hn:n<C.s.bd.length)(hy:S.s.bd[n]? = some y)(t:List UInt8) :
    CP 126 #[.pointer (some ⟨b,0,none⟩),iv n,sv t] w (λ r w'=>∃ x:Xv,(dZ S.s C n y t=0->x.er=(bF S.s.ps t).1)/\r=.tuple #[.agg x.cells.toArray,iv (dZ S.s C n y t)]/\St w w' (held x.In)):=by
  refine nA ?_;unfold jf;have hn':=(List.getElem?_eq_some_iff.1 hy).1;have z2:=hs.bd.l2;have hm:=sup_le hs.ps;have hp:=Ri hs.ps;have cb:∀ {w'},az w w' []->∀ (j:Nat) (v:Value),S.cells[j]? = some v->w'.cell? ⟨b,j,none⟩=some v:=λ hc j v hv=>by
    have:=bC (br hc hb) j v hv
    rwa [Nat.zero_add,fQ] at this
  refine(St.start w).one.ax dG.cells.toArray λ r1 w1 s1=>⟨_,_,_,cb s1.av 5 _ rfl,aj (NH (hI.av s1.av).ps hI.h1 hs.ps t) ?_⟩;rintro v w2 ⟨x,ex,rfl,k2⟩;have s2:St w w2 (Sep [held x.In,ai r1 dG.cells.toArray 109,emp]):=s1.and k2;refine⟨_,x.u,_,_,_,_,_,rfl,s2.ax dG.cells.toArray λ r2 w3 s3=>s3.aA 0 rfl x.cells rfl x.one λ w4 s4=>?_⟩;have s4:St w w4 (Sep [ai r2 x.cells.toArray 109,held x.In,ai r1 dG.cells.toArray 109,emp]):=s4;have bad:∀ {k:Int} {w' : World} {m:List aD} {i:Nat},St w w' (Sep m)->m[i]? = some (ai r1 dG.cells.toArray 109)->k≠0->dZ S.s C n y t=k ->
      aQ ⟨r1,0,none⟩ 0 dG.cells w' λ w3=>∃ (n2:Int) (u1:I6) (n3:Int) (a2:OA) (l2 c2:Nat),af w3 ⟨r1,0,none⟩ 0 (iv n2 :: u1.on [iv n3,.slice a2 l2 c2]) /\
        ∃ x:Xv,(dZ S.s C n y t=0->x.er=(bF S.s.ps t).1)/\Value.tuple #[.agg (iv n2 :: u1.on [iv n3,.slice a2 l2 c2]:List Value).toArray,iv k]=.tuple #[.agg x.cells.toArray,iv (dZ S.s C n y t)]/\St w w3 (held x.In):=λ {k w' m i} s e hk0 hp =>
    s.aA i e dG.cells rfl (Xv.one _) λ w3 s3=>⟨_,z6,_,_,_,_,s3.cellsIn (cs:=dG.cells.toArray) (T:=109) i (List.getElem?_set_self (dO e)),dG,λ h=>absurd (hp.symm.trans h) hk0,by rw[hp]; rfl,((St.start' s3.av).one.su EC).first⟩
  by_cases h1:(bF S.s.ps t).2=0
  · have hx0:dM x=0:=by rw[<- xI,ex]; exact Az h1
    have hz:=JJ hx0;have e1:dZ S.s C n y t=if sJ x (bX S.s.ps)≠0 then sJ x (bX S.s.ps) else if EG S.s n y (sK x (bX S.s.ps))≠0 then EG S.s n y (sK x (bX S.s.ps)) else IS (zn C n) (sK x (bX S.s.ps)):=by
      rw[dZ,if_neg (by simpa using h1),<- ex,Nx,Ny]
    have s5:=s4.quiet (az.drew w4 []);refine cF (by simpa using h1) ⟨_,x.u,_,_,_,_,s5.cellsIn 0 rfl,_,_,_,cb s5.av 5 _ rfl,aj (oO (hI.av s5.av).ps (by have:=hs.ps.l2; omega)) ?_⟩;rintro v w6 ⟨rfl,c6⟩;have s6:=s5.quiet c6;refine⟨_,rfl,s6.cellsIn 0 rfl,aj (H9 hm hp (by omega) (s6.iP 1 rfl)) ?_⟩;rintro v w7 (⟨ho,rfl,c7⟩ | ⟨ho,hlen,a,c,rfl,k7⟩)
    · exact⟨_,_,_,_,rfl,cT (by simpa using ho) (bad (s6.quiet c7) (i:=2) rfl ho (by rw[e1,if_pos ho]))⟩
    rw[if_neg (by simpa using ho)] at e1;have s7:St w w7 (Sep [Ec a c (sK x (bX S.s.ps)),ai r2 x.cells.toArray 109,held x.In,ai r1 dG.cells.toArray 109,emp]):=s6.and k7.single;generalize hl:sK x (bX S.s.ps)=l at *;obtain⟨_,q,hq,hcy⟩:=(hI.av s7.av).bd n y hy;have cbud:w7.cell? (Addr.add (Addr.add q (((n:Nat):Int).toNat*4)) 2)=some (iv y.bud):=by
      have:=bC hcy 2 _ rfl
      rwa [Nat.zero_add] at this
    refine⟨_,_,_,_,rfl,cF rfl ⟨_,_,_,cb s7.av 6 _ rfl,au hq ⟨by omega,by omega,_,cbud,?_⟩⟩⟩;refine⟨λ i w8 m=>∃ k:Nat,i=k/\k<=l.length/\m=l.length-k/\(∀ o∈l.take k,ji S.s n y o.want=0/\¬ (y.bud≠0/\y.bud<o.v))/\St w w8 (Sep [Ec a c l,ai r2 x.cells.toArray 109,held x.In,ai r1 dG.cells.toArray 109,emp]),⟨l.length,0,rfl,by omega,by omega,by simp,s7⟩,?_⟩;rintro w8 m i ⟨k,rfl,hk8,hm8,hall,s8⟩ -
    by_cases hlt:(k:Int)<(l.length:Int)
    · have hxk:l[k]? = some (l[k]'(by omega)):=gE (by omega);generalize l[k]'(by omega)=o at hxk;obtain⟨q2,hq2,hc2⟩:=(St.rd Of.len s8).at hxk;have eo:=Qu hall hxk;refine cT (dT hlt) (au hq2 ⟨by omega,by omega,_,o.want,_,hc2,s8.ax SI.cells.toArray λ r3 w9 s9=>s9.aA 0 rfl o.cells rfl o.one λ w10 s10=>?_⟩);have s11:=s10.quiet (az.drew w10 []);have hset:af w10.drew ⟨b,5,none⟩ 0 S.s.arr.toList:=bE _ 0 λ j v hj=>by
        rw[bG,Nat.zero_add];refine cb s11.av (5+j) v ?_;have hj4:j<4:=(List.getElem?_eq_some_iff.1 hj).1
        match j,hj4 with
        | 0,_ | 1,_ | 2,_ | 3,_=>exact hj
      refine⟨_,_,_,_,_,_,_,_,_,_,_,_,hset,o.want,s11.aP 0 1 rfl rfl,aj (zN (hI.av s11.av) hs hy o.want) ?_⟩;rintro v w12 ⟨rfl,c12⟩;have s12:=s11.quiet c12;refine⟨_,rfl,?_⟩
      by_cases ha:ji S.s n y o.want=0
      · rw[if_neg (by simpa using ha)] at eo;refine cF (by simpa using ha) ⟨λ bb w13=>bb=decide (y.bud≠0/\y.bud<o.v)/\St w w13 (Sep [Ec a c l,ai r2 x.cells.toArray 109,held x.In,ai r1 dG.cells.toArray 109,emp]),?_,?_⟩
        · rintro w13 bb ⟨rfl,s13⟩ x2
          by_cases hbud:y.bud≠0/\y.bud<o.v
          · rw[if_pos hbud] at eo;exact cT (dT hbud) (bad s13 (i:=3) rfl (by decide) (by rw[e1,eo]; rfl))
          · refine cF (dF hbud) ⟨l.length-(k+1),by omega,k+1,aC ⟨by omega,by omega⟩,by omega,rfl,λ o' ho'=>?_,s13⟩;rw[aL hxk] at ho';rcases List.mem_append.1 ho' with h | h
            · exact hall o' h
            · rw[List.mem_singleton.1 h]; exact⟨ha,hbud⟩
        · by_cases hb0:y.bud=0
          · exact cF (by simpa using hb0) ⟨by rw[dF λ h=>h.1 hb0],s12.aq [1,2,3,4,5]⟩
          · refine cT (by simpa using hb0) ⟨_,s12.ag 0 rfl 7,?_,s12.aq [1,2,3,4,5]⟩
            by_cases hv:y.bud<o.v
            · rw[dT hv,dT ⟨hb0,hv⟩]
            · rw[dF hv,dF λ h=>hv h.2]
      · rw[if_pos ha] at eo;exact cT (by simpa using ha) (bad s12 (i:=4) rfl ha (by rw[e1,eo,if_pos ha]))
    · obtain rfl:k=l.length:=by omega
      rw[List.take_length] at hall;have e0:EG S.s n y l=0:=by rw[yo l l.length (by rw[List.take_length]; exact hall),List.drop_length]; rfl
      rw[e0,if_neg (by decide)] at e1;refine cF (dF hlt) ⟨_,(cb s8.av 9 _ rfl).trans (by rw[hk]),aj (z7 (hK.av s8.av) hC hn) ?_⟩;rintro v w9 ⟨a4,c4,rfl,k9⟩;have rl:=(St.rd Of.len s8).av k9.av;have rch:EE w9 a4 (zn C n):=St.rd Ch.len k9.one;have s9:=s8.quiet k9.av;refine⟨_,_,_,rfl,aj (FG rch (by unfold zn; rw[List.length_map]; have:=hC.cl; omega) (OM hC) rl (by omega)) ?_⟩;rintro v w10 ⟨⟨i,rfl⟩,c10⟩;have s10:=s9.quiet c10;refine⟨_,_,rfl,_,x.u,_,_,_,_,s10.cellsIn 1 rfl,s10.aA 3 rfl x.cells rfl x.one λ w11 s11=>⟨_,x.u,_,_,_,_,s11.cellsIn 3 rfl,x,λ _=>ex,by rw[e1]; rfl,?_⟩⟩;exact(s11.aq [2]).single
  · exact cT (by simpa using h1) (bad s4 (i:=2) rfl h1 (by rw[dZ,if_pos h1]))
def qC(S:Sx)(n:Nat)(x:Xv):Sx:={ S with bd:=S.bd.set n { S.bd.getD n dH with x:=x,has:=true } }
section
variable {w0 w:World} {b g n:Nat} {S:Sx} {C:Ck} {B:aD} {y:Br}
theorem MJ{k:List Nat}{l:List aD}(s:St w0 w (Sep l))(e:aq k l=dW g C):C.Rd g w:=(by have:=s.aq k; rw[e] at this; exact this:St w0 w (Sep (dW g C))).imp uV
theorem QX{Q:World->Prop}(hQ:∀ w,Q w->S.s.In w)(s:St w0 w (Sep (dm b S g C++[held Q,B])))(h:S.bd.length=8)(hk:S.k=some ⟨g,0,none⟩)(hC:C.Ok)(hs:S.s.Ok){e:Ev}(he:e.bidder=n)(hn:n<C.s.bd.length)(hy:S.s.bd[n]? = some y) :
    CP 93 #[.pointer (some ⟨b,0,none⟩),e.v] w (λ r w'=>r=iv (dZ S.s C n y e.text)/\(dZ S.s C n y e.text≠0->St w0 w' (Sep (dm b S g C++[held Q,B])))/\(dZ S.s C n y e.text=0->∃ x:Xv,x.er=(bF S.s.ps e.text).1/\St w0 w' (Sep (dm b (qC S n x) g C++[held Q,held x.In,B])))):=by
  refine qX (u1:=e.want) ?_;unfold mL;have hn':=(List.getElem?_eq_some_iff.1 hy).1;have z2:=hs.bd.l2;have hn8:n<8:=by omega
  have hyb:S.bd[n]? = some (S.bd.getD n dH):=by rw[List.getD_eq_getElem?_getD,gE (by omega)]; rfl
  have hsz:S.cells.toArray.size=101:=by simpa using Sx.len h
  refine s.ax e.cells.toArray λ r1 w1 s1=>?_;have s1:St w0 w1 (Sep (ai r1 e.cells.toArray 43 :: ai b S.cells.toArray 114 :: (dW g C++[held Q,B]))):=s1;have c1:w1.cell? ⟨r1,1,none⟩=some (iv n):=by rw[<- he]; exact s1.ag 0 rfl 1
  have rdK:C.Rd g w1:=MJ (k:=[2,3,4,5,6,7]) s1 rfl;refine⟨_,c1,_,s1.ag 0 rfl 9,aj (I0 (s1.cellsIn 1 rfl) (hQ _ (s1.iP 8 rfl)) hk rdK hC hs hn hy e.text) ?_⟩;rintro v w2 ⟨x,ex,rfl,k2⟩;have s2:St w0 w2 (Sep (held x.In :: ai r1 e.cells.toArray 43 :: ai b S.cells.toArray 114 :: (dW g C++[held Q,B]))):=s1.and k2;refine⟨_,x.u,_,_,_,_,_,rfl,s2.ax dG.cells.toArray λ r2 w3 s3=>s3.aA 0 rfl x.cells rfl x.one λ w4 s4=>?_⟩;have s4:St w0 w4 (Sep (ai r2 x.cells.toArray 109 :: held x.In :: ai r1 e.cells.toArray 43 :: ai b S.cells.toArray 114 :: (dW g C++[held Q,B]))):=s4
  by_cases h0:dZ S.s C n y e.text=0
  · refine⟨λ w5=>St w0 w5 (Sep (dm b (qC S n x) g C++[held Q,held x.In,B])),λ w5 s5 _=>⟨rfl,λ h=>absurd h0 h,λ _=>⟨x,ex h0,s5⟩⟩,?_⟩;have s5:=s4.quiet (az.drew w4 []);have c5:w4.drew.cell? ⟨r1,1,none⟩=some (iv n):=by rw[<- he]; exact s5.ag 2 rfl 1
    refine cT (by simpa using h0) ⟨_,c5,_,c5,_,x.u,_,_,_,_,s5.cellsIn 0 rfl,by omega,by omega,?_⟩;rw[SN];let S1:Sx:={ S with bd:=S.bd.set n { S.bd.getD n dH with x:=x } };refine s5.oF 3 (10+n*11) rfl (vs:=x.cells) S1.cells.toArray (by rw[hsz,Xv.len]; omega) (Xv.one _) (by rw[Xv.len]; exact congrArg List.toArray (Hv h hn8 hyb x)) λ w6 s6=>?_;have h1:S1.bd.length=8:=by simpa[S1] using h
    have hy1:S1.bd[n]? = some { S.bd.getD n dH with x:=x }:=by
      show(S.bd.set n _)[n]? = _;rw[List.getElem?_set_self (by omega)]
    have hsz1:S1.cells.toArray.size=101:=by simpa using Sx.len h1
    have s6:St w0 w6 (Sep (ai r2 x.cells.toArray 109 :: held x.In :: ai r1 e.cells.toArray 43 :: ai b S1.cells.toArray 114 :: (dW g C++[held Q,B]))):=s6;have c6:w6.cell? ⟨r1,1,none⟩=some (iv n):=by rw[<- he]; exact s6.ag 2 rfl 1
    refine⟨c6,by omega,by omega,?_⟩;rw[bG];refine s6.aH 3 rfl (j:=10+n*11+9) (by rw[hsz1]; omega) rfl λ w7 s7=>?_;have e1:=Hu h1 hn8 hy1 true;have e2:({ S1 with bd:=S1.bd.set n { ({ S.bd.getD n dH with x:=x }:Bd) with has:=true } }:Sx)=qC S n x:=by
      show({ S with bd:=(S.bd.set n _).set n _ }:Sx)=_;rw[List.set_set]; rfl
    rw[e2] at e1;rw[e1] at s7;exact s7.aq [3,4,5,6,7,8,9,10,1,11]
  · refine⟨λ w5=>St w0 w5 (Sep (dm b S g C++[held Q,B])),λ w5 s5 _=>⟨rfl,λ _=>s5,λ h=>absurd h h0⟩,cF (by simpa using h0) (s4.aq [3,4,5,6,7,8,9,10,11])⟩
end
structure Ck.Inv (C:Ck):Prop where
  ok:C.Ok
  n30:C.ov=false->C.cl.length<30
section
variable {C C' : Ck}
theorem Rn.Sz.er{x:Rn}{n:Nat}:x.er.Sz n<->x.Sz n:=⟨λ h=>⟨h.ask,h.got,h.bd⟩,λ h=>⟨h.ask,h.got,h.bd⟩⟩
theorem Ck.Inv.Tp(h:C.Inv):C.er.Inv:=by
  obtain⟨⟨s,o,cl,cz,cp,ca,cg,p,ask,bd,dp,asked⟩,n30⟩:=h;have mm:∀ {x:Rn},x∈C.er.cl->∃ y∈C.cl,y.er=x:=λ hx=>List.mem_map.1 hx;have hl:C.er.cl.length=C.cl.length:=List.length_map _;refine⟨⟨⟨s.ps,s.bd,s.cp,s.sa⟩,o,by rw[hl]; exact cl,λ x hx=>?_,λ x hx=>?_,λ x hx=>?_,λ x hx=>?_,p,ask,bd,dp,asked⟩,λ h=>by rw[hl]; exact n30 h⟩
  · obtain⟨y,hy,rfl⟩:=mm hx; exact Rn.Sz.er.2 (cz y hy)
  · obtain⟨y,hy,rfl⟩:=mm hx; exact cp y hy
  · obtain⟨y,hy,rfl⟩:=mm hx; exact ca y hy
  · obtain⟨y,hy,rfl⟩:=mm hx; exact cg y hy
theorem Ck.Inv.Tc(h:C.er.Inv):C.Inv:=by
  obtain⟨⟨s,o,cl,cz,cp,ca,cg,p,ask,bd,dp,asked⟩,n30⟩:=h;have mm:∀ {x:Rn},x∈C.cl->x.er∈C.er.cl:=λ hx=>List.mem_map_of_mem hx;have hl:C.er.cl.length=C.cl.length:=List.length_map _;rw[hl] at cl n30;exact⟨⟨⟨s.ps,s.bd,s.cp,s.sa⟩,o,cl,λ x hx=>Rn.Sz.er.1 (cz _ (mm hx)),λ x hx=>cp x.er (mm hx),λ x hx=>ca x.er (mm hx),λ x hx=>cg x.er (mm hx),p,ask,bd,dp,asked⟩,n30⟩
theorem Ck.Inv.er(h:C.Inv)(e:C'.er=C.er):C'.Inv:=Ck.Inv.Tc (e▸h.Tp)
theorem OL(C:Ck)(n:Nat):zn C.er n=zn C n:=by
  show(C.cl.map Rn.er).map _=_;rw[List.map_map]; rfl
theorem NL(C:Ck):gV C.er=gV C:=by
  show gz C.dp 0 (((C.cl.map Rn.er).getLast?.map Rn.got).getD [])=_;rw[List.getLast?_map,Option.map_map]; rfl
theorem yj(C:Ck):C.er.cl.length=C.cl.length:=List.length_map _
theorem Kl(C:Ck):nX C.er=nX C:=by
  unfold nX;rw[yj,NL]; rfl
theorem J8(C:Ck):vP C.er=vP C:=by unfold vP; rw[Kl]; rfl
theorem KZ(C:Ck):nq C.er=nq C:=by unfold nq; rw[J8]; rfl
theorem GO(C:Ck):dB C.er=dB C:=by unfold dB; rw[J8,KZ,yj]
theorem Sd(C:Ck):(Lp C.er).er=(Lp C).er:=by
  show({ p:=_,ask:=_,got:=nX C.er,bd:=_,xa:=_,xc:=_,ga:=_,gc:=_,ba:=_,bc:=_ }:Rn)=_;rw[Kl]; rfl
theorem J0(C:Ck):C.er.er=C.er:=by
  show({ C.er with cl:=(C.cl.map Rn.er).map Rn.er }:Ck)=_;rw[List.map_map]; rfl
theorem JN(C:Ck):(eL C.er).er=(eL C).er:=by
  have e1:(eL C.er).cl.map Rn.er=(eL C).cl.map Rn.er:=by
    show((C.cl.map Rn.er)++[Lp C.er]).map Rn.er=(C.cl++[Lp C]).map Rn.er;rw[List.map_append,List.map_append,List.map_map,List.map_singleton,List.map_singleton,Sd]; rfl
  show({ s:=_,o:=_,cl:=(eL C.er).cl.map Rn.er,p:=if dB C.er then C.p else (nq C.er).1,ask:=_,bd:=_,dp:=_,ov:=dB C.er,ka:=_,kc:=_,xa:=_,xc:=_,ya:=_,yc:=_,za:=_,zc:=_ }:Ck)=_;rw[e1,GO,KZ]; rfl
theorem Oi(C:Ck):(tr C.er).er=(tr C).er:=by
  show({ s:=_,o:=_,cl:=(C.cl.map Rn.er).map Rn.er,p:=_,ask:=_,bd:=_,dp:=_,ov:=_,ka:=_,kc:=_,xa:=_,xc:=_,ya:=_,yc:=_,za:=_,zc:=_ }:Ck)=_;rw[List.map_map]; rfl
theorem JW(C:Ck)(n:Nat):(jA C.er n).er=(jA C n).er:=by
  show({ s:=_,o:=_,cl:=(C.cl.map Rn.er).map Rn.er,p:=_,ask:=_,bd:=_,dp:=_,ov:=_,ka:=_,kc:=_,xa:=_,xc:=_,ya:=_,yc:=_,za:=_,zc:=_ }:Ck)=_;rw[List.map_map]; rfl
theorem My(C:Ck)(n:Nat)(u:I6):(qB C.er n u).er=(qB C n u).er:=by
  show({ s:=_,o:=_,cl:=(C.cl.map Rn.er).map Rn.er,p:=_,ask:=_,bd:=_,dp:=_,ov:=_,ka:=_,kc:=_,xa:=_,xc:=_,ya:=_,yc:=_,za:=_,zc:=_ }:Ck)=_;rw[List.map_map]; rfl
theorem IT(C:Ck)(r:Int):bV C.er r=bV C r:=by unfold bV; rw[yj]; rfl
theorem Ll(C:Ck)(r:Nat):(dQ C.er r).er=(dQ C r).er:=by
  unfold dQ;have e:C.er.cl[r]? = (C.cl[r]?).map Rn.er:=List.getElem?_map ..;rw[e]
  cases C.cl[r]? with
  | none =>
    show({ s:=_,o:=_,cl:=(C.cl.map Rn.er).map Rn.er,p:=_,ask:=_,bd:=_,dp:=_,ov:=_,ka:=_,kc:=_,xa:=_,xc:=_,ya:=_,yc:=_,za:=_,zc:=_ }:Ck)=_;rw[List.map_map]; rfl
  | some x =>
    show({ s:=_,o:=_,cl:=(((C.cl.map Rn.er).take r).map Rn.er),p:=_,ask:=_,bd:=_,dp:=_,ov:=_,ka:=_,kc:=_,xa:=_,xc:=_,ya:=_,yc:=_,za:=_,zc:=_ }:Ck)=_;rw[<- List.map_take,List.map_map]; rfl
theorem Mx(C:Ck)(n:Nat)(y:Br)(u:I6):ke C.er n y u=ke C n y u:=by
  unfold ke;rw[OL]; rfl
theorem K0(S:Se)(C:Ck)(n:Nat)(y:Br)(t:List UInt8):dZ S.er C.er n y t=dZ S C n y t:=by
  unfold dZ;rw[OL];have:∀ l:List Of,EG S.er n y l=EG S n y l:=λ l=>by
    induction l with
    | nil=>rfl
    | cons o l ih=>rw[EG,EG,ih]; rfl
  rw[this]; rfl
theorem KU{S:Se}{o:Po}(hs:S.Ok)(ho:o.ok):(kL S o).Inv:=⟨Nt hs ho,λ _=>by show([]:List Rn).length<30; decide⟩
theorem JE(h:C.Inv){n:Nat}{y:Br}{u:I6}(hb:ke C n y u=0):(qB C n u).Inv:=by
  have hu:I6.Le u 4:=by
    unfold ke at hb
    split at hb
    · cases hb
    · split at hb
      · rename_i h1; exact absurd hb h1
      · rename_i h1;have h2:ji C.s n y u=0:=by simpa using h1
        unfold ji at h2
        split at h2
        · rename_i h3; exact Jl h3
        · cases h2
  obtain⟨⟨s,o,cl,cz,cp,ca,cg,p,ask,bd,dp,asked⟩,n30⟩:=h;refine⟨⟨s,o,cl,cz,cp,ca,cg,p,by simpa[qB] using ask,by simpa[qB] using bd,dp,λ v hv=>?_⟩,n30⟩;rcases List.mem_or_eq_of_mem_set hv with hv | rfl
  · exact asked v hv
  · exact hu
theorem H6(h:C.Inv)(n:Nat):(jA C n).Inv:=by
  obtain⟨⟨s,o,cl,cz,cp,ca,cg,p,ask,bd,dp,asked⟩,n30⟩:=h;refine⟨⟨s,o,cl,cz,cp,ca,cg,p,by simpa[jA] using ask,by simpa[jA] using bd,by simpa[jA] using dp,λ v hv=>?_⟩,n30⟩;rcases List.mem_or_eq_of_mem_set hv with hv | rfl
  · exact asked v hv
  · exact Mi (by omega)
theorem QV{n:Nat}:∀ u∈List.replicate n z6,I6.Le u 4:=λ u hu=>by rw[List.eq_of_mem_replicate hu]; exact Mi (by omega)
theorem Bv(h:C.Ok):(fo C).Ok:=by
  obtain⟨s,o,cl,cz,cp,ca,cg,p,ask,bd,dp,asked⟩:=h;exact⟨s,o,cl,cz,cp,ca,cg,p,by simpa[fo] using dp,by simpa[fo] using dp,dp,QV⟩
theorem I3(h:C.Inv):(tr C).Inv:=by
  obtain⟨s,o,cl,cz,cp,ca,cg,p,ask,bd,dp,asked⟩:=Bv h.ok;exact⟨⟨s,o,cl,cz,cp,ca,cg,p,ask,bd,dp,asked⟩,λ h=>by cases h⟩
theorem FH(h:C.Inv){r:Int}(hr:bV C r=false):(dQ C r.toNat).Inv:=by
  have hr' : 0<=r/\r<=C.cl.length/\(r=C.cl.length->C.ov=false):=by
    unfold bV at hr;simp only[Bool.or_eq_false_iff,decide_eq_false_iff_not,Bool.and_eq_false_iff,beq_eq_false_iff_ne] at hr;obtain⟨⟨h1,h2⟩,h3⟩:=hr;refine⟨by omega,by omega,λ e=>?_⟩;rcases h3 with h3 | h3
    · exact absurd e h3
    · exact h3
  have k:=Bv h.ok;obtain⟨s,o,cl,cz,cp,ca,cg,p,ask,bd,dp,asked⟩:=k;have hl:=h.ok.cl;unfold dQ
  cases hx:C.cl[r.toNat]? with
  | some x =>
    have hm:=List.mem_of_getElem? hx;have hlt:=(List.getElem?_eq_some_iff.1 hx).1;refine⟨⟨s,o,?_,λ y hy=>cz y (List.mem_of_mem_take hy),λ y hy=>cp y (List.mem_of_mem_take hy),λ y hy=>ca y (List.mem_of_mem_take hy),λ y hy=>cg y (List.mem_of_mem_take hy),cp x hm,ask,bd,dp,asked⟩,λ _=>?_⟩
    · show(C.cl.take r.toNat).length<=30;rw[List.length_take]; omega
    · show(C.cl.take r.toNat).length<30;rw[List.length_take]; omega
  | none =>
    have hge:C.cl.length<=r.toNat:=List.getElem?_eq_none_iff.1 hx;have e:r=C.cl.length:=by omega
    exact⟨⟨s,o,cl,cz,cp,ca,cg,p,ask,bd,dp,asked⟩,λ _=>h.n30 (hr'.2.2 e)⟩
theorem Fh{o:Po}{p ex:I6}(hp:nr p=true)(h:(vl o p ex).2=0):nr (vl o p ex).1=true:=by
  unfold vl at h ⊢
  split
  · rename_i g; rw[if_pos g] at h; cases h
  · rename_i g;show nr (bL o p ex)=true
    by_cases e:bL o p ex=p
    · rw[e]; exact hp
    · cases hv:nr (bL o p ex) with
      | true=>rfl
      | false=>exact absurd ⟨e,hv⟩ g
theorem ER(h:C.Inv)(hov:C.ov=false):(eL C).Inv:=by
  have h30:=h.n30 hov;have hg:=Km h.ok;have hk:=h.ok;obtain⟨s,o,cl,cz,cp,ca,cg,p,ask,bd,dp,asked⟩:=Bv h.ok;have mm:∀ {Q:Rn->Prop},(∀ x∈C.cl,Q x)->Q (Lp C)->∀ x∈(eL C).cl,Q x:=λ h1 h2 x hx=>by
    rcases List.mem_append.1 hx with hx | hx
    · exact h1 x hx
    · rw[List.mem_singleton.1 hx]; exact h2
  refine⟨⟨s,o,?_,mm cz ⟨hk.ask,hg.1,hk.bd⟩,mm cp hk.p,mm ca hk.asked,mm cg hg.2,?_,ask,bd,dp,asked⟩,λ hl=>?_⟩
  · show(C.cl++[Lp C]).length<=30;rw[List.length_append,List.length_singleton]; omega
  · show nr (if dB C then C.p else (nq C).1)=true
    split
    · exact hk.p
    · rename_i hl;refine Fh hk.p ?_;have hl:dB C=false:=by simpa using hl
      unfold dB at hl;simp only[Bool.or_eq_false_iff] at hl;have h2:(nq C).2=0:=by simpa using hl.2.2
      exact h2
  · have hl:dB C=false:=hl;unfold dB at hl;simp only[Bool.or_eq_false_iff,decide_eq_false_iff_not] at hl;show(C.cl++[Lp C]).length<30;rw[List.length_append,List.length_singleton]; omega
end
theorem SB{S:Sx}(h:S.bd.length=8)(k:OA):S.cells.toArray.setIfInBounds 9 (.pointer k)=({ S with k:=k }:Sx).cells.toArray:=by
  obtain⟨o,ph,s,k0,bd,dec,cnt,dig⟩:=S;obtain⟨b0,b1,b2,b3,b4,b5,b6,b7,rfl⟩:=bO h;rfl
theorem Rm(S:Sx)(S' : Se):(S.cells.toArray.toList.take 5++S'.arr.toList++S.cells.toArray.toList.drop (5+S'.arr.toList.length)).toArray=({ S with s:=S' }:Sx).cells.toArray:=rfl
def mF(o:Po)(t:List UInt8):Int:=if oo o≠0 then oo o else uu t
section
variable {w0 w:World} {b:Nat} {S:Sx} {B:aD}
theorem Oc(s:St w0 w (Sep [ai b S.cells.toArray 114,B]))(h:S.bd.length=8){e:Ev}(ht:e.text.length<=80000) :
    CP 90 #[.pointer (some ⟨b,0,none⟩),e.v] w (λ r w'=>r=iv (mF S.o e.text)/\(mF S.o e.text≠0->St w0 w' (Sep [ai b S.cells.toArray 114,B]))/\(mF S.o e.text=0->∃ (S' : Se) (g:Nat) (C:Ck),S'.er=(uv e.text).er/\S'.Ok/\S.o.ok/\C.er=(kL S' S.o).er/\St w0 w' (Sep (dm b { S with ph:=1,s:=S',k:=some ⟨g,0,none⟩ } g C++[held S'.In,B])))):=by
  refine p6 (u1:=e.want) ?_;unfold kT;refine s.ax e.cells.toArray λ r1 w1 s1=>?_;refine⟨_,_,_,_,s1.aP (vs:=S.o.cells) 1 0 rfl rfl,aj (uq w1 S.o) ?_⟩;rintro v w2 ⟨rfl,c2⟩;have s2:=s1.quiet c2;refine⟨_,rfl,?_⟩
  by_cases h1:oo S.o=0
  · have e1:mF S.o e.text=uu e.text:=by rw[mF,if_neg (λ h=>h h1)]
    refine cF (by simpa using h1) ⟨_,s2.ag 0 rfl 9,aj (LK w2 e.text ht) ?_⟩;rintro v w3 ⟨S',i,rfl,k3,hok⟩;have s3:St w0 w3 (Sep [held S'.In,ai r1 e.cells.toArray 43,ai b S.cells.toArray 114,B]):=s2.and k3;refine⟨_,_,_,_,_,_,_,_,_,_,_,_,_,_,rfl,s3.ax fH.arr λ r2 w4 s4=>s4.aA 0 rfl S'.arr.toList rfl (by simp[Se.arr,Value.oneCell']) λ w5 s5=>?_⟩;have s5:St w0 w5 (Sep [ai r2 S'.arr 100,held S'.In,ai r1 e.cells.toArray 43,ai b S.cells.toArray 114,B]):=s5
    by_cases h2:uu e.text=0
    · obtain⟨eS,hS⟩:=hok h2;have ho:S.o.ok:=by
        unfold oo at h1
        by_cases g:S.o.ok
        · exact g
        · rw[if_neg g] at h1; cases h1
      have s6:=s5.quiet (az.drew w5 []);refine cF (by simpa using h2) ⟨_,_,_,_,_,_,_,_,_,_,_,_,s6.cellsIn (cs:=S'.arr) 0 rfl,_,_,_,_,s6.aP (vs:=S.o.cells) 3 0 rfl rfl,aj (R3 (s6.iP 1 rfl) hS ho) ?_⟩;rintro v w7 ⟨g,C,eC,rfl,k7⟩;have s7:St w0 w7 (Sep (dW g C++[ai r2 S'.arr 100,held S'.In,ai r1 e.cells.toArray 43,ai b S.cells.toArray 114,B])):=St.cat (s6.and k7);refine⟨_,_,rfl,cF rfl ⟨_,_,_,_,_,_,_,_,_,_,_,_,s7.cellsIn (cs:=S'.arr) 6 rfl,?_⟩⟩;have hsz:S.cells.toArray.size=101:=dz h;refine s7.oF 9 5 rfl (vs:=S'.arr.toList) ({ S with s:=S' }:Sx).cells.toArray (by rw[hsz]; show 9<=101; decide) (by simp[Se.arr,Value.oneCell']) (Rm S S') λ w8 s8=>?_;have h1' : ({ S with s:=S' }:Sx).bd.length=8:=h;refine s8.aH 9 rfl (j:=9) (by show 9<({ S with s:=S' }:Sx).cells.toArray.size; rw[dz h1']; decide) rfl λ w9 s9=>?_;rw[SB h1'] at s9;have h2' : ({ S with s:=S',k:=some ⟨g,0,none⟩ }:Sx).bd.length=8:=h;refine s9.aH 9 rfl (j:=4) (by show 4<({ S with s:=S',k:=some ⟨g,0,none⟩ }:Sx).cells.toArray.size; rw[dz h2']; decide) rfl λ w10 s10=>?_;rw[Er h2'] at s10;refine⟨by rw[e1,h2],λ h=>absurd (e1.trans h2) h,λ _=>⟨S',g,C,eS,hS,ho,eC,?_⟩⟩;exact s10.aq [9,0,1,2,3,4,5,7,10]
    · exact cT (by simpa using h2) ⟨by rw[e1],λ _=>s5.aq [3,4],λ h=>absurd (e1.symm.trans h) h2⟩
  · exact cT (by simpa using h1) ⟨by rw[mF,if_pos h1],λ _=>s2.second,λ h=>absurd h (by rw[mF,if_pos h1]; exact h1)⟩
end
def eG(k:Int):FuncId:=if k=1 then 90 else if k=2 then 91 else if k=3\/k=4 then 92 else if k=5 then 93
  else if k=6 then 94 else if k=7 then 95 else if k=8 then 96 else 97
theorem JX(w:World)(b:Nat)(k:Int):CP 53 #[.pointer (some ⟨b,0,none⟩),iv k] w (λ r w'=>r=.func (.func (eG k)) #[] #[]/\w' = w):=by
  refine nw ?_;unfold jd
  by_cases h1:k=1
  · exact cT (by simpa using h1) ⟨by rw[eG,if_pos h1],rfl⟩
  refine cF (by simpa using h1) ?_
  by_cases h2:k=2
  · exact cT (by simpa using h2) ⟨by rw[eG,if_neg h1,if_pos h2],rfl⟩
  refine cF (by simpa using h2) ⟨λ b w1=>b=decide (k=3\/k=4)/\w1=w,?_,?_⟩
  · rintro w1 _ ⟨rfl,rfl⟩ -
    by_cases h3:k=3\/k=4
    · exact cT (dT h3) ⟨by rw[eG,if_neg h1,if_neg h2,if_pos h3],rfl⟩
    refine cF (dF h3) ?_
    by_cases h5:k=5
    · exact cT (by simpa using h5) ⟨by rw[eG,if_neg h1,if_neg h2,if_neg h3,if_pos h5],rfl⟩
    refine cF (by simpa using h5) ?_
    by_cases h6:k=6
    · exact cT (by simpa using h6) ⟨by rw[eG,if_neg h1,if_neg h2,if_neg h3,if_neg h5,if_pos h6],rfl⟩
    refine cF (by simpa using h6) ?_
    by_cases h7:k=7
    · exact cT (by simpa using h7) ⟨by rw[eG,if_neg h1,if_neg h2,if_neg h3,if_neg h5,if_neg h6,if_pos h7],rfl⟩
    refine cF (by simpa using h7) ?_
    by_cases h8:k=8
    · exact cT (by simpa using h8) ⟨by rw[eG,if_neg h1,if_neg h2,if_neg h3,if_neg h5,if_neg h6,if_neg h7,if_pos h8],rfl⟩
    · exact cF (by simpa using h8) ⟨by rw[eG,if_neg h1,if_neg h2,if_neg h3,if_neg h5,if_neg h6,if_neg h7,if_neg h8],rfl⟩
  · by_cases g3:k=3
    · exact cT (by simpa using g3) ⟨by rw[dT (Or.inl g3)]; simpa using g3,rfl⟩
    · refine cF (by simpa using g3) ⟨?_,rfl⟩
      by_cases g4:k=4
      · rw[dT (Or.inr g4)]; simpa using g4
      · rw[dF (by omega)]; simpa using g4
def Pt:Br:=⟨[],0,0,0⟩
def cE(S:Sx)(C:Ck)(e:Ev):Int :=
  if e.kind=1 then mF S.o e.text
  else if e.kind=2 then ke C e.bidder.toNat (C.s.bd.getD e.bidder.toNat Pt) e.want
  else if e.kind=3\/e.kind=4 then (if C.ov then 10 else 0)
  else if e.kind=5 then dZ S.s C e.bidder.toNat (S.s.bd.getD e.bidder.toNat Pt) e.text
  else if e.kind=6 then (if (S.bd.getD e.bidder.toNat dH).has then 0 else 6)
  else if e.kind=7 then (if C.dp.getD e.bidder.toNat false then 10 else 0)
  else if e.kind=8 then (if bV C e.round then 4 else 0) else 0
def bB(S:Sx)(C:Ck)(e:Ev):Sx :=
  if e.kind=1 then { S with ph:=1,s:=uv e.text }
  else if e.kind=2 then S
  else if e.kind=3 then (if dB C then { S with ph:=2 } else S)
  else if e.kind=4 then { S with ph:=2 }
  else if e.kind=5 then qC S e.bidder.toNat (bF S.s.ps e.text).1
  else if e.kind=6 then bp S e.bidder.toNat
  else if e.kind=7 then bp (gy S e.bidder.toNat) e.bidder.toNat
  else if e.kind=8 then { bQ S 8 with ph:=1 } else nR S e
def cr(S:Sx)(C:Ck)(e:Ev):Ck :=
  if e.kind=1 then kL (uv e.text) S.o
  else if e.kind=2 then qB C e.bidder.toNat e.want
  else if e.kind=3 then eL C
  else if e.kind=4 then tr C
  else if e.kind=7 then jA C e.bidder.toNat
  else if e.kind=8 then dQ C e.round.toNat else C
theorem Mh:∀ x:Xv,x.er.er=x.er:=Xv.ind λ x ih=>by
  rw[Xv.qh x,Xv.er]
  congr 1
  rw[List.map_map];exact List.map_congr_left λ y hy=>ih y hy
def Bd.er(y:Bd):Bd:={ y with x:=y.x.er }
def Sx.er(S:Sx):Sx:={ S with s:=S.s.er,k:=none,bd:=S.bd.map Bd.er }
theorem Bk(y:Bd):y.er.er=y.er:=by show({ y with x:=y.x.er.er }:Bd)=_; rw[Mh]; rfl
theorem fO(S:Sx):S.er.er=S.er:=by
  show({ S.er with bd:=(S.bd.map Bd.er).map Bd.er }:Sx)=_;rw[List.map_map,show(Bd.er ∘ Bd.er)=Bd.er from funext Bk]; rfl
theorem Mj:dH.er=dH:=by show({ dH with x:=dG.er }:Bd)=_; rw[Ge]; rfl
theorem rB(S:Sx)(n:Nat):S.er.bd.getD n dH=(S.bd.getD n dH).er:=by
  show(S.bd.map Bd.er).getD n dH=_;rw[List.getD_eq_getElem?_getD,List.getD_eq_getElem?_getD,List.getElem?_map]
  cases S.bd[n]? with
  | none=>exact Mj.symm
  | some y=>rfl
theorem qO{l:List Bd}{n:Nat}{y y' : Bd}(h:y.er=y'.er):((l.map Bd.er).set n y).map Bd.er=(l.set n y').map Bd.er:=by
  rw[List.map_set,List.map_set,List.map_map,h,show(Bd.er ∘ Bd.er)=Bd.er from funext Bk]
theorem uE(S:Sx)(n:Nat):(bp S.er n).er=(bp S n).er:=by
  have:((S.bd.map Bd.er).set n (Gw (S.er.bd.getD n dH))).map Bd.er=(S.bd.set n (Gw (S.bd.getD n dH))).map Bd.er:=qO (by rw[rB]; rfl);show({ S.er with bd:=((S.bd.map Bd.er).set n (Gw (S.er.bd.getD n dH))).map Bd.er }:Sx)=_;rw[this]; rfl
theorem K5(S:Sx)(n:Nat):(gy S.er n).er=(gy S n).er:=by
  have:((S.bd.map Bd.er).set n { S.er.bd.getD n dH with out:=true }).map Bd.er=(S.bd.set n { S.bd.getD n dH with out:=true }).map Bd.er:=qO (by rw[rB]; exact Bk { S.bd.getD n dH with out:=true });show({ S.er with bd:=((S.bd.map Bd.er).set n { S.er.bd.getD n dH with out:=true }).map Bd.er }:Sx)=_;rw[this]; rfl
theorem Ei{S S' : Sx}(h:S'.er=S.er)(n:Nat):(bp S' n).er=(bp S n).er:=by rw[<- uE S',h,uE]
theorem AN{S S' : Sx}(h:S'.er=S.er):∀ k,(bQ S' k).er=(bQ S k).er
  | 0=>h
  | k+1=>Ei (AN h k) k
theorem G8{S S' : Sx}(h:S'.er=S.er)(x:Int):({ S' with ph:=x }:Sx).er=({ S with ph:=x }:Sx).er:=by
  show({ S'.er with ph:=x }:Sx)={ S.er with ph:=x };rw[h]
theorem Mz(S:Sx)(n:Nat)(x:Xv):(qC S.er n x).er=(qC S n x).er:=by
  have:((S.bd.map Bd.er).set n { S.er.bd.getD n dH with x:=x,has:=true }).map Bd.er=(S.bd.set n { S.bd.getD n dH with x:=x,has:=true }).map Bd.er:=qO (by rw[rB]; rfl);show({ S.er with bd:=((S.bd.map Bd.er).set n { S.er.bd.getD n dH with x:=x,has:=true }).map Bd.er }:Sx)=_;rw[this]; rfl
theorem PJ{S:Sx}{n:Nat}{x x' : Xv}(h:x.er=x'.er):(qC S n x).er=(qC S n x').er:=by
  have:(S.bd.set n { S.bd.getD n dH with x:=x,has:=true }).map Bd.er=(S.bd.set n { S.bd.getD n dH with x:=x',has:=true }).map Bd.er:=by
    rw[List.map_set,List.map_set]
    congr 1
    show({ S.bd.getD n dH with x:=x.er,has:=true }:Bd)={ S.bd.getD n dH with x:=x'.er,has:=true };rw[h]
  show({ S.er with bd:=(S.bd.set n { S.bd.getD n dH with x:=x,has:=true }).map Bd.er }:Sx)=_;rw[this]; rfl
theorem BE(S:Sx)(C:Ck)(e:Ev):cE S.er C.er e=cE S C e:=by
  have h1:(S.er.bd.getD e.bidder.toNat dH).has=(S.bd.getD e.bidder.toNat dH).has:=by rw[rB]; rfl
  unfold cE;rw[h1,Mx,IT];show(if _ then _ else if _ then _ else if _ then _ else if _ then dZ S.s.er C.er _ _ _ else _)=_;rw[K0]; rfl
theorem BF(S:Sx)(C:Ck)(e:Ev):(bB S.er C.er e).er=(bB S C e).er:=by
  unfold bB;rw[GO]
  split
  · show({ S.er.er with ph:=1,s:=(uv e.text).er }:Sx)={ S.er with ph:=1,s:=(uv e.text).er };rw[fO]
  · split
    · exact fO S
    · split
      · split
        · exact G8 (fO S) 2
        · exact fO S
      · split
        · exact G8 (fO S) 2
        · split
          · exact Mz S _ _
          · split
            · exact uE S _
            · split
              · exact Ei (K5 S _) _
              · split
                · exact G8 (AN (fO S) 8) 1
                · unfold nR
                  split
                  · show({ S.er.er with ph:=4,dec:=e.digest }:Sx)={ S.er with ph:=4,dec:=e.digest };rw[fO]
                  · exact G8 (fO S) 3
theorem BD(S:Sx)(C:Ck)(e:Ev):(cr S.er C.er e).er=(cr S C e).er:=by
  unfold cr
  split
  · rfl
  · split
    · exact My C _ _
    · split
      · exact JN C
      · split
        · exact Oi C
        · split
          · exact JW C _
          · split
            · exact Ll C _
            · exact J0 C
end Go.Proofs.YtpihmghnbplohaaGreatDoor
