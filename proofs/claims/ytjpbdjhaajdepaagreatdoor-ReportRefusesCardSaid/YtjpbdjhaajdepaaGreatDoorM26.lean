import Derived.Test.YtjpbdjhaajdepaaGreatDoorM23
import Derived.Test.YtjpbdjhaajdepaaGreatDoorM24
import Derived.Test.YtjpbdjhaajdepaaGreatDoorM25
set_option maxRecDepth 100000
namespace Go.Proofs.YtjpbdjhaajdepaaGreatDoor
open Go Go.Vc Tryz
theorem N5(x:Xv)(m:I6):tB x.er m=tB x m:=by unfold tB; rw[xZ,PE]
theorem N6(x:Xv)(m:I6):tC x.er m=tC x m:=by unfold tC; rw[PE]
theorem AM{l:List Pr}{t:List UInt8}(h:(bD l t).2=0):eD (bD l t).1=0:=by
  unfold bD at h ⊢
  split at h
  · rename_i g; exact absurd h g
  · rename_i g; rw[if_neg g]
    split at h
    · rename_i g2; exact absurd h g2
    · rename_i g2; rw[if_neg g2]
      split at h
      · rename_i g3; exact absurd h g3
      · rename_i g3; rw[if_neg g3]; simpa using g3
theorem JG{x:Xv}(h:eD x=0):aT x<=40:=by
  unfold eD at h
  split at h
  · cases h
  · split at h
    · cases h
    · rename_i g; omega
def EO(S:Se)(n:Nat)(y:Br):List Of->Int
  | []=>0
  | o :: l=>if jD S n y o.want≠0 then jD S n y o.want else if y.bud≠0/\y.bud<o.v then 17 else EO S n y l
theorem yN{S:Se}{n:Nat}{y:Br}:∀ (l:List Of) (k:Nat),(∀ o∈l.take k,jD S n y o.want=0/\¬ (y.bud≠0/\y.bud<o.v))->EO S n y l=EO S n y (l.drop k)
  | l,0,_=>rfl
  | [],k+1,_=>rfl
  | o :: l,k+1,h=>by
    obtain⟨h1,h2⟩:=h o (by simp);rw[EO,if_neg (by simpa using h1),if_neg h2,yN l k λ o ho=>h o (by simp[ho])]; rfl
theorem Q5{S:Se}{n:Nat}{y:Br}{l:List Of}{k:Nat}{o:Of}(h:∀ o∈l.take k,jD S n y o.want=0/\¬ (y.bud≠0/\y.bud<o.v))(hx:l[k]? = some o) :
    EO S n y l=if jD S n y o.want≠0 then jD S n y o.want else if y.bud≠0/\y.bud<o.v then 17 else EO S n y (l.drop (k+1)):=by
  obtain⟨hl,rfl⟩:=List.getElem?_eq_some_iff.1 hx;rw[yN l k h,List.drop_eq_getElem_cons hl,EO]
def e9(S:Se)(C:Ck)(n:Nat)(y:Br)(t:List UInt8):Int :=
  if (bD S.ps t).2≠0 then (bD S.ps t).2 else if tB (bD S.ps t).1 (cw S.ps)≠0 then tB (bD S.ps t).1 (cw S.ps)
  else if EO S n y (tC (bD S.ps t).1 (cw S.ps))≠0 then EO S n y (tC (bD S.ps t).1 (cw S.ps)) else IQ (zH C n) (tC (bD S.ps t).1 (cw S.ps))
theorem RU{l:List Pr}(h:di l):pr (cw l).l<=1024:=by
  rw[F4,CK h.l2]; exact h.lim
theorem I2{w:World}{b g n:Nat}{S:Sx}{C:Ck}{y:Br}(hb:af w ⟨b,0,none⟩ 0 S.cells)(hI:S.s.In w)(hk:S.k=some ⟨g,0,none⟩)(hK:C.Rd g w)(hC:C.Ok)(hs:S.s.Ok)(hn:n<C.s.bd.length)(hy:S.s.bd[n]? = some y)(t:List UInt8) :
    CP 95 #[.pointer (some ⟨b,0,none⟩),iv n,sv t] w (λ r w'=>∃ x:Xv,(e9 S.s C n y t=0->x.er=(bD S.s.ps t).1)/\r=.tuple #[.agg x.cells.toArray,iv (e9 S.s C n y t)]/\St w w' (held x.In)):=by
  refine oa ?_;unfold jA;have hn':=(List.getElem?_eq_some_iff.1 hy).1;have z2:=hs.bd.l2;have hm:=sup_le hs.ps;have hp:=RU hs.ps;have cb:∀ {w'},aF w w' []->∀ (j:Nat) (v:Value),S.cells[j]? = some v->w'.cell? ⟨b,j,none⟩=some v:=λ hc j v hv=>by
    have:=aU (bG hc hb) j v hv
    rwa [Nat.zero_add,qk] at this
  refine(St.start w).one.aB dV.cells.toArray λ r1 w1 s1=>⟨_,_,_,cb s1.aC 5 _ rfl,au (Oe (hI.aC s1.aC).ps hI.h1 hs.ps t) ?_⟩;rintro v w2 ⟨x,ex,rfl,k2⟩;have s2:St w w2 (Sep [held x.In,ah r1 dV.cells.toArray 107,emp]):=s1.and k2;refine⟨_,x.u,_,_,_,_,_,rfl,s2.aB dV.cells.toArray λ r2 w3 s3=>s3.aD 0 rfl x.cells rfl x.one λ w4 s4=>?_⟩;have s4:St w w4 (Sep [ah r2 x.cells.toArray 107,held x.In,ah r1 dV.cells.toArray 107,emp]):=s4;have bad:∀ {k:Int} {w' : World} {m:List aI} {i:Nat},St w w' (Sep m)->m[i]? = some (ah r1 dV.cells.toArray 107)->k≠0->e9 S.s C n y t=k ->
      aP ⟨r1,0,none⟩ 0 dV.cells w' λ w3=>∃ (n2:Int) (u1:I6) (n3:Int) (a2:OA) (l2 c2:Nat),af w3 ⟨r1,0,none⟩ 0 (iv n2 :: u1.on [iv n3,.slice a2 l2 c2]) /\
        ∃ x:Xv,(e9 S.s C n y t=0->x.er=(bD S.s.ps t).1)/\Value.tuple #[.agg (iv n2 :: u1.on [iv n3,.slice a2 l2 c2]:List Value).toArray,iv k]=.tuple #[.agg x.cells.toArray,iv (e9 S.s C n y t)]/\St w w3 (held x.In):=λ {k w' m i} s e hk0 hp =>
    s.aD i e dV.cells rfl (Xv.one _) λ w3 s3=>⟨_,z6,_,_,_,_,s3.cellsIn (cs:=dV.cells.toArray) (T:=107) i (List.getElem?_set_self (eI e)),dV,λ h=>absurd (hp.symm.trans h) hk0,by rw[hp]; rfl,((St.start' s3.aC).one.tj EH).first⟩
  by_cases h1:(bD S.s.ps t).2=0
  · have hx0:eD x=0:=by rw[<- xZ,ex]; exact AM h1
    have hz:=JG hx0;have e1:e9 S.s C n y t=if tB x (cw S.s.ps)≠0 then tB x (cw S.s.ps) else if EO S.s n y (tC x (cw S.s.ps))≠0 then EO S.s n y (tC x (cw S.s.ps)) else IQ (zH C n) (tC x (cw S.s.ps)):=by
      rw[e9,if_neg (by simpa using h1),<- ex,N5,N6]
    have s5:=s4.quiet (aF.drew w4 []);refine cF (by simpa using h1) ⟨_,x.u,_,_,_,_,s5.cellsIn 0 rfl,_,_,_,cb s5.aC 5 _ rfl,au (pK (hI.aC s5.aC).ps (by have:=hs.ps.l2; omega)) ?_⟩;rintro v w6 ⟨rfl,c6⟩;have s6:=s5.quiet c6;refine⟨_,rfl,s6.cellsIn 0 rfl,au (Ia hm hp (by omega) (s6.cr 1 rfl)) ?_⟩;rintro v w7 (⟨ho,rfl,c7⟩ | ⟨ho,hlen,a,c,rfl,k7⟩)
    · exact⟨_,_,_,_,rfl,cT (by simpa using ho) (bad (s6.quiet c7) (i:=2) rfl ho (by rw[e1,if_pos ho]))⟩
    rw[if_neg (by simpa using ho)] at e1;have s7:St w w7 (Sep [Ek a c (tC x (cw S.s.ps)),ah r2 x.cells.toArray 107,held x.In,ah r1 dV.cells.toArray 107,emp]):=s6.and k7.single;generalize hl:tC x (cw S.s.ps)=l at *;obtain⟨_,q,hq,hcy⟩:=(hI.aC s7.aC).bd n y hy;have cbud:w7.cell? (Addr.add (Addr.add q (((n:Nat):Int).toNat*4)) 2)=some (iv y.bud):=by
      have:=aU hcy 2 _ rfl
      rwa [Nat.zero_add] at this
    refine⟨_,_,_,_,rfl,cF rfl ⟨_,_,_,cb s7.aC 6 _ rfl,aq hq ⟨by omega,by omega,_,cbud,?_⟩⟩⟩;refine⟨λ i w8 m=>∃ k:Nat,i=k/\k<=l.length/\m=l.length-k/\(∀ o∈l.take k,jD S.s n y o.want=0/\¬ (y.bud≠0/\y.bud<o.v))/\St w w8 (Sep [Ek a c l,ah r2 x.cells.toArray 107,held x.In,ah r1 dV.cells.toArray 107,emp]),⟨l.length,0,rfl,by omega,by omega,by simp,s7⟩,?_⟩;rintro w8 m i ⟨k,rfl,hk8,hm8,hall,s8⟩ -
    by_cases hlt:(k:Int)<(l.length:Int)
    · have hxk:l[k]? = some (l[k]'(by omega)):=gE (by omega);generalize l[k]'(by omega)=o at hxk;obtain⟨q2,hq2,hc2⟩:=(St.rd Of.len s8).at hxk;have eo:=Q5 hall hxk;refine cT (dT hlt) (aq hq2 ⟨by omega,by omega,_,o.want,_,hc2,s8.aB TI.cells.toArray λ r3 w9 s9=>s9.aD 0 rfl o.cells rfl o.one λ w10 s10=>?_⟩);have s11:=s10.quiet (aF.drew w10 []);have hset:af w10.drew ⟨b,5,none⟩ 0 S.s.arr.toList:=bz _ 0 λ j v hj=>by
        rw[aV,Nat.zero_add];refine cb s11.aC (5+j) v ?_;have hj4:j<4:=(List.getElem?_eq_some_iff.1 hj).1
        match j,hj4 with
        | 0,_ | 1,_ | 2,_ | 3,_=>exact hj
      refine⟨_,_,_,_,_,_,_,_,_,_,_,_,hset,o.want,s11.aM 0 1 rfl rfl,au (z8 (hI.aC s11.aC) hs hy o.want) ?_⟩;rintro v w12 ⟨rfl,c12⟩;have s12:=s11.quiet c12;refine⟨_,rfl,?_⟩
      by_cases ha:jD S.s n y o.want=0
      · rw[if_neg (by simpa using ha)] at eo;refine cF (by simpa using ha) ⟨λ bb w13=>bb=decide (y.bud≠0/\y.bud<o.v)/\St w w13 (Sep [Ek a c l,ah r2 x.cells.toArray 107,held x.In,ah r1 dV.cells.toArray 107,emp]),?_,?_⟩
        · rintro w13 bb ⟨rfl,s13⟩ x2
          by_cases hbud:y.bud≠0/\y.bud<o.v
          · rw[if_pos hbud] at eo;exact cT (dT hbud) (bad s13 (i:=3) rfl (by decide) (by rw[e1,eo]; rfl))
          · refine cF (dF hbud) ⟨l.length-(k+1),by omega,k+1,aG ⟨by omega,by omega⟩,by omega,rfl,λ o' ho'=>?_,s13⟩;rw[aO hxk] at ho';rcases List.mem_append.1 ho' with h | h
            · exact hall o' h
            · rw[List.mem_singleton.1 h]; exact⟨ha,hbud⟩
        · by_cases hb0:y.bud=0
          · exact cF (by simpa using hb0) ⟨by rw[dF λ h=>h.1 hb0],s12.aA [1,2,3,4,5]⟩
          · refine cT (by simpa using hb0) ⟨_,s12.ag 0 rfl 7,?_,s12.aA [1,2,3,4,5]⟩
            by_cases hv:y.bud<o.v
            · rw[dT hv,dT ⟨hb0,hv⟩]
            · rw[dF hv,dF λ h=>hv h.2]
      · rw[if_pos ha] at eo;exact cT (by simpa using ha) (bad s12 (i:=4) rfl ha (by rw[e1,eo,if_pos ha]))
    · obtain rfl:k=l.length:=by omega
      rw[List.take_length] at hall;have e0:EO S.s n y l=0:=by rw[yN l l.length (by rw[List.take_length]; exact hall),List.drop_length]; rfl
      rw[e0,if_neg (by decide)] at e1;refine cF (dF hlt) ⟨_,(cb s8.aC 9 _ rfl).trans (by rw[hk]),au (Ah (hK.aC s8.aC) hC hn) ?_⟩;rintro v w9 ⟨a4,c4,rfl,k9⟩;have rl:=(St.rd Of.len s8).aC k9.aC;have rch:EJ w9 a4 (zH C n):=St.rd Ch.len k9.one;have s9:=s8.quiet k9.aC;refine⟨_,_,_,rfl,au (FN rch (by unfold zH; rw[List.length_map]; have:=hC.cl; omega) (Pc hC) rl (by omega)) ?_⟩;rintro v w10 ⟨⟨i,rfl⟩,c10⟩;have s10:=s9.quiet c10;refine⟨_,_,rfl,_,x.u,_,_,_,_,s10.cellsIn 1 rfl,s10.aD 3 rfl x.cells rfl x.one λ w11 s11=>⟨_,x.u,_,_,_,_,s11.cellsIn 3 rfl,x,λ _=>ex,by rw[e1]; rfl,?_⟩⟩;exact(s11.aA [2]).single
  · exact cT (by simpa using h1) (bad s4 (i:=2) rfl h1 (by rw[e9,if_pos h1]))
def ql(S:Sx)(n:Nat)(x:Xv):Sx:={ S with bd:=S.bd.set n { S.bd.getD n cv with x:=x,has:=true } }
section
variable {w0 w:World} {b g n:Nat} {S:Sx} {C:Ck} {B:aI} {y:Br}
theorem MH{k:List Nat}{l:List aI}(s:St w0 w (Sep l))(e:aA k l=eY g C):C.Rd g w:=(by have:=s.aA k; rw[e] at this; exact this:St w0 w (Sep (eY g C))).imp yb
theorem RA{Q:World->Prop}(hQ:∀ w,Q w->S.s.In w)(s:St w0 w (Sep (dJ b S g C++[held Q,B])))(h:S.bd.length=8)(hk:S.k=some ⟨g,0,none⟩)(hC:C.Ok)(hs:S.s.Ok){e:Ev}(he:e.bidder=n)(hn:n<C.s.bd.length)(hy:S.s.bd[n]? = some y) :
    CP 71 #[.pointer (some ⟨b,0,none⟩),e.v] w (λ r w'=>r=iv (e9 S.s C n y e.text)/\(e9 S.s C n y e.text≠0->St w0 w' (Sep (dJ b S g C++[held Q,B])))/\(e9 S.s C n y e.text=0->∃ x:Xv,x.er=(bD S.s.ps e.text).1/\St w0 w' (Sep (dJ b (ql S n x) g C++[held Q,held x.In,B])))):=by
  refine rU (u1:=e.want) ?_;unfold nu;have hn':=(List.getElem?_eq_some_iff.1 hy).1;have z2:=hs.bd.l2;have hn8:n<8:=by omega
  have hyb:S.bd[n]? = some (S.bd.getD n cv):=by rw[List.getD_eq_getElem?_getD,gE (by omega)]; rfl
  have hsz:S.cells.toArray.size=101:=by simpa using Sx.len h
  refine s.aB e.cells.toArray λ r1 w1 s1=>?_;have s1:St w0 w1 (Sep (ah r1 e.cells.toArray 45 :: ah b S.cells.toArray 112 :: (eY g C++[held Q,B]))):=s1;have c1:w1.cell? ⟨r1,1,none⟩=some (iv n):=by rw[<- he]; exact s1.ag 0 rfl 1
  have rdK:C.Rd g w1:=MH (k:=[2,3,4,5,6,7]) s1 rfl;refine⟨_,c1,_,s1.ag 0 rfl 9,au (I2 (s1.cellsIn 1 rfl) (hQ _ (s1.cr 8 rfl)) hk rdK hC hs hn hy e.text) ?_⟩;rintro v w2 ⟨x,ex,rfl,k2⟩;have s2:St w0 w2 (Sep (held x.In :: ah r1 e.cells.toArray 45 :: ah b S.cells.toArray 112 :: (eY g C++[held Q,B]))):=s1.and k2;refine⟨_,x.u,_,_,_,_,_,rfl,s2.aB dV.cells.toArray λ r2 w3 s3=>s3.aD 0 rfl x.cells rfl x.one λ w4 s4=>?_⟩;have s4:St w0 w4 (Sep (ah r2 x.cells.toArray 107 :: held x.In :: ah r1 e.cells.toArray 45 :: ah b S.cells.toArray 112 :: (eY g C++[held Q,B]))):=s4
  by_cases h0:e9 S.s C n y e.text=0
  · refine⟨λ w5=>St w0 w5 (Sep (dJ b (ql S n x) g C++[held Q,held x.In,B])),λ w5 s5 _=>⟨rfl,λ h=>absurd h0 h,λ _=>⟨x,ex h0,s5⟩⟩,?_⟩;have s5:=s4.quiet (aF.drew w4 []);have c5:w4.drew.cell? ⟨r1,1,none⟩=some (iv n):=by rw[<- he]; exact s5.ag 2 rfl 1
    refine cT (by simpa using h0) ⟨_,c5,_,c5,_,x.u,_,_,_,_,s5.cellsIn 0 rfl,by omega,by omega,?_⟩;rw[Sk];let S1:Sx:={ S with bd:=S.bd.set n { S.bd.getD n cv with x:=x } };refine s5.pn 3 (10+n*11) rfl (vs:=x.cells) S1.cells.toArray (by rw[hsz,Xv.len]; omega) (Xv.one _) (by rw[Xv.len]; exact congrArg List.toArray (HD h hn8 hyb x)) λ w6 s6=>?_;have h1:S1.bd.length=8:=by simpa[S1] using h
    have hy1:S1.bd[n]? = some { S.bd.getD n cv with x:=x }:=by
      show(S.bd.set n _)[n]? = _;rw[List.getElem?_set_self (by omega)]
    have hsz1:S1.cells.toArray.size=101:=by simpa using Sx.len h1
    have s6:St w0 w6 (Sep (ah r2 x.cells.toArray 107 :: held x.In :: ah r1 e.cells.toArray 45 :: ah b S1.cells.toArray 112 :: (eY g C++[held Q,B]))):=s6;have c6:w6.cell? ⟨r1,1,none⟩=some (iv n):=by rw[<- he]; exact s6.ag 2 rfl 1
    refine⟨c6,by omega,by omega,?_⟩;rw[aV];refine s6.aJ 3 rfl (j:=10+n*11+9) (by rw[hsz1]; omega) rfl λ w7 s7=>?_;have e1:=HC h1 hn8 hy1 true;have e2:({ S1 with bd:=S1.bd.set n { ({ S.bd.getD n cv with x:=x }:Bd) with has:=true } }:Sx)=ql S n x:=by
      show({ S with bd:=(S.bd.set n _).set n _ }:Sx)=_;rw[List.set_set]; rfl
    rw[e2] at e1;rw[e1] at s7;exact s7.aA [3,4,5,6,7,8,9,10,1,11]
  · refine⟨λ w5=>St w0 w5 (Sep (dJ b S g C++[held Q,B])),λ w5 s5 _=>⟨rfl,λ _=>s5,λ h=>absurd h h0⟩,cF (by simpa using h0) (s4.aA [3,4,5,6,7,8,9,10,11])⟩
end
structure Ck.Inv (C:Ck):Prop where
  ok:C.Ok
  n30:C.ov=false->C.cl.length<30
section
variable {C C' : Ck}
theorem Rn.Sz.er{x:Rn}{n:Nat}:x.er.Sz n<->x.Sz n:=⟨λ h=>⟨h.ask,h.got,h.bd⟩,λ h=>⟨h.ask,h.got,h.bd⟩⟩
theorem Ck.Inv.U6(h:C.Inv):C.er.Inv:=by
  obtain⟨⟨s,o,cl,cz,cp,ca,cg,p,ask,bd,dp,asked⟩,n30⟩:=h;have mm:∀ {x:Rn},x∈C.er.cl->∃ y∈C.cl,y.er=x:=λ hx=>List.mem_map.1 hx;have hl:C.er.cl.length=C.cl.length:=List.length_map _;refine⟨⟨⟨s.ps,s.bd,s.cp,s.sa⟩,o,by rw[hl]; exact cl,λ x hx=>?_,λ x hx=>?_,λ x hx=>?_,λ x hx=>?_,p,ask,bd,dp,asked⟩,λ h=>by rw[hl]; exact n30 h⟩
  · obtain⟨y,hy,rfl⟩:=mm hx; exact Rn.Sz.er.2 (cz y hy)
  · obtain⟨y,hy,rfl⟩:=mm hx; exact cp y hy
  · obtain⟨y,hy,rfl⟩:=mm hx; exact ca y hy
  · obtain⟨y,hy,rfl⟩:=mm hx; exact cg y hy
theorem Ck.Inv.UT(h:C.er.Inv):C.Inv:=by
  obtain⟨⟨s,o,cl,cz,cp,ca,cg,p,ask,bd,dp,asked⟩,n30⟩:=h;have mm:∀ {x:Rn},x∈C.cl->x.er∈C.er.cl:=λ hx=>List.mem_map_of_mem hx;have hl:C.er.cl.length=C.cl.length:=List.length_map _;rw[hl] at cl n30;exact⟨⟨⟨s.ps,s.bd,s.cp,s.sa⟩,o,cl,λ x hx=>Rn.Sz.er.1 (cz _ (mm hx)),λ x hx=>cp x.er (mm hx),λ x hx=>ca x.er (mm hx),λ x hx=>cg x.er (mm hx),p,ask,bd,dp,asked⟩,n30⟩
theorem Ck.Inv.er(h:C.Inv)(e:C'.er=C.er):C'.Inv:=Ck.Inv.UT (e▸h.U6)
theorem Pb(C:Ck)(n:Nat):zH C.er n=zH C n:=by
  show(C.cl.map Rn.er).map _=_;rw[List.map_map]; rfl
theorem Oh(C:Ck):iz C.er=iz C:=by
  show gS C.dp 0 (((C.cl.map Rn.er).getLast?.map Rn.got).getD [])=_;rw[List.getLast?_map,Option.map_map]; rfl
theorem Fp(C:Ck):C.er.cl.length=C.cl.length:=List.length_map _
theorem Kj(C:Ck):oJ C.er=oJ C:=by
  unfold oJ;rw[Fp,Oh]; rfl
theorem JX(C:Ck):wJ C.er=wJ C:=by unfold wJ; rw[Kj]; rfl
theorem KN(C:Ck):nR C.er=nR C:=by unfold nR; rw[JX]; rfl
theorem GU(C:Ck):dR C.er=dR C:=by unfold dR; rw[JX,KN,Fp]
theorem Tc(C:Ck):(Lf C.er).er=(Lf C).er:=by
  show({ p:=_,ask:=_,got:=oJ C.er,bd:=_,xa:=_,xc:=_,ga:=_,gc:=_,ba:=_,bc:=_ }:Rn)=_;rw[Kj]; rfl
theorem Gy(C:Ck):C.er.er=C.er:=by
  show({ C.er with cl:=(C.cl.map Rn.er).map Rn.er }:Ck)=_;rw[List.map_map]; rfl
theorem JI(C:Ck):(fy C.er).er=(fy C).er:=by
  have e1:(fy C.er).cl.map Rn.er=(fy C).cl.map Rn.er:=by
    show((C.cl.map Rn.er)++[Lf C.er]).map Rn.er=(C.cl++[Lf C]).map Rn.er;rw[List.map_append,List.map_append,List.map_map,List.map_singleton,List.map_singleton,Tc]; rfl
  show({ s:=_,o:=_,cl:=(fy C.er).cl.map Rn.er,p:=if dR C.er then C.p else (nR C.er).1,ask:=_,bd:=_,dp:=_,ov:=dR C.er,ka:=_,kc:=_,xa:=_,xc:=_,ya:=_,yc:=_,za:=_,zc:=_ }:Ck)=_;rw[e1,GU,KN]; rfl
theorem OP(C:Ck):(tY C.er).er=(tY C).er:=by
  show({ s:=_,o:=_,cl:=(C.cl.map Rn.er).map Rn.er,p:=_,ask:=_,bd:=_,dp:=_,ov:=_,ka:=_,kc:=_,xa:=_,xc:=_,ya:=_,yc:=_,za:=_,zc:=_ }:Ck)=_;rw[List.map_map]; rfl
theorem JM(C:Ck)(n:Nat):(jS C.er n).er=(jS C n).er:=by
  show({ s:=_,o:=_,cl:=(C.cl.map Rn.er).map Rn.er,p:=_,ask:=_,bd:=_,dp:=_,ov:=_,ka:=_,kc:=_,xa:=_,xc:=_,ya:=_,yc:=_,za:=_,zc:=_ }:Ck)=_;rw[List.map_map]; rfl
theorem Mx(C:Ck)(n:Nat)(u:I6):(rz C.er n u).er=(rz C n u).er:=by
  show({ s:=_,o:=_,cl:=(C.cl.map Rn.er).map Rn.er,p:=_,ask:=_,bd:=_,dp:=_,ov:=_,ka:=_,kc:=_,xa:=_,xc:=_,ya:=_,yc:=_,za:=_,zc:=_ }:Ck)=_;rw[List.map_map]; rfl
theorem IS(C:Ck)(r:Int):ct C.er r=ct C r:=by unfold ct; rw[Fp]; rfl
theorem Lb(C:Ck)(r:Nat):(eK C.er r).er=(eK C r).er:=by
  unfold eK;have e:C.er.cl[r]? = (C.cl[r]?).map Rn.er:=List.getElem?_map ..;rw[e]
  cases C.cl[r]? with
  | none =>
    show({ s:=_,o:=_,cl:=(C.cl.map Rn.er).map Rn.er,p:=_,ask:=_,bd:=_,dp:=_,ov:=_,ka:=_,kc:=_,xa:=_,xc:=_,ya:=_,yc:=_,za:=_,zc:=_ }:Ck)=_;rw[List.map_map]; rfl
  | some x =>
    show({ s:=_,o:=_,cl:=(((C.cl.map Rn.er).take r).map Rn.er),p:=_,ask:=_,bd:=_,dp:=_,ov:=_,ka:=_,kc:=_,xa:=_,xc:=_,ya:=_,yc:=_,za:=_,zc:=_ }:Ck)=_;rw[<- List.map_take,List.map_map]; rfl
theorem Mw(C:Ck)(n:Nat)(y:Br)(u:I6):kI C.er n y u=kI C n y u:=by
  unfold kI;rw[Pb]; rfl
theorem KS(S:Se)(C:Ck)(n:Nat)(y:Br)(t:List UInt8):e9 S.er C.er n y t=e9 S C n y t:=by
  unfold e9;rw[Pb];have:∀ l:List Of,EO S.er n y l=EO S n y l:=λ l=>by
    induction l with
    | nil=>rfl
    | cons o l ih=>rw[EO,EO,ih]; rfl
  rw[this]; rfl
theorem KI{S:Se}{o:Po}(hs:S.Ok)(ho:o.ok):(lq S o).Inv:=⟨NX hs ho,λ _=>by show([]:List Rn).length<30; decide⟩
theorem JB(h:C.Inv){n:Nat}{y:Br}{u:I6}(hb:kI C n y u=0):(rz C n u).Inv:=by
  have hu:I6.Le u 4:=by
    unfold kI at hb
    split at hb
    · cases hb
    · split at hb
      · rename_i h1; exact absurd hb h1
      · rename_i h1;have h2:jD C.s n y u=0:=by simpa using h1
        unfold jD at h2
        split at h2
        · rename_i h3; exact Jm h3
        · cases h2
  obtain⟨⟨s,o,cl,cz,cp,ca,cg,p,ask,bd,dp,asked⟩,n30⟩:=h;refine⟨⟨s,o,cl,cz,cp,ca,cg,p,by simpa[rz] using ask,by simpa[rz] using bd,dp,λ v hv=>?_⟩,n30⟩;rcases List.mem_or_eq_of_mem_set hv with hv | rfl
  · exact asked v hv
  · exact hu
theorem H7(h:C.Inv)(n:Nat):(jS C n).Inv:=by
  obtain⟨⟨s,o,cl,cz,cp,ca,cg,p,ask,bd,dp,asked⟩,n30⟩:=h;refine⟨⟨s,o,cl,cz,cp,ca,cg,p,by simpa[jS] using ask,by simpa[jS] using bd,by simpa[jS] using dp,λ v hv=>?_⟩,n30⟩;rcases List.mem_or_eq_of_mem_set hv with hv | rfl
  · exact asked v hv
  · exact L8 (by omega)
theorem Rx{n:Nat}:∀ u∈List.replicate n z6,I6.Le u 4:=λ u hu=>by rw[List.eq_of_mem_replicate hu]; exact L8 (by omega)
theorem BC(h:C.Ok):(fY C).Ok:=by
  obtain⟨s,o,cl,cz,cp,ca,cg,p,ask,bd,dp,asked⟩:=h;exact⟨s,o,cl,cz,cp,ca,cg,p,by simpa[fY] using dp,by simpa[fY] using dp,dp,Rx⟩
theorem I3(h:C.Inv):(tY C).Inv:=by
  obtain⟨s,o,cl,cz,cp,ca,cg,p,ask,bd,dp,asked⟩:=BC h.ok;exact⟨⟨s,o,cl,cz,cp,ca,cg,p,ask,bd,dp,asked⟩,λ h=>by cases h⟩
theorem FO(h:C.Inv){r:Int}(hr:ct C r=false):(eK C r.toNat).Inv:=by
  have hr' : 0<=r/\r<=C.cl.length/\(r=C.cl.length->C.ov=false):=by
    unfold ct at hr;simp only[Bool.or_eq_false_iff,decide_eq_false_iff_not,Bool.and_eq_false_iff,beq_eq_false_iff_ne] at hr;obtain⟨⟨h1,h2⟩,h3⟩:=hr;refine⟨by omega,by omega,λ e=>?_⟩;rcases h3 with h3 | h3
    · exact absurd e h3
    · exact h3
  have k:=BC h.ok;obtain⟨s,o,cl,cz,cp,ca,cg,p,ask,bd,dp,asked⟩:=k;have hl:=h.ok.cl;unfold eK
  cases hx:C.cl[r.toNat]? with
  | some x =>
    have hm:=List.mem_of_getElem? hx;have hlt:=(List.getElem?_eq_some_iff.1 hx).1;refine⟨⟨s,o,?_,λ y hy=>cz y (List.mem_of_mem_take hy),λ y hy=>cp y (List.mem_of_mem_take hy),λ y hy=>ca y (List.mem_of_mem_take hy),λ y hy=>cg y (List.mem_of_mem_take hy),cp x hm,ask,bd,dp,asked⟩,λ _=>?_⟩
    · show(C.cl.take r.toNat).length<=30;rw[List.length_take]; omega
    · show(C.cl.take r.toNat).length<30;rw[List.length_take]; omega
  | none =>
    have hge:C.cl.length<=r.toNat:=List.getElem?_eq_none_iff.1 hx;have e:r=C.cl.length:=by omega
    exact⟨⟨s,o,cl,cz,cp,ca,cg,p,ask,bd,dp,asked⟩,λ _=>h.n30 (hr'.2.2 e)⟩
theorem Ft{o:Po}{p ex:I6}(hp:nS p=true)(h:(vT o p ex).2=0):nS (vT o p ex).1=true:=by
  unfold vT at h ⊢
  split
  · rename_i g; rw[if_pos g] at h; cases h
  · rename_i g;show nS (bK o p ex)=true
    by_cases e:bK o p ex=p
    · rw[e]; exact hp
    · cases hv:nS (bK o p ex) with
      | true=>rfl
      | false=>exact absurd ⟨e,hv⟩ g
theorem E3(h:C.Inv)(hov:C.ov=false):(fy C).Inv:=by
  have h30:=h.n30 hov;have hg:=Kk h.ok;have hk:=h.ok;obtain⟨s,o,cl,cz,cp,ca,cg,p,ask,bd,dp,asked⟩:=BC h.ok;have mm:∀ {Q:Rn->Prop},(∀ x∈C.cl,Q x)->Q (Lf C)->∀ x∈(fy C).cl,Q x:=λ h1 h2 x hx=>by
    rcases List.mem_append.1 hx with hx | hx
    · exact h1 x hx
    · rw[List.mem_singleton.1 hx]; exact h2
  refine⟨⟨s,o,?_,mm cz ⟨hk.ask,hg.1,hk.bd⟩,mm cp hk.p,mm ca hk.asked,mm cg hg.2,?_,ask,bd,dp,asked⟩,λ hl=>?_⟩
  · show(C.cl++[Lf C]).length<=30;rw[List.length_append,List.length_singleton]; omega
  · show nS (if dR C then C.p else (nR C).1)=true
    split
    · exact hk.p
    · rename_i hl;refine Ft hk.p ?_;have hl:dR C=false:=by simpa using hl
      unfold dR at hl;simp only[Bool.or_eq_false_iff] at hl;have h2:(nR C).2=0:=by simpa using hl.2.2
      exact h2
  · have hl:dR C=false:=hl;unfold dR at hl;simp only[Bool.or_eq_false_iff,decide_eq_false_iff_not] at hl;show(C.cl++[Lf C]).length<30;rw[List.length_append,List.length_singleton]; omega
end
theorem Tx{S:Sx}(h:S.bd.length=8)(k:OA):S.cells.toArray.setIfInBounds 9 (.pointer k)=({ S with k:=k }:Sx).cells.toArray:=by
  obtain⟨o,ph,s,k0,bd,dec,cnt,dig⟩:=S;obtain⟨b0,b1,b2,b3,b4,b5,b6,b7,rfl⟩:=bQ h;rfl
theorem RX(S:Sx)(S' : Se):(S.cells.toArray.toList.take 5++S'.arr.toList++S.cells.toArray.toList.drop (5+S'.arr.toList.length)).toArray=({ S with s:=S' }:Sx).cells.toArray:=rfl
def nh(o:Po)(t:List UInt8):Int:=if oV o≠0 then oV o else uV t
section
variable {w0 w:World} {b:Nat} {S:Sx} {B:aI}
theorem OJ(s:St w0 w (Sep [ah b S.cells.toArray 112,B]))(h:S.bd.length=8){e:Ev}(ht:e.text.length<=80000) :
    CP 68 #[.pointer (some ⟨b,0,none⟩),e.v] w (λ r w'=>r=iv (nh S.o e.text)/\(nh S.o e.text≠0->St w0 w' (Sep [ah b S.cells.toArray 112,B]))/\(nh S.o e.text=0->∃ (S' : Se) (g:Nat) (C:Ck),S'.er=(uW e.text).er/\S'.Ok/\S.o.ok/\C.er=(lq S' S.o).er/\St w0 w' (Sep (dJ b { S with ph:=1,s:=S',k:=some ⟨g,0,none⟩ } g C++[held S'.In,B])))):=by
  refine qF (u1:=e.want) ?_;unfold lJ;refine s.aB e.cells.toArray λ r1 w1 s1=>?_;refine⟨_,_,_,_,s1.aM (vs:=S.o.cells) 1 0 rfl rfl,au (uT w1 S.o) ?_⟩;rintro v w2 ⟨rfl,c2⟩;have s2:=s1.quiet c2;refine⟨_,rfl,?_⟩
  by_cases h1:oV S.o=0
  · have e1:nh S.o e.text=uV e.text:=by rw[nh,if_neg (λ h=>h h1)]
    refine cF (by simpa using h1) ⟨_,s2.ag 0 rfl 9,au (Lw w2 e.text ht) ?_⟩;rintro v w3 ⟨S',i,rfl,k3,hok⟩;have s3:St w0 w3 (Sep [held S'.In,ah r1 e.cells.toArray 45,ah b S.cells.toArray 112,B]):=s2.and k3;refine⟨_,_,_,_,_,_,_,_,_,_,_,_,_,_,rfl,s3.aB fo.arr λ r2 w4 s4=>s4.aD 0 rfl S'.arr.toList rfl (by simp[Se.arr,Value.oneCell']) λ w5 s5=>?_⟩;have s5:St w0 w5 (Sep [ah r2 S'.arr 68,held S'.In,ah r1 e.cells.toArray 45,ah b S.cells.toArray 112,B]):=s5
    by_cases h2:uV e.text=0
    · obtain⟨eS,hS⟩:=hok h2;have ho:S.o.ok:=by
        unfold oV at h1
        by_cases g:S.o.ok
        · exact g
        · rw[if_neg g] at h1; cases h1
      have s6:=s5.quiet (aF.drew w5 []);refine cF (by simpa using h2) ⟨_,_,_,_,_,_,_,_,_,_,_,_,s6.cellsIn (cs:=S'.arr) 0 rfl,_,_,_,_,s6.aM (vs:=S.o.cells) 3 0 rfl rfl,au (S0 (s6.cr 1 rfl) hS ho) ?_⟩;rintro v w7 ⟨g,C,eC,rfl,k7⟩;have s7:St w0 w7 (Sep (eY g C++[ah r2 S'.arr 68,held S'.In,ah r1 e.cells.toArray 45,ah b S.cells.toArray 112,B])):=St.cat (s6.and k7);refine⟨_,_,rfl,cF rfl ⟨_,_,_,_,_,_,_,_,_,_,_,_,s7.cellsIn (cs:=S'.arr) 6 rfl,?_⟩⟩;have hsz:S.cells.toArray.size=101:=dO h;refine s7.pn 9 5 rfl (vs:=S'.arr.toList) ({ S with s:=S' }:Sx).cells.toArray (by rw[hsz]; show 9<=101; decide) (by simp[Se.arr,Value.oneCell']) (RX S S') λ w8 s8=>?_;have h1' : ({ S with s:=S' }:Sx).bd.length=8:=h;refine s8.aJ 9 rfl (j:=9) (by show 9<({ S with s:=S' }:Sx).cells.toArray.size; rw[dO h1']; decide) rfl λ w9 s9=>?_;rw[Tx h1'] at s9;have h2' : ({ S with s:=S',k:=some ⟨g,0,none⟩ }:Sx).bd.length=8:=h;refine s9.aJ 9 rfl (j:=4) (by show 4<({ S with s:=S',k:=some ⟨g,0,none⟩ }:Sx).cells.toArray.size; rw[dO h2']; decide) rfl λ w10 s10=>?_;rw[Ex h2'] at s10;refine⟨by rw[e1,h2],λ h=>absurd (e1.trans h2) h,λ _=>⟨S',g,C,eS,hS,ho,eC,?_⟩⟩;exact s10.aA [9,0,1,2,3,4,5,7,10]
    · exact cT (by simpa using h2) ⟨by rw[e1],λ _=>s5.aA [3,4],λ h=>absurd (e1.symm.trans h) h2⟩
  · exact cT (by simpa using h1) ⟨by rw[nh,if_pos h1],λ _=>s2.second,λ h=>absurd h (by rw[nh,if_pos h1]; exact h1)⟩
end
def fj(k:Int):FuncId:=if k=1 then 68 else if k=2 then 69 else if k=3\/k=4 then 70 else if k=5 then 71
  else if k=6 then 72 else if k=7 then 73 else if k=8 then 74 else 75
theorem JN(w:World)(b:Nat)(k:Int):CP 40 #[.pointer (some ⟨b,0,none⟩),iv k] w (λ r w'=>r=.func (.func (fj k)) #[] #[]/\w' = w):=by
  refine nY ?_;unfold jy
  by_cases h1:k=1
  · exact cT (by simpa using h1) ⟨by rw[fj,if_pos h1],rfl⟩
  refine cF (by simpa using h1) ?_
  by_cases h2:k=2
  · exact cT (by simpa using h2) ⟨by rw[fj,if_neg h1,if_pos h2],rfl⟩
  refine cF (by simpa using h2) ⟨λ b w1=>b=decide (k=3\/k=4)/\w1=w,?_,?_⟩
  · rintro w1 _ ⟨rfl,rfl⟩ -
    by_cases h3:k=3\/k=4
    · exact cT (dT h3) ⟨by rw[fj,if_neg h1,if_neg h2,if_pos h3],rfl⟩
    refine cF (dF h3) ?_
    by_cases h5:k=5
    · exact cT (by simpa using h5) ⟨by rw[fj,if_neg h1,if_neg h2,if_neg h3,if_pos h5],rfl⟩
    refine cF (by simpa using h5) ?_
    by_cases h6:k=6
    · exact cT (by simpa using h6) ⟨by rw[fj,if_neg h1,if_neg h2,if_neg h3,if_neg h5,if_pos h6],rfl⟩
    refine cF (by simpa using h6) ?_
    by_cases h7:k=7
    · exact cT (by simpa using h7) ⟨by rw[fj,if_neg h1,if_neg h2,if_neg h3,if_neg h5,if_neg h6,if_pos h7],rfl⟩
    refine cF (by simpa using h7) ?_
    by_cases h8:k=8
    · exact cT (by simpa using h8) ⟨by rw[fj,if_neg h1,if_neg h2,if_neg h3,if_neg h5,if_neg h6,if_neg h7,if_pos h8],rfl⟩
    · exact cF (by simpa using h8) ⟨by rw[fj,if_neg h1,if_neg h2,if_neg h3,if_neg h5,if_neg h6,if_neg h7,if_neg h8],rfl⟩
  · by_cases g3:k=3
    · exact cT (by simpa using g3) ⟨by rw[dT (Or.inl g3)]; simpa using g3,rfl⟩
    · refine cF (by simpa using g3) ⟨?_,rfl⟩
      by_cases g4:k=4
      · rw[dT (Or.inr g4)]; simpa using g4
      · rw[dF (by omega)]; simpa using g4
def Ma:Br:=⟨[],0,0,0⟩
def cO(S:Sx)(C:Ck)(e:Ev):Int :=
  if e.kind=1 then nh S.o e.text
  else if e.kind=2 then kI C e.bidder.toNat (C.s.bd.getD e.bidder.toNat Ma) e.want
  else if e.kind=3\/e.kind=4 then (if C.ov then 10 else 0)
  else if e.kind=5 then e9 S.s C e.bidder.toNat (S.s.bd.getD e.bidder.toNat Ma) e.text
  else if e.kind=6 then (if (S.bd.getD e.bidder.toNat cv).has then 0 else 6)
  else if e.kind=7 then (if C.dp.getD e.bidder.toNat false then 10 else 0)
  else if e.kind=8 then (if ct C e.round then 4 else 0) else 0
def br(S:Sx)(C:Ck)(e:Ev):Sx :=
  if e.kind=1 then { S with ph:=1,s:=uW e.text }
  else if e.kind=2 then S
  else if e.kind=3 then (if dR C then { S with ph:=2 } else S)
  else if e.kind=4 then { S with ph:=2 }
  else if e.kind=5 then ql S e.bidder.toNat (bD S.s.ps e.text).1
  else if e.kind=6 then bn S e.bidder.toNat
  else if e.kind=7 then bn (fe S e.bidder.toNat) e.bidder.toNat
  else if e.kind=8 then { bE S 8 with ph:=1 } else mh S e
def cG(S:Sx)(C:Ck)(e:Ev):Ck :=
  if e.kind=1 then lq (uW e.text) S.o
  else if e.kind=2 then rz C e.bidder.toNat e.want
  else if e.kind=3 then fy C
  else if e.kind=4 then tY C
  else if e.kind=7 then jS C e.bidder.toNat
  else if e.kind=8 then eK C e.round.toNat else C
theorem L7:∀ x:Xv,x.er.er=x.er:=Xv.ind λ x ih=>by
  rw[Xv.qN x,Xv.er]
  congr 1
  rw[List.map_map];exact List.map_congr_left λ y hy=>ih y hy
def Bd.er(y:Bd):Bd:={ y with x:=y.x.er }
def Sx.er(S:Sx):Sx:={ S with s:=S.s.er,k:=none,bd:=S.bd.map Bd.er }
theorem Bq(y:Bd):y.er.er=y.er:=by show({ y with x:=y.x.er.er }:Bd)=_; rw[L7]; rfl
theorem fQ(S:Sx):S.er.er=S.er:=by
  show({ S.er with bd:=(S.bd.map Bd.er).map Bd.er }:Sx)=_;rw[List.map_map,show(Bd.er ∘ Bd.er)=Bd.er from funext Bq]; rfl
theorem L9:cv.er=cv:=by show({ cv with x:=dV.er }:Bd)=_; rw[Ga]; rfl
theorem pW(S:Sx)(n:Nat):S.er.bd.getD n cv=(S.bd.getD n cv).er:=by
  show(S.bd.map Bd.er).getD n cv=_;rw[List.getD_eq_getElem?_getD,List.getD_eq_getElem?_getD,List.getElem?_map]
  cases S.bd[n]? with
  | none=>exact L9.symm
  | some y=>rfl
theorem rI{l:List Bd}{n:Nat}{y y' : Bd}(h:y.er=y'.er):((l.map Bd.er).set n y).map Bd.er=(l.set n y').map Bd.er:=by
  rw[List.map_set,List.map_set,List.map_map,h,show(Bd.er ∘ Bd.er)=Bd.er from funext Bq]
theorem vg(S:Sx)(n:Nat):(bn S.er n).er=(bn S n).er:=by
  have:((S.bd.map Bd.er).set n (Gt (S.er.bd.getD n cv))).map Bd.er=(S.bd.set n (Gt (S.bd.getD n cv))).map Bd.er:=rI (by rw[pW]; rfl);show({ S.er with bd:=((S.bd.map Bd.er).set n (Gt (S.er.bd.getD n cv))).map Bd.er }:Sx)=_;rw[this]; rfl
theorem KY(S:Sx)(n:Nat):(fe S.er n).er=(fe S n).er:=by
  have:((S.bd.map Bd.er).set n { S.er.bd.getD n cv with out:=true }).map Bd.er=(S.bd.set n { S.bd.getD n cv with out:=true }).map Bd.er:=rI (by rw[pW]; exact Bq { S.bd.getD n cv with out:=true });show({ S.er with bd:=((S.bd.map Bd.er).set n { S.er.bd.getD n cv with out:=true }).map Bd.er }:Sx)=_;rw[this]; rfl
theorem Er{S S' : Sx}(h:S'.er=S.er)(n:Nat):(bn S' n).er=(bn S n).er:=by rw[<- vg S',h,vg]
theorem AZ{S S' : Sx}(h:S'.er=S.er):∀ k,(bE S' k).er=(bE S k).er
  | 0=>h
  | k+1=>Er (AZ h k) k
theorem Hg{S S' : Sx}(h:S'.er=S.er)(x:Int):({ S' with ph:=x }:Sx).er=({ S with ph:=x }:Sx).er:=by
  show({ S'.er with ph:=x }:Sx)={ S.er with ph:=x };rw[h]
theorem My(S:Sx)(n:Nat)(x:Xv):(ql S.er n x).er=(ql S n x).er:=by
  have:((S.bd.map Bd.er).set n { S.er.bd.getD n cv with x:=x,has:=true }).map Bd.er=(S.bd.set n { S.bd.getD n cv with x:=x,has:=true }).map Bd.er:=rI (by rw[pW]; rfl);show({ S.er with bd:=((S.bd.map Bd.er).set n { S.er.bd.getD n cv with x:=x,has:=true }).map Bd.er }:Sx)=_;rw[this]; rfl
theorem P8{S:Sx}{n:Nat}{x x' : Xv}(h:x.er=x'.er):(ql S n x).er=(ql S n x').er:=by
  have:(S.bd.set n { S.bd.getD n cv with x:=x,has:=true }).map Bd.er=(S.bd.set n { S.bd.getD n cv with x:=x',has:=true }).map Bd.er:=by
    rw[List.map_set,List.map_set]
    congr 1
    show({ S.bd.getD n cv with x:=x.er,has:=true }:Bd)={ S.bd.getD n cv with x:=x'.er,has:=true };rw[h]
  show({ S.er with bd:=(S.bd.set n { S.bd.getD n cv with x:=x,has:=true }).map Bd.er }:Sx)=_;rw[this]; rfl
theorem BF(S:Sx)(C:Ck)(e:Ev):cO S.er C.er e=cO S C e:=by
  have h1:(S.er.bd.getD e.bidder.toNat cv).has=(S.bd.getD e.bidder.toNat cv).has:=by rw[pW]; rfl
  unfold cO;rw[h1,Mw,IS];show(if _ then _ else if _ then _ else if _ then _ else if _ then e9 S.s.er C.er _ _ _ else _)=_;rw[KS]; rfl
theorem BG(S:Sx)(C:Ck)(e:Ev):(br S.er C.er e).er=(br S C e).er:=by
  unfold br;rw[GU]
  split
  · show({ S.er.er with ph:=1,s:=(uW e.text).er }:Sx)={ S.er with ph:=1,s:=(uW e.text).er };rw[fQ]
  · split
    · exact fQ S
    · split
      · split
        · exact Hg (fQ S) 2
        · exact fQ S
      · split
        · exact Hg (fQ S) 2
        · split
          · exact My S _ _
          · split
            · exact vg S _
            · split
              · exact Er (KY S _) _
              · split
                · exact Hg (AZ (fQ S) 8) 1
                · unfold mh
                  split
                  · show({ S.er.er with ph:=4,dec:=e.digest }:Sx)={ S.er with ph:=4,dec:=e.digest };rw[fQ]
                  · exact Hg (fQ S) 3
theorem BE(S:Sx)(C:Ck)(e:Ev):(cG S.er C.er e).er=(cG S C e).er:=by
  unfold cG
  split
  · rfl
  · split
    · exact Mx C _ _
    · split
      · exact JI C
      · split
        · exact OP C
        · split
          · exact JM C _
          · split
            · exact Lb C _
            · exact Gy C
end Go.Proofs.YtjpbdjhaajdepaaGreatDoor
