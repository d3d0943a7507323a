import Derived.Test.YtpddenfeaadgpaaGreatDoorF07
set_option linter.unusedVariables false
set_option maxRecDepth 100000
namespace Go.Proofs.YtpddenfeaadgpaaGreatDoor
open Go Go.Vc _root_.Go.Proofs.Tryz
def Ix(b:Br)(sup op cls u:I6)(j:Nat):Bool:=decide (u.at' j<=sup.at' j)&&decide ((kr b cls u).at' j<=op.at' j)
theorem vQ{b:Br}{sup op cls u:I6}:(∀ j,j<6->Ix b sup op cls u j=true)<->(within u sup&&within (kr b cls u) op)=true:=by
 rw[Bool.and_eq_true,within_iff,within_iff];simp only[Ix,Bool.and_eq_true,decide_eq_true_eq];exact⟨λ h=>⟨λ k hk=>(h k hk).1,λ k hk=>(h k hk).2⟩,λ h k hk=>⟨h.1 k hk,h.2 k hk⟩⟩
theorem EG{b:Br}{sup op cls u:I6}{j:Nat}(hj:j<6)(ho:0<=op.at' j):Ix b sup op cls u j = !(decide (u.at' j>sup.at' j)||(decide (cls.at' j≠0)&&(decide (cls.at' j≠b.cls)&&decide (u.at' j>op.at' j)))):=by
 have e:(kr b cls u).at' j=if cls.at' j=0\/cls.at' j=b.cls then 0 else u.at' j:=I6.fY _ _ _ _ hj
 rw[Ix,e,Bool.eq_iff_iff];simp only[Bool.and_eq_true,Bool.not_eq_true',Bool.or_eq_false_iff,Bool.and_eq_false_iff,decide_eq_true_eq,decide_eq_false_iff_not]
 by_cases g:cls.at' j=0\/cls.at' j=b.cls
 ·rw[if_pos g]; omega
 ·rw[if_neg g]; omega
set_option maxHeartbeats 1000000 in
theorem ow{w:World}{S:Se}(h:S.In w)(hs:S.Ok){n:Nat}{b:Br}(hb:S.bd[n]?=some b)(u:I6) :
  CP 43 #[.agg S.arr,iv n,.agg u.vs.toArray] w (λ r w'=>r=iv (cP S n b u)/\ax w w' []):=by
 refine tK ?_;unfold sC;have hn:=(List.getElem?_eq_some_iff.1 hb).1;have hpl:=hs.ps.l2; have hcl:=hs.cp.l1; have hbl:=hs.bd.l2;refine(St.start w).one.av S.arr λ r1 w1 s1=>s1.av u.vs.toArray λ r2 w2 s2=>⟨_,_,_,_,_,_,_,_,_,_,_,_,s2.cellsIn 1 rfl,aq (dL (h.an s2.an)) ?_⟩;rintro v w3 ⟨⟨rfl,he⟩,c3⟩;have s3:St w w3 (Sep [ah r2 u.vs.toArray 35,ah r1 S.arr 27,emp]):=s2.quiet c3;refine⟨_,rfl,cF (by rw[he.2 hs]; rfl) ⟨λ x w4=>x=false/\St w w4 (Sep [ah r2 u.vs.toArray 35,ah r1 S.arr 27,emp]),?_,cF (dF (by omega)) ⟨_,_,_,s3.ag 1 rfl 1,dF (by omega),s3⟩⟩⟩;rintro w4 x ⟨rfl,s4⟩ -;refine cF rfl ⟨u,s4.cellsIn 0 rfl,aq (u9 w4 u) ?_⟩;rintro v w5 ⟨rfl,c5⟩;have s5:=s4.quiet c5;refine⟨_,rfl,?_⟩
 cases hq:u.l.all dD with
 | false=>exact cT rfl ⟨by rw[cP,hq]; rfl,s5.an⟩
 | true =>
 refine cF rfl ⟨_,_,_,_,_,_,_,_,_,_,_,_,s5.cellsIn 1 rfl,aq (Db (h.an s5.an) hs) ?_⟩;rintro v w6 ⟨rfl,c6⟩;have hop:=Bx hs.ps hs.sa;refine⟨_,_,rfl,(s5.quiet c6).av z6.vs.toArray λ r3 w7 s7=>s7.av z6.vs.toArray λ r4 w8 s8=>s8.az 1 rfl _ rfl (I6.one _) λ w9 s9=>s9.az 0 rfl _ rfl (I6.one _) λ w10 s10=>?_⟩;refine⟨_,_,_,s10.ag 3 rfl 0,aq (gR (h.an s10.an).ps) ?_⟩;rintro v w11 ⟨rfl,c11⟩;refine⟨_,rfl,(s10.quiet c11).av z6.vs.toArray λ r5 w12 s12=>s12.az 0 rfl _ rfl (I6.one _) λ w13 s13=>?_⟩;generalize hop1:(zG S.ps S.sa).1=op at s13 hop;generalize hcls1:(zG S.ps S.sa).2=cls at s13;generalize hsup1:aG S.ps=sup at s13;have s13:St w w13 (Sep [ah r5 sup.vs.toArray 35,ah r4 cls.vs.toArray 35,ah r3 op.vs.toArray 35,ah r2 u.vs.toArray 35,ah r1 S.arr 27,emp]):=s13;have ea:cP S n b u=if (within u sup&&within (kr b cls u) op&&!S.cp.any (cZ S.ps n u))=true then 0 else 14:=by rw[cP,if_pos hq,hop1,hcls1,hsup1]
 refine⟨λ i w14 m=>∃ k:Nat,i=k/\k<=6/\m=6-k/\(∀ j,j<k->Ix b sup op cls u j=true)/\St w w14 (Sep [ah r5 sup.vs.toArray 35,ah r4 cls.vs.toArray 35,ah r3 op.vs.toArray 35,ah r2 u.vs.toArray 35,ah r1 S.arr 27,emp]),⟨6,0,rfl,by omega,by omega,λ j hj=>by omega,s13⟩,?_⟩;rintro w14 m i ⟨k,rfl,hk,hm,ha,s14⟩ -
 by_cases hlt:(k:Int)<6
 ·have hk' : k<6:=by omega
  have s15:=s14.quiet (ax.drew w14 []);have eo:=EG (b:=b) (sup:=sup) (cls:=cls) (u:=u) hk' (hop k hk');refine cT (dT hlt) ⟨λ x w15=>x = !Ix b sup op cls u k/\St w w15 (Sep [ah r5 sup.vs.toArray 35,ah r4 cls.vs.toArray 35,ah r3 op.vs.toArray 35,ah r2 u.vs.toArray 35,ah r1 S.arr 27,emp]),?_,by omega,by omega,u.at' k,by rw[bV,aB s15 3 rfl hk'],by omega,by omega,sup.at' k,by rw[bV,aB s15 0 rfl hk'],?_⟩
  ·rintro w15 x ⟨rfl,s16⟩ -
   cases hx:Ix b sup op cls u k with
   | true =>
    refine cF rfl ⟨6-(k+1),by omega,k+1,inc (by decide) hk',by omega,rfl,λ j hj=>?_,s16⟩;rcases Nat.lt_or_ge j k with h' | h'
    ·exact ha j h'
    ·obtain rfl:j=k:=by omega
     exact hx
   | false =>
    refine cT rfl ⟨?_,s16.an⟩;rw[ea,if_neg];intro hh;have:=vQ.2 (Bool.and_eq_true_iff.1 hh).1 k hk';rw[hx] at this; cases this
  rw[eo,Bool.not_not]
  by_cases g1:u.at' k>sup.at' k
  ·exact cT (dT g1) ⟨by rw[dT g1]; rfl,s15⟩
  refine cF (dF g1) ⟨by omega,by omega,cls.at' k,by rw[bV,aB s15 1 rfl hk'],?_⟩;rw[dF g1,Bool.false_or]
  by_cases g2:cls.at' k=0
  ·exact cF (by simpa using g2) ⟨by rw[dF (λ hh=>hh g2)]; rfl,s15⟩
  obtain⟨q,hq2,hc2⟩:=nL (h.an s15.an).bd hb 1 (iv b.cls) rfl;refine cT (by simpa using g2) ⟨by omega,by omega,cls.at' k,by rw[bV,aB s15 1 rfl hk'],_,_,_,s15.ag 4 rfl 1,ai hq2 ⟨by omega,by omega,b.cls,by rw[Int.toNat_natCast]; exact hc2,?_⟩⟩;rw[dT g2,Bool.true_and]
  by_cases g3:cls.at' k=b.cls
  ·exact cF (by simpa using g3) ⟨by rw[dF (λ hh=>hh g3)]; rfl,s15⟩
  exact cT (by simpa using g3) ⟨by omega,by omega,u.at' k,by rw[bV,aB s15 3 rfl hk'],by omega,by omega,op.at' k,by rw[bV,aB s15 2 rfl hk'],by rw[dT g3,Bool.true_and],s15⟩
 obtain rfl:k=6:=by omega
 have hw:=vQ.1 ha;rw[hw,Bool.true_and] at ea;refine cF (dF hlt) ⟨λ i w15 m=>∃ k:Nat,i=k/\k<=S.cp.length/\m=S.cp.length-k/\(S.cp.take k).any (cZ S.ps n u)=false/\St w w15 (Sep [ah r2 u.vs.toArray 35,ah r1 S.arr 27,emp]),⟨S.cp.length,0,rfl,by omega,by omega,rfl,s14.aA [3,4,5]⟩,?_⟩;rintro w15 m i ⟨k,rfl,hk,hm,hany,s15⟩ -;refine⟨_,_,_,s15.ag 1 rfl 2,?_⟩
 by_cases hlt:(k:Int)<(S.cp.length:Int)
 ·have hx:S.cp[k]?=some (S.cp[k]'(by omega)):=gE (by omega);generalize S.cp[k]'(by omega)=x at hx;obtain⟨q,hq2,hcl2⟩:=(h.an s15.an).cp k x hx;refine cT (dT hlt) ⟨_,_,_,s15.ag 1 rfl 2,ai hq2 ⟨by omega,by omega,_,_,_,hcl2,s15.av #[iv 0,iv 0,iv 0] λ r6 w16 s16=>s16.az 0 rfl x.cells rfl x.one λ w17 s17=>?_⟩⟩;refine⟨_,_,_,s17.ag 2 rfl 0,x.b,s17.ag 0 rfl 1,u,s17.cellsIn 1 rfl,aq (u5 (h.an s17.an).ps hs.ps hq x.b) ?_⟩;rintro v w18 ⟨rfl,c18⟩;have s18:St w w18 (Sep [ah r6 x.cells.toArray 113,ah r2 u.vs.toArray 35,ah r1 S.arr 27,emp]):=s17.quiet c18;refine⟨_,_,_,rfl,λ y w19=>y=cZ S.ps n u x/\St w w19 (Sep [ah r6 x.cells.toArray 113,ah r2 u.vs.toArray 35,ah r1 S.arr 27,emp]),?_,x.a,s18.ag 0 rfl 0,?_⟩
  ·rintro w19 y ⟨rfl,s19⟩ -
   cases hc:cZ S.ps n u x with
   | true =>
    refine cT rfl ⟨?_,s19.an⟩;rw[ea,cC hx hc]; rfl
   | false=>exact cF rfl ⟨S.cp.length-(k+1),by omega,k+1,ay ⟨by omega,by omega⟩,by omega,rfl,ck hany hx hc,s19.aA [1,2,3]⟩
  by_cases g1:x.a=-1
  ·exact cT (by simpa using g1) ⟨x.c,s18.ag 0 rfl 2,by rw[cZ,dT g1,Bool.true_or,Bool.true_and],s18⟩
  refine cF (by simpa using g1) ⟨x.a,s18.ag 0 rfl 0,?_⟩
  by_cases g2:x.a=(n:Int)
  ·exact cT (by simpa using g2) ⟨x.c,s18.ag 0 rfl 2,by rw[cZ,dT g2,Bool.or_true,Bool.true_and],s18⟩
  ·exact cF (by simpa using g2) ⟨by rw[cZ,dF g1,dF g2]; rfl,s18⟩
 ·obtain rfl:k=S.cp.length:=by omega
  rw[List.take_length] at hany;exact cF (dF hlt) ⟨by rw[ea,hany]; rfl,s15.an⟩
theorem kE{w:World}{s:Se}(n:Int):CP 82 #[.agg s.arr,iv n] w (λ r w'=>r=.bool (decide (0<=n)&&decide (n<(s.bd.length:Int)))/\ax w w' []):=by
 refine vY ?_;unfold uJ;refine(St.start w).one.av s.arr λ r1 w1 s1=>?_
 by_cases h:n>=0
 ·exact cT (dT h) ⟨_,_,_,s1.ag 0 rfl 1,by rw[dT (show 0<=n from h)]; rfl,s1.an⟩
 ·exact cF (dF h) ⟨by rw[dF (show ¬ 0<=n from h)]; rfl,s1.an⟩
theorem qg{w:World}{s:Se}(h:xe w s){n:Nat}{b:Br}(hb:s.bd[n]?=some b){c:Ch}(hc:c.Ok) :
  CP 44 #[.agg s.arr,iv n,c.v] w (λ r w'=>r=iv (gY b c)/\ax w w' []):=by
 refine pI ?_;unfold mq;have hn:=(List.getElem?_eq_some_iff.1 hb).1;refine(St.start w).one.av s.arr λ r1 w1 s1=>s1.av c.cells.toArray λ r2 w2 s2=>⟨_,_,_,_,_,_,_,_,_,_,_,_,s2.cellsIn 1 rfl,aq (kE (s:=s) n) ?_⟩;rintro v w3 ⟨rfl,c3⟩;have s3:=(s2.quiet c3).quiet (ax.drew w3 []);obtain⟨q,hq,hcl⟩:=nL ((h.an s3.an).i.bd) hb 2 _ rfl;refine⟨_,rfl,cF (by simp; omega) ⟨λ g w4=>g=decide (b.bud≠0/\b.bud<cost c.p c.want)/\ax w w4 [],?_,_,_,_,s3.ag 1 rfl 1,ai hq ⟨by omega,by omega,_,by rw[Int.toNat_natCast]; exact hcl,?_⟩⟩⟩
 ·rintro w4 g ⟨rfl,c4⟩ -
  by_cases hg:b.bud≠0/\b.bud<cost c.p c.want
  ·exact cT (dT hg) ⟨by rw[gY,if_pos hg],c4⟩
  ·exact cF (dF hg) ⟨by rw[gY,if_neg hg],c4⟩
 ·by_cases h0:b.bud=0
  ·exact cF (by simp[h0]) ⟨by simp[h0],s3.an⟩
  ·refine cT (by simpa using h0) ⟨_,_,_,s3.ag 1 rfl 1,ai hq ⟨by omega,by omega,_,by rw[Int.toNat_natCast]; exact hcl,_,mO s3 0 rfl,_,bz s3 0 rfl,aq (pO _ hc.p hc.w) ?_⟩⟩;rintro v w5 ⟨rfl,c5⟩;exact⟨_,rfl,by rw[Int.toNat_natCast]; exact br hcl c5,(s3.quiet c5).ag 1 rfl 1,by simp[h0],(s3.quiet c5).an⟩
structure HS (S:Se) (L:List Lx):Prop where
 ps:S.ps.length<=3
 bd:S.bd.length<=4
 cp:S.cp.length<=10
 sa:S.sa.length<=6
 n:L.length<=6
 l:∀ x∈L,x.l.length<=10
theorem kF{w:World}{S:Se}(h:S.In w){a:OA}{c:Nat}{L:List Lx}(hL:bU 1 Lx.cells w a L) :
  CP 8 #[.agg S.arr,.slice a L.length c] w (λ r w'=>(∃ b,r=.bool b/\(b=true->HS S L))/\ax w w' []):=by
 refine CZ ?_;unfold E0;refine(St.start w).one.av S.arr λ r1 w1 s1=>?_;have s1:St w w1 (Sep [ah r1 S.arr 27,emp]):=s1;refine⟨λ b w2=>(b=false->S.ps.length<=3/\S.bd.length<=4/\S.cp.length<=10/\S.sa.length<=6/\L.length<=6)/\ax w w2 [],?_,?_⟩
 ·rintro w2 b ⟨hb,c2⟩ -
  cases b with
  | true=>exact cT rfl ⟨⟨false,rfl,λ h=>by cases h⟩,c2⟩
  | false =>
  obtain⟨f1,f2,f3,f4,f5⟩:=hb rfl;refine cF rfl ⟨λ i w3 m=>∃ k:Nat,i=k/\k<=L.length/\m=L.length-k/\(∀ x∈L.take k,x.l.length<=10)/\w3=w2,⟨L.length,0,rfl,by omega,by omega,λ x hx=>by simp at hx,rfl⟩,?_⟩;rintro w3 m i ⟨k,rfl,hk,hm,ha,rfl⟩ -
  by_cases hlt:(k:Int)<(L.length:Int)
  ·have hx:L[k]?=some (L[k]'(by omega)):=gE (by omega);generalize L[k]'(by omega)=x at hx;obtain⟨q,hq,hc⟩:=(hL.an c2).at hx;refine cT (dT hlt) (ai hq ⟨by omega,by omega,x.a,x.l.length,x.c,by rw[Int.toNat_natCast]; exact hc.1,?_⟩)
   by_cases g:x.l.length<=10
   ·refine cF (dF (by omega)) ⟨L.length-(k+1),by omega,k+1,ay ⟨by omega,by omega⟩,by omega,rfl,λ y hy=>?_,rfl⟩;rw[aQ hx] at hy;rcases List.mem_append.1 hy with h|h
    ·exact ha y h
    ·cases List.mem_singleton.1 h; exact g
   ·exact cT (dT (by omega)) ⟨⟨false,rfl,λ h=>by cases h⟩,c2⟩
  ·obtain rfl:k=L.length:=by omega
   rw[List.take_length] at ha;exact cF (dF hlt) ⟨⟨true,rfl,λ _=>⟨f1,f2,f3,f4,f5,ha⟩⟩,c2⟩
 have no:∀ {p:Prop},true=false->p:=λ h=>by cases h
 refine⟨_,_,_,s1.ag 0 rfl 0,?_⟩
 by_cases g1:S.ps.length<=3
 rotate_left
 ·exact cT (dT (by omega)) ⟨no,s1.an⟩
 refine cF (dF (by omega)) ⟨_,_,_,s1.ag 0 rfl 1,?_⟩
 by_cases g2:S.bd.length<=4
 rotate_left
 ·exact cT (dT (by omega)) ⟨no,s1.an⟩
 refine cF (dF (by omega)) ⟨_,_,_,s1.ag 0 rfl 2,?_⟩
 by_cases g3:S.cp.length<=10
 rotate_left
 ·exact cT (dT (by omega)) ⟨no,s1.an⟩
 refine cF (dF (by omega)) ⟨_,_,_,s1.ag 0 rfl 3,?_⟩
 by_cases g4:S.sa.length<=6
 rotate_left
 ·exact cT (dT (by omega)) ⟨no,s1.an⟩
 refine cF (dF (by omega)) ?_
 by_cases g5:L.length<=6
 rotate_left
 ·exact cT (dT (by omega)) ⟨no,s1.an⟩
 refine cF (dF (by omega)) ⟨_,_,_,s1.ag 0 rfl 0,aq (gR (h.an s1.an).ps) ?_⟩;rintro v w2 ⟨rfl,c2⟩;refine⟨_,rfl,aq (u0 w2 _) ?_⟩;rintro v w3 ⟨a3,c3,rfl,s3⟩;exact⟨_,_,_,rfl,λ _=>⟨g1,g2,g3,g4,g5⟩,(s1.quiet c2).an.trans s3.an (by simp)⟩
theorem JN{S:Se}(h:S.Ok):(aG S.ps).l.all dD=true:=leq (sup_le h.ps)
theorem A9{S:Se}(h:S.Ok):sj (aG S.ps)=(List.range (cR (aG S.ps))).map (bx (aG S.ps)):=by
 have h1:=HO h.ps;have h2:=iZ (sup_le h.ps);have e:vw (aG S.ps)=pr (aG S.ps).l:=by rw[vw,if_pos ⟨JN h,h1⟩]
 rw[sj,if_neg (by rw[e]; omega)]
theorem AS(wt:Pr->Int)(l:List Pr):∀ k,k<=6->fE wt l z6 k=0
 | 0,_=>rfl
 | k+1,hk=>by rw[fE,AS wt l k (by omega),fu]; simp
theorem j6(p:I6):cost p z6=0:=by simp[cost,z6]
theorem ng{S:Se}(h:S.Ok){n:Nat}{y:Br}(hy:S.bd[n]?=some y)(p:I6):cK S n y p z6=true:=by
 have hb:0<=y.bud:=by
  have:=(h.bd.good n y hy).1;simp only[lH,Bool.and_eq_true,decide_eq_true_eq] at this;omega
 have e1:gY y ⟨p,z6⟩=0:=by rw[gY,if_neg]; rw[j6]; omega
 have e2:(within z6 (aG S.ps)&&within (kr y (zG S.ps S.sa).2 z6) (zG S.ps S.sa).1)=true:=vQ.1 λ j hj=>by
  have h1:=sup_le h.ps j hj;have h2:=Bx h.ps h.sa j hj;rw[EG hj h2,fu,dF (show ¬ (0:Int)>_ by omega),dF (show ¬ (0:Int)>(zG S.ps S.sa).1.at' j by omega)]
  simp
 have e3:S.cp.any (cZ S.ps n z6)=false:=by
  rw[List.any_eq_false];intro x hx;obtain⟨i,hi⟩:=List.getElem?_of_mem hx;have h1:=(h.cp.good i x hi).1;simp only[lZ,Bool.and_eq_true,decide_eq_true_eq] at h1;rw[cZ,zw,Dt,AS _ _ _ h.ps.l2,dF (show ¬ (0:Int)>x.c by omega)]
  simp
 have e4:cP S n y z6=0:=by rw[cP,if_pos (by decide),e2,e3]; rfl
 rw[cK,e1,e4]; rfl
def sN(S:Se)(n:Nat)(y:Br)(l:List Of)(p:I6)(m:I6):Nat->I6×Int
 | 0=>(z6,0)
 | i+1=>bM S n y l p (sN S n y l p m i) (bx m i)
theorem B1{S:Se}(h:S.Ok){n:Nat}{y:Br}(hy:S.bd[n]?=some y){p:I6}(hp:bw p=true)(l:List Of)(m:I6):∀ i,sN S n y l p m (i+1)=aZ S n y l p m (i+1)
 | 0=>by
  have h0:0<=bG l p z6:=by
   rw[bG,if_pos ⟨hp,by decide⟩,j6];have:=(th (b:=z6) (zM (l:=l))).1;omega
  show bM S n y l p (z6,0) (bx m 0)=bM S n y l p (z6,bG l p z6) (bx m 0);rw[show bx m 0=z6 from rfl,bM,bM,if_neg (show ¬ (bG l p z6>(z6,bG l p z6).2/\_) from λ h=>absurd h.1 (by simp))]
  by_cases g:bG l p z6>0
  ·rw[if_pos ⟨g,ng h hy p⟩]
  ·rw[if_neg λ h=>g h.1,show bG l p z6=0 by omega]
 | i+1=>by show bM _ _ _ _ _ (sN S n y l p m (i+1)) _=bM _ _ _ _ _ (aZ S n y l p m (i+1)) _; rw[B1 h hy hp l m i]
set_option maxHeartbeats 1000000 in
theorem uY{w:World}{S:Se}(h:S.In w){a:OA}{c:Nat}{l:List Of}(hl:iQ w a l)(hlen:l.length<=100000)(n:Int)(p:I6) :
  CP 11 #[.agg S.arr,iv n,.slice a l.length c,.agg p.vs.toArray] w (λ r w'=>r=.tuple #[.agg (cG S n l p).1.vs.toArray,iv (cG S n l p).2]/\ax w w' []):=by
 refine As ?_;unfold BI;refine(St.start w).one.av S.arr λ r1 w1 s1=>s1.av p.vs.toArray λ r2 w2 s2=>s2.av z6.vs.toArray λ r3 w3 s3=>?_;let M:List aJ:=[ah r3 z6.vs.toArray 35,ah r2 p.vs.toArray 30,ah r1 S.arr 27,emp];have s3:St w w3 (Sep M):=s3;refine⟨_,_,_,_,_,_,_,_,_,_,_,_,s3.cellsIn 2 rfl,aq (dL (h.an s3.an)) ?_⟩;rintro v w4 ⟨⟨rfl,he⟩,c4⟩;have s4:St w w4 (Sep M):=s3.quiet c4;refine⟨_,rfl,?_⟩;have bad:∀ {k:Int} {w' : World},St w w' (Sep M)->cG S n l p=(z6,k)->aN ⟨r3,0,none⟩ 0 z6.vs w' λ w7=>∃ u2:I6,af w7 ⟨r3,0,none⟩ 0 u2.vs/\(.tuple #[.agg u2.vs.toArray,iv k]:Value)=.tuple #[.agg (cG S n l p).1.vs.toArray,iv (cG S n l p).2]/\ax w w7 []:=λ {k w'} s hk =>
  s.az 0 rfl z6.vs rfl (I6.one _) λ w7 s7=>⟨z6,s7.cellsIn 0 rfl,by rw[hk],s7.an⟩
 by_cases g:jP S=0
 rotate_left
 ·exact cT (by simpa using g) (bad s4 (by rw[cG,if_pos g]))
 have hok:S.Ok:=he.1 g;have e1:cG S n l p=if n<0\/n>=(S.bd.length:Int) then (z6,6) else if bw p=false then (z6,4) else (zK S n.toNat (S.bd.getD n.toNat eH) l p,0):=by rw[cG,if_neg (λ h=>h g)]
 refine cF (by rw[g]; rfl) ⟨λ b w8=>b=decide (n<0\/n>=(S.bd.length:Int))/\St w w8 (Sep M),?_,?_⟩
 rotate_left
 ·by_cases g1:n<0
  ·exact cT (dT g1) ⟨(dT (.inl g1)).symm,s4⟩
  ·refine cF (dF g1) ⟨_,_,_,s4.ag 2 rfl 1,?_,s4⟩
   by_cases g2:n>=(S.bd.length:Int)
   ·rw[dT g2,dT (.inr g2)]
   ·rw[dF g2,dF (λ h=>h.elim g1 g2)]
 rintro w8 b ⟨rfl,s8⟩ -
 by_cases g1:n<0\/n>=(S.bd.length:Int)
 ·exact cT (dT g1) (bad s8 (by rw[e1,if_pos g1]))
 rw[if_neg g1] at e1;obtain⟨j,rfl⟩:=Int.eq_ofNat_of_zero_le (show 0<=n by omega);rw[Int.toNat_natCast] at e1;have hy:S.bd[j]?=some (S.bd[j]'(by omega)):=gE (by omega);rw[show S.bd.getD j eH = S.bd[j]'(by omega) by simp[List.getD_eq_getElem?_getD,hy]] at e1;generalize S.bd[j]'(by omega)=y at hy e1;refine cF (dF g1) ⟨p,s8.cellsIn 1 rfl,aq (kG w8 p) ?_⟩;rintro v w9 ⟨rfl,c9⟩;have s9:St w w9 (Sep M):=s8.quiet c9;refine⟨_,rfl,?_⟩
 cases hp:bw p with
 | false=>exact cT rfl (bad s9 (by rw[e1,if_pos hp]))
 | true =>
 rw[if_neg (by rw[hp]; decide)] at e1;refine cF rfl (s9.av z6.vs.toArray λ r4 w10 s10=>s10.az 0 rfl z6.vs rfl (I6.one _) λ w11 s11=>⟨_,_,_,s11.ag 3 rfl 0,aq (gR (h.an s11.an).ps) ?_⟩);rintro v w12 ⟨rfl,c12⟩;have s12:=s11.quiet c12;refine⟨_,rfl,aq (u0 w12 _) ?_⟩;rintro v w13 ⟨a13,c13,rfl,s13⟩;have s14:=s12.and s13;have hcnt:=iZ (sup_le hok.ps);have elen:(sj (aG S.ps)).length=cR (aG S.ps):=by rw[A9 hok]; simp
 have eget:∀ k,k<cR (aG S.ps)->(sj (aG S.ps))[k]?=some (bx (aG S.ps) k):=λ k hk=>by
  rw[A9 hok,List.getElem?_map,List.getElem?_range hk]; rfl
 have hin:∀ k,k<cR (aG S.ps)->I6.Le (bx (aG S.ps) k) 4:=λ k _=>(eI (sup_le hok.ps) k).le;generalize sj (aG S.ps)=all at s14 elen eget;generalize hcb:cR (aG S.ps)=N at elen eget hin hcnt;let Q:I6×Int->List aJ:=λ σ=>[bn a13 c13 all,ah r4 σ.1.vs.toArray 35,ah r3 z6.vs.toArray 35,ah r2 p.vs.toArray 30,ah r1 S.arr 27,emp];have s14:St w w13 (Sep (Q (z6,0))):=s14;have hse:∀ {w'},ax w w' []->xe w' S:=λ hc=>⟨h.an hc,hok⟩;refine⟨_,_,_,rfl,λ most i w15 m=>∃ k:Nat,i=k/\k<=N/\m=N-k/\most=(sN S j y l p (aG S.ps) k).2/\St w w15 (Sep (Q (sN S j y l p (aG S.ps) k))),⟨N,0,rfl,by omega,by omega,rfl,s14⟩,?_⟩;rintro w15 m most i ⟨k,rfl,hk,hm,rfl,s15⟩ -;rw[elen]
 by_cases hlt:(k:Int)<(N:Int)
 rotate_left
 ·obtain rfl:k=N:=by omega
  have ef:sN S j y l p (aG S.ps) k=aZ S j y l p (aG S.ps) k:=by
   obtain⟨k',rfl⟩:∃ k',k=k' + 1:=⟨k-1,by omega⟩;exact B1 hok hy hp l _ k'
  refine cF (dF hlt) ⟨_,s15.cellsIn 1 rfl,s15.az 2 rfl _ rfl (I6.one _) λ w16 s16=>⟨_,s16.cellsIn 2 rfl,?_,s16.an⟩⟩;rw[e1,ef,zK,hcb]
 have hx:=eget k (by omega);have hxl:=hin k (by omega);have eS:sN S j y l p (aG S.ps) (k+1)=bM S j y l p (sN S j y l p (aG S.ps) k) (bx (aG S.ps) k):=rfl;generalize sN S j y l p (aG S.ps) k=σ at s15 eS;generalize bx (aG S.ps) k=u at hx hxl eS;have rd:∀ {w'},St w w' (Sep (Q σ))->∃ q,a13=some q/\af w' (q.add (((k:Nat):Int).toNat*6)) 0 u.vs:=λ s=>by
  rw[Int.toNat_natCast]; exact(St.rd aM (s.out 0 rfl)).at hx
 have s16:St w w15.drew (Sep (Q σ)):=s15.quiet (ax.drew w15 []);obtain⟨q,hq,hcl⟩:=rd s16;refine cT (dT hlt) ⟨λ most w16=>most=(sN S j y l p (aG S.ps) (k+1)).2/\St w w16 (Sep (Q (sN S j y l p (aG S.ps) (k+1)))),?_,λ b w17=>b = !cK S j y p u/\St w w17 (Sep (Q σ)),?_,?_⟩
 ·rintro w16 most ⟨rfl,s17⟩ -;exact⟨N-(k+1),by omega,k+1,ay ⟨by omega,by omega⟩,by omega,rfl,rfl,s17⟩
 ·rintro w17 b ⟨rfl,s17⟩ -
  cases hpm:cK S j y p u with
  | false=>exact cT rfl ⟨by rw[eS,bM,if_neg (by rw[hpm]; simp)],by rw[eS,bM,if_neg (by rw[hpm]; simp)]; exact s17⟩
  | true =>
  have s18:St w w17.drew (Sep (Q σ)):=s17.quiet (ax.drew w17 []);obtain⟨q1,hq1,hcl1⟩:=rd s18;refine cF rfl ⟨p,s18.cellsIn 3 rfl,ai hq1 ⟨by omega,by omega,u,hcl1,aq (wE (hl.an s18.an) hlen p u) ?_⟩⟩;rintro v w19 ⟨rfl,c19⟩;have s19:St w w19 (Sep (Q σ)):=s18.quiet c19;refine⟨_,rfl,?_⟩
  by_cases gu:bG l p u>σ.2
  ·obtain⟨q2,hq2,hcl2⟩:=rd s19;have e2:bM S j y l p σ u=(u,bG l p u):=by rw[bM,if_pos ⟨gu,hpm⟩]
   rw[eS,e2];exact cT (dT gu) (ai hq2 ⟨by omega,by omega,u,hcl2,s19.az 1 rfl u.vs rfl (I6.one _) λ w20 s20=>⟨rfl,s20⟩⟩)
  ·have e2:bM S j y l p σ u=σ:=by rw[bM,if_neg λ h=>gu h.1]
   rw[eS,e2];exact cF (dF gu) ⟨rfl,s19⟩
 refine⟨_,_,_,_,_,_,_,_,_,_,_,_,s16.cellsIn 4 rfl,ai hq ⟨by omega,by omega,u,hcl,aq (ow (h.an s16.an) hok hy u) ?_⟩⟩;rintro v w19 ⟨rfl,c19⟩;have s19:St w w19 (Sep (Q σ)):=s16.quiet c19;refine⟨_,rfl,?_⟩
 by_cases ga:cP S j y u=0
 ·obtain⟨q2,hq2,hcl2⟩:=rd s19;refine cF (by rw[ga]; rfl) ⟨_,_,_,_,_,_,_,_,_,_,_,_,s19.cellsIn 4 rfl,p,s19.cellsIn 3 rfl,ai hq2 ⟨by omega,by omega,u,hcl2,aq (qg (hse s19.an) hy (c:=⟨p,u⟩) ⟨eM hp,hxl⟩) ?_⟩⟩;rintro v w20 ⟨rfl,c20⟩;refine⟨_,rfl,?_,s19.quiet c20⟩;rw[cK,dT ga,Bool.true_and]
  by_cases gf:gY y ⟨p,u⟩=0
  ·rw[dT gf,gf]; rfl
  ·rw[dF gf]; simpa using gf
 ·exact cT (by simpa using ga) ⟨by rw[cK,dF ga]; rfl,s19⟩
def sg(a:Int)(w:World)(K:KP):=au w (.cells #[qn,qn,qn,qn] 27) λ b c=>au c (.cells #[.string (bs [97]),iv 1,qz,iv 1,qz,.string (bs [98]),iv 1,qz,iv 1,qz] 117) λ c d=>au d (.cells #[.string (bs [120]),qz,iv a,iv 5,.string (bs [121]),qz,qz,iv 5] 66) λ a d=>aN (qd b 0) 0 [.slice (some (qd c 0)) 2 2,.slice (some (qd a 0)) 2 2,qn,qn] d λ a=>∃ c d e f g h i j k l m n,af a (qd b 0) 0 [.slice c d e,.slice f g h,.slice i j k,.slice l m n]/\K (.agg #[.slice c d e,.slice f g h,.slice i j k,.slice l m n]) a
theorem tG{n1 w K}(h:sg n1 w K):CP 31 #[iv n1] w K:=aj (aC []) func31 (by kernel_rfl) (by kernel_rfl) h
def nX  (w:World) (K:KP):=au w (.cells #[qz,iv 1,qz,qz,qz,qz,qz,iv 10,qz,iv 1,iv 1,qz,qz,qz,qz,iv 12] 81) λ a b=>K (.slice (some (qd a 0)) 2 2) b
theorem qD{w K}(h:nX w K):CP 32 #[] w K:=aj (aC []) func32 (by kernel_rfl) (by kernel_rfl) h
def gN(a:Int)(b:OA)(c d:Nat)(w:World)(K:KP):=K qn w
theorem kB{n1 a1 l1 c1 w K}(h:gN n1 a1 l1 c1 w K):CP 25 #[.pointer none,iv n1,.slice a1 l1 c1] w K:=aj (aC []) func25 (by kernel_rfl) (by kernel_rfl) h
def p8  (w:World) (K:KP):=CC 31 #[qz] w λ g h=>∃ i j k l m n o p q r s t,g=.returned (.agg #[.slice i j k,.slice l m n,.slice o p q,.slice r s t])/\CC 32 #[] h λ g h=>∃ u v x,g=.returned (.slice u v x)/\CC 10 #[.agg #[.slice i j k,.slice l m n,.slice o p q,.slice r s t],qz,.slice u v x,.agg #[iv 3,iv 1,qz,qz,qz,qz]] h λ g h=>∃ i:I6,∃ j,g=.returned (.tuple #[.agg i.vs.toArray,iv j])/\au h (.cells z6.vs.toArray 35) λ g h=>aN (qd g 0) 0 i.vs h λ h=>CC 31 #[iv 3] h λ h i=>∃ k l m n o p q r s t u v,h=.returned (.agg #[.slice k l m,.slice n o p,.slice q r s,.slice t u v])/\CC 32 #[] i λ h i=>∃ x y z,h=.returned (.slice x y z)/\CC 10 #[.agg #[.slice k l m,.slice n o p,.slice q r s,.slice t u v],qz,.slice x y z,.agg #[iv 3,iv 1,qz,qz,qz,qz]] i λ h i=>∃ k:I6,∃ l,h=.returned (.tuple #[.agg k.vs.toArray,iv l])/\au i (.cells z6.vs.toArray 35) λ h i=>aN (qd h 0) 0 k.vs i λ i=>CC 31 #[qz] i λ i k=>∃ m n o p q r s t u v x y,i=.returned (.agg #[.slice m n o,.slice p q r,.slice s t u,.slice v x y])/\CC 32 #[] k λ i k=>∃ z A B,i=.returned (.slice z A B)/\CC 10 #[.agg #[.slice m n o,.slice p q r,.slice s t u,.slice v x y],iv 2,.slice z A B,.agg z6.vs.toArray] k λ i k=>∃ m:I6,∃ n,i=.returned (.tuple #[.agg m.vs.toArray,iv n])/\au k (.cells z6.vs.toArray 35) λ i k=>aN (qd i 0) 0 m.vs k λ i=>CC 31 #[qz] i λ i k=>∃ m o p q r s t u v x y z,i=.returned (.agg #[.slice m o p,.slice q r s,.slice t u v,.slice x y z])/\CC 32 #[] k λ i k=>∃ A B C,i=.returned (.slice A B C)/\CC 10 #[.agg #[.slice m o p,.slice q r s,.slice t u v,.slice x y z],qz,.slice A B C,.agg #[iv (-1),qz,qz,qz,qz,qz]] k λ i k=>∃ m:I6,∃ o,i=.returned (.tuple #[.agg m.vs.toArray,iv o])/\au k (.cells z6.vs.toArray 35) λ i k=>aN (qd i 0) 0 m.vs k λ i=>CC 31 #[qz] i λ i k=>∃ m p q r s t u v x y z A,i=.returned (.agg #[.slice m p q,.slice r s t,.slice u v x,.slice y z A])/\au k (.cells #[qz,iv 1,qz,qz,qz,qz,qz,iv 5] 81) λ i k=>au k (.cells #[qz,iv 1,qz,qz,qz,qz,qz,iv 3] 81) λ k B=>au B (.cells #[.slice (some (qd i 0)) 1 1,.slice (some (qd k 0)) 1 1] 28) λ i k=>CC 12 #[.agg #[.slice m p q,.slice r s t,.slice u v x,.slice y z A],.agg #[iv 1,qz,iv 1,iv 1],.slice (some (qd i 0)) 2 2] k λ i k=>∃ m p,i=.returned (.tuple #[.pointer m,iv p])/\CC 31 #[qz] k λ i k=>∃ q r s t u v x y z A B C,i=.returned (.agg #[.slice q r s,.slice t u v,.slice x y z,.slice A B C])/\CC 12 #[.agg #[.slice q r s,.slice t u v,.slice x y z,.slice A B C],.agg #[iv 1,qz,iv 1,iv 1],qn] k λ i k=>∃ q r,i=.returned (.tuple #[.pointer q,iv r])/\CC 31 #[qz] k λ i k=>∃ q s t u v x y z A B C D,i=.returned (.agg #[.slice q s t,.slice u v x,.slice y z A,.slice B C D])/\au k (.cells #[qn,qn] 28) λ i k=>CC 19 #[.agg #[.slice q s t,.slice u v x,.slice y z A,.slice B C D],.agg #[iv 1,qz,iv 1,iv 1],.slice (some (qd i 0)) 2 2] k λ i k=>∃ q s t u,i=.returned (.tuple #[.slice q s t,iv u])/\∃ i:Bool->qW,(∀ t v,i v t->∀ x:qv,cond v (K (.bool false) t) (CC 14 #[.pointer m] t λ t v=>∃ x,t=.returned (.bool x)/\cond x (CC 33 #[.pointer m] v λ t x=>∃ y,t=.returned (iv y)/\cond (y==4) (CC 15 #[.pointer m] x λ t y=>∃ z:I6,t=.returned (.agg z.vs.toArray)/\cond ((z.a==(3:Int))&&((z.b==(0:Int))&&((z.c==(0:Int))&&((z.d==(0:Int))&&((z.e==(0:Int))&&((z.f==(0:Int))&&true)))))) (cond (u==0) (cond ((s:Int)==(4:Int)) (ak q λ t=>0<=(1:Int)/\(1:Int)<(s:Int)/\∃ u z A,∃ B:I6,∃ C D,af y (Addr.add t (((1:Int)).toNat*11)) 0 (iv u :: iv z :: iv A :: B.on [.string C,.int .u64 D])/\cond ((u==2)&&((z==0)&&((A==0)&&((I6.beq B z6)&&((C==(bs []))&&((D==0)&&true)))))) (ak q λ q=>0<=(3:Int)/\(3:Int)<(s:Int)/\∃ s t u,∃ z:I6,∃ A B,af y (Addr.add q (((3:Int)).toNat*11)) 0 (iv s :: iv t :: iv u :: z.on [.string A,.int .u64 B])/\cond ((s==3)&&((t==0)&&((u==0)&&((I6.beq z z6)&&((A==(bs []))&&((B==0)&&true)))))) (CC 32 #[] y λ q s=>∃ t u z,q=.returned (.slice t u z)/\CC 25 #[.pointer none,qz,.slice t u z] s λ q s=>∃ t u z,q=.returned (.slice t u z)/\K (.bool ((u:Int)==(0:Int))) s) (K (.bool false) y)) (K (.bool false) y)) (K (.bool false) y)) (K (.bool false) y)) (K (.bool false) y)) (K (.bool false) x)) (K (.bool false) v)))/\cond (j !=0) (i true k) (∃ j:I6,af k (qd g 0) 0 j.vs/\cond (!((j.a==(1:Int))&&((j.b==(1:Int))&&((j.c==(0:Int))&&((j.d==(0:Int))&&((j.e==(0:Int))&&((j.f==(0:Int))&&true))))))) (i true k) (cond (l !=0) (i true k) (∃ g:I6,af k (qd h 0) 0 g.vs/\cond (!((g.a==(1:Int))&&((g.b==(0:Int))&&((g.c==(0:Int))&&((g.d==(0:Int))&&((g.e==(0:Int))&&((g.f==(0:Int))&&true))))))) (i true k) (cond (n !=6) (i true k) (cond (o !=4) (i true k) (cond (p !=0) (i true k) (cond (m).isNone (i true k) (i (r !=3) k))))))))
theorem rZ{w K}(h:p8 w K):CP 9 #[] w K:=aj (aC [(1022,[(104,.s .bool)])]) func9 (by kernel_rfl) (by kernel_rfl) h
theorem DK(S:Se)(n:Nat)(y:Br)(l:List Of)(p:I6)(σ:I6×Int)(u:I6):bM S.er n y l p σ u=bM S n y l p σ u:=rfl
theorem xp(S:Se)(n:Nat)(y:Br)(l:List Of)(p m:I6):∀ i,aZ S.er n y l p m i=aZ S n y l p m i
 | 0=>rfl
 | i+1=>by rw[aZ,aZ,xp S n y l p m i,DK]
theorem nM(S:Se)(n:Int)(l:List Of)(p:I6):cG S.er n l p=cG S n l p:=by
 have e:∀ k y,zK S.er k y l p=zK S k y l p:=λ k y=>by
  show(aZ S.er k y l p (aG S.ps) _).1=_;rw[xp]; rfl
 unfold cG;rw[e]; rfl
theorem FX(S:Se)(C:Ck)(k:Nat)(l:List Of):pW S.er C k l=pW S C k l:=by unfold pW; rw[nM]; rfl
def J0(S:Se)(L:List (List Of))(C:Ck):Nat->Ck
 | 0=>C
 | k+1=>pW S (J0 S L C k) k (L[k]?.getD [])
theorem HL(S:Se)(L:List Lx)(C:Ck):∀ k,cv S L C k=J0 S.er (L.map Lx.l) C k
 | 0=>rfl
 | k+1=>by rw[cv,J0,HL S L C k,FX,List.getElem?_map]
def Fm(S:Se)(L:List (List Of)):Nat->Ck->Ck
 | 0,C=>C
 | f+1,C=>if C.ov=true then C else Fm S L f (bA (J0 S L C L.length))
theorem Fl(S:Se)(L:List Lx):∀ (f:Nat) (C:Ck),dY S L f C=Fm S.er (L.map Lx.l) f C
 | 0,_=>rfl
 | f+1,C=>by
  rw[dY,Fm,Fl S L f];show(if C.ov=true then C else Fm S.er (L.map Lx.l) f (bA (cv S L C L.length)))=_;rw[HL,List.length_map]
def Dm(S:Se)(o:Po)(L:List (List Of)):Ck:=Fm S L 31 (dy S o)
theorem Fo(S:Se)(o:Po)(L:List Lx):(runM S o L).er=(Dm S.er o (L.map Lx.l)).er:=by
 unfold runM;rw[lA 31 (show(dy S o).er=(dy S.er o).er from rfl),Fl]; rfl
def Ky:List Pr:=[⟨[97],1,0,1,0⟩,⟨[98],1,0,1,0⟩]
def Kx(b:Int):List Br:=[⟨[120],0,b,5⟩,⟨[121],0,0,5⟩]
def o5(b:Int)(a1 a2:OA)(c:Nat):Se:=⟨Ky,Kx b,[],[],a1,c,a2,c,none,0,none,0⟩
def Hv:List Of:=[⟨0,⟨1,0,0,0,0,0⟩,10⟩,⟨0,⟨1,1,0,0,0,0⟩,12⟩]
def zD:Po:=⟨1,0,1,1⟩
def Gx:List (List Of):=[[⟨0,⟨1,0,0,0,0,0⟩,5⟩],[⟨0,⟨1,0,0,0,0,0⟩,3⟩]]
def zT:Se:=o5 0 none none 0
theorem Jc:cG zT 0 Hv ⟨3,1,0,0,0,0⟩=(⟨1,1,0,0,0,0⟩,0):=by decide +kernel
theorem Jd:cG (o5 3 none none 0) 0 Hv ⟨3,1,0,0,0,0⟩=(⟨1,0,0,0,0,0⟩,0):=by decide +kernel
theorem Je:(cG zT 2 Hv z6).2=6:=by decide +kernel
theorem Jf:(cG zT 0 Hv ⟨-1,0,0,0,0,0⟩).2=4:=by decide +kernel
theorem Be:dV zT zD 2=0/\(Dm zT zD Gx).cl.length=4/\(Dm zT zD Gx).p=⟨3,0,0,0,0,0⟩:=by decide +kernel
theorem Jg:dV zT zD 0=3:=by decide +kernel
theorem Jh:(Dm zT zD [[],[]]).cl.map Rn.ask=[[z6,z6]]:=by decide +kernel
theorem iE{l:List Ch}:bO l=true<->(∀ c∈l,c.Ok)/\∃ p,fZ l.length (g1 (gF l)) p:=by
 rw[bO,Bool.and_eq_true,rG,decide_eq_true_eq];exact and_congr_right λ _=>xV
section
variable {S:Se} {n:Nat} {y:Br} {l:List Of} {p p' m:I6}
theorem fF(hp:cK S n y p z6=true):∀ k,cK S n y p (aZ S n y l p m k).1=true/\(aZ S n y l p m k).2=bG l p (aZ S n y l p m k).1/\bG l p z6<=(aZ S n y l p m k).2/\((aZ S n y l p m k).1=z6\/∃ i,i<k/\(aZ S n y l p m k).1=bx m i)/\∀ i,i<k->cK S n y p (bx m i)=true->bG l p (bx m i)<=(aZ S n y l p m k).2
 | 0=>⟨hp,rfl,Int.le_refl _,.inl rfl,λ i hi=>by omega⟩
 | k+1=>by
  obtain⟨h1,h2,h3,h4,h5⟩:=fF hp k;show cK S n y p (bM S n y l p (aZ S n y l p m k) (bx m k)).1=true/\(bM S n y l p (aZ S n y l p m k) (bx m k)).2=bG l p (bM S n y l p (aZ S n y l p m k) (bx m k)).1/\bG l p z6<=(bM S n y l p (aZ S n y l p m k) (bx m k)).2/\((bM S n y l p (aZ S n y l p m k) (bx m k)).1=z6\/∃ i,i<k+1/\(bM S n y l p (aZ S n y l p m k) (bx m k)).1=bx m i)/\∀ i,i<k+1->cK S n y p (bx m i)=true->bG l p (bx m i)<=(bM S n y l p (aZ S n y l p m k) (bx m k)).2;unfold bM
  by_cases g:bG l p (bx m k)>(aZ S n y l p m k).2/\cK S n y p (bx m k)=true
  ·rw[if_pos g];refine⟨g.2,rfl,by show bG l p z6<=bG l p (bx m k); omega,.inr ⟨k,by omega,rfl⟩,λ i hi hpi=>?_⟩;show bG l p (bx m i)<=bG l p (bx m k);rcases Nat.lt_or_ge i k with h' | h'
   ·have:=h5 i h' hpi; omega
   ·obtain rfl:i=k:=by omega
    exact Int.le_refl _
  ·rw[if_neg g];refine⟨h1,h2,h3,h4.imp id λ ⟨i,hi,e⟩=>⟨i,by omega,e⟩,λ i hi hpi=>?_⟩;rcases Nat.lt_or_ge i k with h' | h'
   ·exact h5 i h' hpi
   ·obtain rfl:i=k:=by omega
    rcases Int.lt_or_le (aZ S n y l p m i).2 (bG l p (bx m i)) with h|h
    ·exact absurd ⟨h,hpi⟩ g
    ·exact h
theorem lu(hb:y.bud=0)(u:I6):cK S n y p u=decide (cP S n y u=0):=by
 rw[cK,show gY y ⟨p,u⟩=0 by rw[gY,if_neg (by rw[hb]; simp)]]; simp
theorem FH{u:I6}(hp:bw p=true)(hp' : bw p' = true)(hle:∀ k,k<6->p.at' k<=p'.at' k):bG l p' u<=bG l p u:=by
 unfold bG
 by_cases hu:u.l.all dD=true
 ·rw[if_pos ⟨hp',hu⟩,if_pos ⟨hp,hu⟩];have hq:=ni hu;have key:∀ k,k<6->p.at' k*u.at' k<=p'.at' k*u.at' k:=λ k hk=>Int.mul_le_mul_of_nonneg_right (hle k hk) (hq k hk).1;have h0:=key 0 (by decide); have h1:=key 1 (by decide); have h2:=key 2 (by decide); have h3:=key 3 (by decide); have h4:=key 4 (by decide); have h5:=key 5 (by decide);simp only[I6.at'] at h0 h1 h2 h3 h4 h5;unfold cost;omega
 ·rw[if_neg λ h=>hu h.2,if_neg λ h=>hu h.2]; exact Int.le_refl _
theorem JQ(hp:bw p=true)(hp' : bw p' = true):bG l p' z6=bG l p z6:=by
 rw[bG,bG,if_pos ⟨hp',by decide⟩,if_pos ⟨hp,by decide⟩,j6,j6]
theorem rK(hs:S.Ok)(hy:S.bd[n]?=some y)(hb:y.bud=0)(hp:bw p=true)(hp' : bw p' = true)(hle:∀ k,k<6->p.at' k<=p'.at' k){N:Nat}(hz:(aZ S n y l p m N).1=z6):∀ k,k<=N->aZ S n y l p' m k=(z6,bG l p' z6)
 | 0,_=>rfl
 | k+1,hk=>by
  show bM S n y l p' (aZ S n y l p' m k) (bx m k)=_;rw[rK hs hy hb hp hp' hle hz k (by omega),bM,if_neg];rintro⟨h1,h2⟩;obtain⟨_,t2,_,_,t5⟩:=fF (S:=S) (l:=l) (m:=m) (ng hs hy p) N;rw[lu hb] at h2;have h3:=t5 k (by omega) (by rw[lu hb]; exact h2);rw[t2,hz] at h3;have h4:=FH (l:=l) (u:=bx m k) hp hp' hle;have h5:=JQ (l:=l) hp hp';simp only[] at h1;omega
end
def gh(S:Se)(L:List Lx)(i:Nat)(p:I6):I6:=zK S i (S.bd.getD i eH) ((L[i]?.map Lx.l).getD []) p
theorem xu{S:Se}(hs:S.Ok){L:List Lx}{i:Nat}(hi:i<S.bd.length){p:I6}(hp:bw p=true):cG S i ((L[i]?.map Lx.l).getD []) p=(gh S L i p,0):=by
 unfold cG;rw[if_neg (by rw[sW hs]; simp),if_neg (by omega),if_neg (by rw[hp]; simp),Int.toNat_natCast]; rfl
section
variable {S:Se} {L:List Lx} (hs:S.Ok) (hb:∀ y∈S.bd,y.bud=0)
include hs hb
theorem DJ{i:Nat}(hi:i<S.bd.length){l:List Ch}(h:∀ c∈l,bw c.p=true/\c.want=gh S L i c.p):bO l=true:=by
 have hy:S.bd[i]?=some (S.bd[i]'hi):=gE hi;have ey:S.bd.getD i eH = S.bd[i]'hi:=by simp[List.getD_eq_getElem?_getD,hy]
 generalize S.bd[i]'hi=y at hy ey;have hyb:=hb y (List.mem_of_getElem? hy);have sl:=sup_le hs.ps;have ew:∀ c∈l,c.want=(aZ S i y ((L[i]?.map Lx.l).getD []) c.p (aG S.ps) (cR (aG S.ps))).1:=λ c hc=>by rw[(h c hc).2,gh,ey]; rfl
 have hbun:∀ c∈l,∃ j,j<cR (aG S.ps)/\c.want=bx (aG S.ps) j:=λ c hc=>by
  rw[ew c hc];rcases(fF (S:=S) (l:=(L[i]?.map Lx.l).getD []) (m:=aG S.ps) (ng hs hy c.p) (cR (aG S.ps))).2.2.2.1 with e|e
  ·exact⟨0,(iZ sl).1,e⟩
  ·exact e
 have hq:∀ c∈l,I6.Le c.want 4:=λ c hc=>by
  obtain⟨j,_,e⟩:=hbun c hc;rw[e]; exact(eI sl j).le
 have opt:∀ a∈l,∀ b∈l,bG ((L[i]?.map Lx.l).getD []) a.p b.want<=bG ((L[i]?.map Lx.l).getD []) a.p a.want:=λ a ha b hbm=>by
  obtain⟨j,hj,e⟩:=hbun b hbm;obtain⟨t1,t2,t3,t4,t5⟩:=fF (S:=S) (l:=(L[i]?.map Lx.l).getD []) (m:=aG S.ps) (ng hs hy a.p) (cR (aG S.ps));have hpb:=(fF (S:=S) (l:=(L[i]?.map Lx.l).getD []) (m:=aG S.ps) (ng hs hy b.p) (cR (aG S.ps))).1;rw[<- ew b hbm,lu hyb] at hpb;rw[e];have:=t5 j hj (by rw[lu hyb,<- e]; exact hpb);rw[t2,<- ew a ha] at this;exact this
 refine iE.2 ⟨λ c hc=>⟨eM (h c hc).1,hq c hc⟩,λ j=>jk (tD ((L[i]?.map Lx.l).getD [])) (l.getD j dj).want,λ a b ha hb x hx=>?_⟩
 cases List.mem_singleton.1 hx
 have gm:∀ {j},j<l.length->l.getD j dj∈l:=λ {j} hj=>by
  rw[List.getD_eq_getElem?_getD,gE hj]; exact List.getElem_mem hj
 have h1:=opt _ (gm ha) _ (gm hb);have la:=leq (hq _ (gm ha));have lb:=leq (hq _ (gm hb));rw[bG,bG,if_pos ⟨(h _ (gm ha)).1,lb⟩,if_pos ⟨(h _ (gm ha)).1,la⟩] at h1;show jk (tD _) (l.getD b dj).want<=jk (tD _) (l.getD a dj).want+gF l a b;unfold gF iF;omega
structure FI (S:Se) (o:Po) (L:List Lx) (C:Ck):Prop where
 inv:C.Inv
 s:C.s=S
 o:C.o=o
 dp:∀ i,C.dp.getD i false=false
 cl:∀ x∈C.cl,∀ i,i<S.bd.length->x.ask.getD i z6=gh S L i x.p
 up:∀ x∈C.cl,∀ k,k<6->x.p.at' k<=C.p.at' k
theorem HZ{o:Po}(ho:o.rule=2){C:Ck}(h:FI S o L C)(hov:C.ov=false){i:Nat}(hi:i<S.bd.length):bK C i (S.bd.getD i eH) (gh S L i C.p)=0:=by
 have hy:S.bd[i]?=some (S.bd[i]'hi):=gE hi;have ey:S.bd.getD i eH = S.bd[i]'hi:=by simp[List.getD_eq_getElem?_getD,hy]
 have eA:gh S L i C.p=(aZ S i (S.bd[i]'hi) ((L[i]?.map Lx.l).getD []) C.p (aG S.ps) (cR (aG S.ps))).1:=by rw[gh,ey]; rfl
 rw[ey];generalize S.bd[i]'hi=y at hy ey eA;have hyb:=hb y (List.mem_of_getElem? hy);have hpm:=(fF (S:=S) (l:=(L[i]?.map Lx.l).getD []) (m:=aG S.ps) (ng hs hy C.p) (cR (aG S.ps))).1;rw[<- eA,cK,Bool.and_eq_true,decide_eq_true_eq,decide_eq_true_eq] at hpm;unfold bK;rw[hov,h.dp i,h.s,if_neg (by decide),if_neg (by rw[hpm.1]; simp),if_neg (by rw[hpm.2]; simp),h.o,ho,mJ,if_pos (by decide)];have hall:∀ c∈fz C i,bw c.p=true/\c.want=gh S L i c.p:=λ c hc=>by
  obtain⟨x,hx,rfl⟩:=List.mem_map.1 hc;exact⟨h.inv.ok.cp x hx,h.cl x hx i hi⟩
 by_cases hex:eW (fz C i)=true
 ·rw[if_pos hex,if_pos];rw[decide_eq_true_eq];show gh S L i C.p=z6;unfold eW at hex
  cases hl:(fz C i).getLast? with
  | none=>rw[hl] at hex; cases hex
  | some c =>
   rw[hl] at hex;have hz:c.want=z6:=by simpa using hex
   have hc:c∈fz C i:=List.mem_of_getLast? hl;obtain⟨h1,h2⟩:=hall c hc;obtain⟨x,hx,e⟩:=List.mem_map.1 hc;have hup:=h.up x hx;have ep:c.p=x.p:=by rw[<- e]
   rw[<- ep] at hup;rw[h2,gh,ey] at hz;have:=rK hs hy hyb h1 h.inv.ok.p hup hz (cR (aG S.ps)) (Nat.le_refl _);rw[eA,this]
 ·rw[if_neg hex,if_pos];rw[mD,if_neg (by decide),if_pos rfl];refine DJ (L:=L) hs hb hi λ c hc=>?_;rcases List.mem_append.1 hc with hc|hc
  ·exact hall c hc
  ·cases List.mem_singleton.1 hc
   exact⟨h.inv.ok.p,rfl⟩
theorem B0{o:Po}(ho:o.rule=2){C:Ck}(h:FI S o L C)(hov:C.ov=false):∀ k,k<=S.bd.length->FI S o L (cv S L C k)/\(cv S L C k).ov=false/\(cv S L C k).p=C.p/\(cv S L C k).cl=C.cl/\(cv S L C k).ask.length=C.ask.length/\∀ i,i<k->(cv S L C k).ask.getD i z6=gh S L i C.p
 | 0,_=>⟨h,hov,rfl,rfl,rfl,λ i hi=>by omega⟩
 | k+1,hk=>by
  obtain⟨h1,h2,h3,h4,h5,h6⟩:=B0 ho h hov k (by omega);have e:=HZ hs hb ho h1 h2 (show k<S.bd.length by omega);have hr:=xu hs (L:=L) (show k<S.bd.length by omega) (h1.inv.ok.p);have eR:cv S L C (k+1)=gZ (cv S L C k) k (gh S L k C.p):=by
   show pW S (cv S L C k) k _=_;unfold pW;rw[hr];show(if bK _ k _ (gh S L k (cv S L C k).p)=0 then gZ (cv S L C k) k (gh S L k (cv S L C k).p) else _)=_;rw[if_pos e,h3]
  have hask:k<(cv S L C k).ask.length:=by rw[h5,h.inv.ok.ask,h.s]; omega
  rw[eR];rw[h3] at e;refine⟨⟨nK h1.inv e,h1.s,h1.o,h1.dp,h1.cl,h1.up⟩,h2,h3,h4,by show((cv S L C k).ask.set k _).length=_; rw[List.length_set]; exact h5,λ i hi=>?_⟩;show((cv S L C k).ask.set k (gh S L k C.p)).getD i z6=_;rw[List.getD_eq_getElem?_getD,List.getElem?_set]
  by_cases e2:k=i
  ·subst e2; rw[if_pos rfl,if_pos hask]; rfl
  ·rw[if_neg e2,<- List.getD_eq_getElem?_getD]; exact h6 i (by omega)
omit hs hb in
theorem zk{o:Po}(ho:o.ok){p ex:I6}(hp:bw p=true)(k:Nat)(hk:k<6):p.at' k<=(aS o p ex).at' k:=by
 unfold aS;rw[I6.fY _ _ _ _ hk];have:=eM hp k hk
 split
 ·unfold nk;have h1:0<=p.at' k*o.pct:=Int.mul_nonneg this.1 ho.2.2.1;obtain⟨o1,_⟩:=ho;omega
 ·exact Int.le_refl _
omit hs hb in
theorem zL{o:Po}(hoo:o.ok){C:Ck}(h:FI S o L C)(hov:C.ov=false)(ha:∀ i,i<S.bd.length->C.ask.getD i z6=gh S L i C.p):FI S o L (bA C):=by
 have hup:∀ k,k<6->C.p.at' k<=(bA C).p.at' k:=λ k hk=>by
  show _<=(if bP C then C.p else (cW C).1).at' k
  split
  ·exact Int.le_refl _
  ·rename_i hl;have hl2:(cW C).2=0:=by
    unfold bP at hl;simp only[Bool.or_eq_true,not_or,decide_eq_true_eq,bne_iff_ne,ne_eq,Decidable.not_not] at hl;exact hl.2.2
   unfold cW fj at hl2 ⊢
   split
   ·rename_i hc; rw[if_pos hc] at hl2; exact absurd hl2 (by decide)
   ·rw[h.o]; exact zk hoo h.inv.ok.p k hk
 refine⟨iY h.inv hov,h.s,h.o,h.dp,λ x hx=>?_,λ x hx k hk=>?_⟩
 ·rcases List.mem_append.1 (show x∈C.cl++[vf C] from hx) with hx|hx
  ·exact h.cl x hx
  ·cases List.mem_singleton.1 hx; exact ha
 ·rcases List.mem_append.1 (show x∈C.cl++[vf C] from hx) with hx|hx
  ·exact Int.le_trans (h.up x hx k hk) (hup k hk)
  ·cases List.mem_singleton.1 hx; exact hup k hk
theorem Ds{o:Po}(ho:o.rule=2)(hoo:o.ok)(hl:L.length=S.bd.length){C:Ck}(h:FI S o L C)(hov:C.ov=false):FI S o L (mH S L C):=by
 obtain⟨h1,h2,h3,_,_,h6⟩:=B0 hs hb ho h hov L.length (by omega);exact zL hoo h1 h2 λ i hi=>by rw[h6 i (by omega),h3]
theorem vg{o:Po}(ho:o.rule=2)(hoo:o.ok)(hl:L.length=S.bd.length):∀ (f:Nat) {C:Ck},FI S o L C->FI S o L (dY S L f C)
 | 0,_,h=>h
 | f+1,C,h=>by
  unfold dY
  split
  ·exact h
  ·rename_i hc;exact vg ho hoo hl f (Ds hs hb ho hoo hl h (by simpa using hc))
theorem Fp{o:Po}(ho:o.rule=2)(hoo:o.ok)(hl:L.length=S.bd.length):FI S o L (runM S o L) :=
 vg hs hb ho hoo hl 31 ⟨ob hs hoo,rfl,rfl,λ i=>by
  show(List.replicate S.bd.length false).getD i false=false;rw[List.getD_eq_getElem?_getD,List.getElem?_replicate]
  split<;>rfl,λ x hx=>by simp[dy] at hx,λ x hx=>by simp[dy] at hx⟩
end
theorem B3{S:Se}{L:List Lx}:∀ (f:Nat) (C:Ck),C.cl.length<=(dY S L f C).cl.length
 | 0,C=>Nat.le_refl _
 | f+1,C=>by
  unfold dY
  split
  ·exact Nat.le_refl _
  ·refine Nat.le_trans ?_ (B3 f _);show C.cl.length<=((cv S L C L.length).cl++[vf _]).length;rw[(ve S L C _).2.2,List.length_append]; omega
theorem IK(S:Se)(o:Po)(L:List Lx):0<(runM S o L).cl.length:=by
 unfold runM;rw[show(31:Nat)=30+1 from rfl,dY,if_neg (show ¬ (dy S o).ov=true by show ¬ (false=true); decide)];refine Nat.lt_of_lt_of_le ?_ (B3 30 _);show 0<((cv S L (dy S o) L.length).cl++[vf _]).length;rw[List.length_append,List.length_singleton]; omega
def nC(l:List Ch):List I6:=z6 :: l.map Ch.want
def wQ(l:List Ch)(k:Nat):I6:=(nC l).getD k z6
def cQ(l:List Ch)(i k:Nat):Int:=cost (l.getD i dj).p (l.getD i dj).want-cost (l.getD i dj).p (wQ l k)
def hQ(l:List Ch)(i j:Nat):Bool:=decide (wQ l j=(l.getD i dj).want)
def DW(l:List Ch):Bool:=I9 (cQ l) (hQ l) l.length (l.length+1)
theorem lG(l:List Ch){k:Nat}(hk:k<l.length):wQ l (k+1)=(l.getD k dj).want:=by
 unfold wQ nC;simp[List.getD_eq_getElem?_getD,List.getElem?_map,gE hk]
theorem Cc(l:List Ch):wQ l 0=z6:=rfl
theorem xq(f:Nat->Int):∀ n,∃ B,∀ i,i<n->f i<=B
 | 0=>⟨0,λ i hi=>by omega⟩
 | n+1=>by
  obtain⟨B,hB⟩:=xq f n;refine⟨if B<f n then f n else B,λ i hi=>?_⟩;rcases Nat.lt_or_ge i n with h' | h'
  ·have:=hB i h'; split<;>omega
  ·obtain rfl:i=n:=by omega
   split<;>omega
theorem Eb(l:List Ch):(∃ p,fZ l.length (g1 (gF l)) p)<->∃ p,fZ (l.length+1) (gQ (cQ l) (hQ l) l.length) p:=by
 constructor
 ·rintro⟨p,hp⟩;have hpe:∀ a b,a<l.length->b<l.length->p b<=p a+gF l a b:=λ a b ha hb=>hp a b ha hb _ (List.mem_singleton.2 rfl);have same:∀ a b,a<l.length->b<l.length->(l.getD a dj).want=(l.getD b dj).want->p a=p b:=λ a b ha hb e=>by
   have h1:=hpe a b ha hb;have h2:=hpe b a hb ha;unfold gF iF at h1 h2;rw[e] at h1 h2;omega
  by_cases hz:∃ i0,i0<l.length/\(l.getD i0 dj).want=z6
  ·obtain⟨i0,hi0,ez⟩:=hz;let rep:Nat->Nat:=λ k=>if k=0 then i0 else k-1
   have hrep:∀ k,k<l.length+1->rep k<l.length/\wQ l k=(l.getD (rep k) dj).want:=λ k hk=>by
    by_cases h0:k=0
    ·subst h0; exact⟨hi0,by rw[Cc]; exact ez.symm⟩
    ·have e:rep k=k-1:=if_neg h0;rw[e];refine⟨by omega,?_⟩;have:=lG l (k:=k-1) (by omega)
     rwa [show k-1+1=k by omega] at this
   refine⟨λ k=>-(p (rep k)),λ a b ha hb x hx=>?_⟩;obtain⟨i,hi,hh,rfl⟩:=vG hx;obtain⟨ra,wa⟩:=hrep a ha;obtain⟨rb,wb⟩:=hrep b hb;have hh:=of_decide_eq_true hh;have h1:=hpe i (rep a) hi ra;have h2:=same (rep b) i rb hi (by rw[<- wb]; exact hh);unfold gF iF at h1;show -(p (rep b))<=-(p (rep a)) + -(cQ l i a);unfold cQ;rw[wa];omega
  ·obtain⟨B,hB⟩:=xq (λ i=>-(p i)+cost (l.getD i dj).p (l.getD i dj).want) l.length;refine⟨λ k=>if k=0 then B else -(p (k-1)),λ a b ha hb x hx=>?_⟩;obtain⟨i,hi,hh,rfl⟩:=vG hx;have hh:=of_decide_eq_true hh;have b0:b≠0:=λ e=>by subst e; exact hz ⟨i,hi,by rw[<- hh]; rfl⟩
   have wb:=lG l (k:=b-1) (by omega);rw[show b-1+1=b by omega] at wb;have h2:=same (b-1) i (by omega) hi (by rw[<- wb]; exact hh);show(if b=0 then B else -(p (b-1)))<=(if a=0 then B else -(p (a-1))) + -(cQ l i a);rw[if_neg b0];unfold cQ
   by_cases a0:a=0
   ·subst a0;rw[if_pos rfl,Cc,j6];have:=hB i hi;omega
   ·rw[if_neg a0];have wa:=lG l (k:=a-1) (by omega);rw[show a-1+1=a by omega] at wa;rw[wa];have h1:=hpe i (a-1) hi (by omega);unfold gF iF at h1;omega
 ·rintro⟨p,hp⟩;refine⟨λ i=>-(p (i+1)),λ a b ha hb x hx=>?_⟩
  cases List.mem_singleton.1 hx
  have h1:=hp (b+1) (a+1) (by omega) (by omega) _ (zV (i:=a) (c:=cQ l) (hit:=hQ l) (n:=l.length) ha (dT (lG l ha)));unfold cQ at h1;rw[lG l hb] at h1;show -(p (b+1))<=-(p (a+1))+gF l a b;unfold gF iF;omega
theorem DX{l:List Ch}(h:∀ c∈l,c.Ok):DW l=bO l:=by
 rw[Bool.eq_iff_iff,DW,DV (Nat.succ_pos _),iE,Eb];exact⟨λ hh=>⟨h,hh⟩,λ hh=>hh.2⟩
end Go.Proofs.YtpddenfeaadgpaaGreatDoor
namespace Go.Vc
open Go Go.RowKit
section
variable {α:Type} {P:Program} {t ty e:TypeId} {z:Value} {sz by_:Nat} {f:α->List Value} {w0 w:World} {B:aJ} {a:OA} {c:Nat} {l:List α}
theorem o8(hf:∀ x,(f x).length=sz):∀ (l:List α) (n:Nat),(l.flatMap f).take (n*sz)=(l.take n).flatMap f
 | _,0=>by simp
 | [],n+1=>by simp
 | x :: l,n+1=>by
  have e1:(n+1)*sz=(f x).length+n*sz:=by rw[hf x,Nat.add_mul]; omega
  rw[List.flatMap_cons,e1,List.take_length_add_append,o8 hf l n,List.take_succ_cons,List.flatMap_cons]
theorem tT{z:Array Value}{n:Nat}:(Builtin.zeroCells z n).toList.length=n*z.size:=by simp[Builtin.zeroCells]
theorem tU{z:Array Value}{n:Nat}{Q:Value->Prop}(h0:0<z.size)(h:∀ v∈z.toList,Q v):∀ v∈(Builtin.zeroCells z n).toList,Q v:=by
 intro v hv;simp only[Builtin.zeroCells,Array.toList_map,List.mem_map] at hv;obtain⟨i,_,rfl⟩:=hv;have hi:i%z.size<z.size:=Nat.mod_lt _ h0;rw[getElem!_pos z (i%z.size) hi];exact h _ (Array.getElem_mem_toList hi)
theorem DR(hT:gW P t e z sz by_)(hf:∀ x,(f x).length=sz)(h1:∀ v∈z.cells.toList,v.oneCell' = true){g n:Nat}(h:St w0 w (star (dA e sz f (some ⟨g,0,none⟩) c l) B))(hn:n<=l.length){K:World->Prop}(k:∀ w',St w0 w' (star (dA e sz f (some ⟨g,0,none⟩) c (l.take n)) B)->K w') :
  aW P (Builtin.clear_ #[t] ty #[.slice (if c=n then some ⟨g,0,none⟩ else Option.map (λ x=>Addr.add x (n*sz)) (some ⟨g,0,none⟩)) (l.length-n) (c-n)]) w λ _ w'=>K w':=by
 obtain⟨i,hi,hzz,hs,hby⟩:=hT.i
 by_cases h0:l.length=n
 ·have e0:l.length-n=0:=by omega
  rw[e0];have e1:l.take n=l:=List.take_of_length_le (by omega);rw[e1] at k;refine⟨.tuple #[],w,?_,k w h⟩;generalize(if c=n then _ else _:OA)=a
  cases a<;>simp[Builtin.clear_,run_underlying hT.u]
 ·obtain⟨m,hm⟩:∃ m,l.length-n=m+1:=⟨l.length-n-1,by omega⟩;have hfl:=bu hf l;obtain⟨F,⟨own,rfl⟩,use⟩:=h.use;rcases own.2 with⟨hv,_⟩|⟨g',cap,cur,hv,hb,hg,hnc,hcm,hcs,htake⟩
  ·cases hv
  ·cases hv
   have hz:=hT.zc;have hlen:(Builtin.zeroCells z.cells (m+1)).toList.length=(m+1)*sz:=by rw[tT,hz]
   have one:∀ v∈(Builtin.zeroCells z.cells (m+1)).toList,v.oneCell' = true:=tU (by rw[hz]; exact hT.pos) h1;have hmul:n*sz+(m+1)*sz=l.length*sz:=by rw[<- Nat.add_mul]; congr 1; omega
   have hcap:l.length*sz<=c*sz:=Nat.mul_le_mul_right _ hnc;have hst:=run_storeCells_at P g (n*sz) e (Builtin.zeroCells z.cells (m+1)).toList 0 cur w hg (by rw[hlen,hcs]; omega) one;rw[if_neg (by omega : ¬ c=n),hm];have ea:Option.map (λ x=>Addr.add x (n*sz)) (some (⟨g,0,none⟩:Addr))=some ⟨g,n*sz,none⟩:=by rw[Option.map_some,rE]
   rw[ea];have hrun:(Builtin.clear_ #[t] ty #[.slice (some ⟨g,n*sz,none⟩) (m+1) (c-n)]).run P w=.ok (.tuple #[]) (w.setRow g (cur.toList.take (n*sz+0)++(Builtin.zeroCells z.cells (m+1)).toList++cur.toList.drop (n*sz+0+(Builtin.zeroCells z.cells (m+1)).toList.length)).toArray):=by
    simp[Builtin.clear_,run_underlying hT.u,zeroValue,typeInfo,hi,hzz,hst]
   have htl:(l.take n).length=n:=by rw[List.length_take]; omega
   refine⟨_,_,hrun,k _ (use _ _ ⟨[g],⟨⟨?_,.inr ⟨g,c,_,rfl,hb,setRow_heap w g cur _ e _ hg,?_,hcm,?_,?_⟩⟩,rfl⟩,⟨by simp[World.setRow],λ j _ hj=>setRow_other w g j _ (by simp[Value.ownBlock] at hj; exact hj),⟨rfl,rfl,rfl⟩⟩,λ j hj=>.inl (by simpa[Value.ownBlock] using hj)⟩)⟩
   ·rw[bu hf]
   ·rw[htl]; omega
   ·simp only[List.size_toArray,List.length_append,List.length_take,List.length_drop,Array.length_toList,hlen,hcs];omega
   ·rw[htl,List.append_assoc,List.take_append_of_le_length (by rw[List.length_take,Array.length_toList,hcs]; omega),Nat.add_zero,List.take_take,Nat.min_self,<- o8 hf l n,<- htake,List.take_take,Nat.min_eq_left (by omega)]
end
section
variable {α:Type} {P:Program} {t ty e:TypeId} {z:Value} {sz by_:Nat} {f:α->List Value} {w0 w:World} {B:aJ} {a:OA} {c:Nat} {l:List α}
theorem o6(hf:∀ x,(f x).length=sz):∀ (l:List α) (n:Nat),(l.flatMap f).drop (n*sz)=(l.drop n).flatMap f
 | _,0=>by simp
 | [],n+1=>by simp
 | x :: l,n+1=>by
  have e1:(n+1)*sz=(f x).length+n*sz:=by rw[hf x,Nat.add_mul]; omega
  rw[List.flatMap_cons,e1,List.drop_length_add_append,o6 hf l n,List.drop_succ_cons]
theorem Ib(hT:gW P t e z sz by_)(hf:∀ x,(f x).length=sz)(h1:∀ x,∀ v∈f x,v.oneCell' = true){g i:Nat}(h:St w0 w (star (dA e sz f (some ⟨g,0,none⟩) c l) B))(hi:i<l.length){K:KP}(k:∀ w',St w0 w' (star (dA e sz f (some ⟨g,0,none⟩) c (l.eraseIdx i++l.drop (l.length-1))) B)->K (.slice (some ⟨g,0,none⟩) (l.length-1) c) w') :
  aW P (Builtin.append_ #[t,t] ty #[.slice (some ⟨g,0,none⟩) i c,.slice (if c=i+1 then some ⟨g,0,none⟩ else Option.map (λ x=>Addr.add x ((i+1)*sz)) (some ⟨g,0,none⟩)) (l.length-(i+1)) (c-(i+1))]) w K:=by
 obtain⟨ii,hii,hzz,hs,hby⟩:=hT.i;obtain⟨F,⟨own,rfl⟩,use⟩:=h.use;rcases own.2 with⟨hv,_⟩|⟨g',cap,cur,hv,hb,hg,hnc,hcm,hcs,htake⟩
 ·cases hv
 ·cases hv
  obtain⟨m,hm⟩:∃ m,l.length=i+m+1:=⟨l.length-(i+1),by omega⟩;have hfl:=bu hf l;have hcap:l.length*sz<=c*sz:=Nat.mul_le_mul_right _ hnc;have hmul:l.length*sz=i*sz+m*sz+sz:=by rw[hm,Nat.add_mul,Nat.add_mul]; omega
  have hnl:((l.drop (i+1)).flatMap f).length=m*sz:=by rw[bu hf,List.length_drop]; congr 1; omega
  have hcell:∀ j u,(l.flatMap f)[j]?=some u->w.cell? ((⟨g,0,none⟩:Addr).add j)=some u:=λ j u hj=>own.cells (g:=g) rfl j u hj;obtain⟨q,hq,hnews⟩:∃ q,(if c=i+1 then some (⟨g,0,none⟩:Addr) else Option.map (λ x=>Addr.add x ((i+1)*sz)) (some ⟨g,0,none⟩))=some q/\∀ j u,((l.drop (i+1)).flatMap f)[j]?=some u->w.cell? (q.add j)=some u:=by
   by_cases hc:c=i+1
   ·refine⟨_,by rw[if_pos hc],λ j u hj=>?_⟩;have h0:l.drop (i+1)=[]:=List.drop_eq_nil_of_le (by omega);rw[h0] at hj; simp at hj
   ·refine⟨_,by rw[if_neg hc,Option.map_some],λ j u hj=>?_⟩;rw[<- o6 hf,List.getElem?_drop] at hj;rw[Addr.add_add];exact hcell _ _ hj
  rw[hq];have e1:l.length-(i+1)=m:=by omega
  rw[e1];have hr:=run_append_room (P:=P) w t ty e ii hT.u hii g i c cur hg q m (c-(i+1)) ((l.drop (i+1)).flatMap f) (by rw[hnl,hs]) hnews (λ u hu=>by
   obtain⟨x,_,hx⟩:=List.mem_flatMap.1 hu;exact h1 x u hx) (by omega) (by rw[hnl,hs,hcs]; omega)
  have hlen:(l.eraseIdx i++l.drop (l.length-1)).length=l.length:=by rw[List.length_append,List.length_eraseIdx_of_lt hi,List.length_drop]; omega
  have e2:l.length-1=i+m:=by omega
  rw[e2] at k;rw[e2] at hlen;refine⟨_,_,hr,k _ (use _ _ ⟨[g],⟨⟨?_,.inr ⟨g,c,_,?_,hb,setRow_heap w g cur _ e _ hg,?_,hcm,?_,?_⟩⟩,rfl⟩,⟨by simp[World.setRow],λ j _ hj=>setRow_other w g j _ (by simp[Value.ownBlock] at hj; exact hj),⟨rfl,rfl,rfl⟩⟩,λ j hj=>.inl (by simpa[Value.ownBlock] using hj)⟩)⟩
  ·rw[bu hf]
  ·rfl
  ·rw[hlen]; omega
  ·simp only[List.size_toArray,List.length_append,List.length_take,List.length_drop,Array.length_toList,hnl,hs,hcs];omega
  ·rw[hlen,hs,hnl];have a1:cur.toList.take (i*sz)=(l.take i).flatMap f:=by
    rw[<- o8 hf l i,<- htake,List.take_take,Nat.min_eq_left (by omega)]
   have a2:(cur.toList.drop (i*sz+m*sz)).take sz=(l.drop (i+m)).flatMap f:=by
    rw[<- o6 hf,<- htake,List.drop_take,Nat.add_mul]
    congr 1
    omega
   have a3:((l.take i).flatMap f).length=i*sz:=by rw[bu hf,List.length_take]; congr 1; omega
   rw[List.eraseIdx_eq_take_drop_succ,List.flatMap_append,List.flatMap_append,<- a2,hmul,a1,List.take_append,List.length_append,a3,hnl,List.take_of_length_le (by rw[List.length_append,a3,hnl]; omega)]
   congr 2
   omega
end
end Go.Vc
namespace Go.Proofs.YtpddenfeaadgpaaGreatDoor
open Go Go.Vc _root_.Go.Proofs.Tryz
def qo(a:OA)(b c:Nat)(d:OA)(e f:Nat)(w:World)(K:KP):=CC 59 #[.slice a b c] w λ g h=>∃ i,g=.returned (.bool i)/\cond (!i) (K qn h) (CC 108 #[.slice d e f] h λ d e=>∃ f g h,d=.returned (.slice f g h)/\∃ d:OA->Nat->Nat->qN,(∃ i,d f g h e i)/\∀ e i f g h,d f g h e i->∀ j:qv,CC 26 #[.slice a b c,.slice f g h] e λ a b=>∃ c e,a=.returned (.tuple #[iv c,iv e])/\cond (e==0) (K (.slice f g h) b) (CC 109 #[.slice f g h,iv c,iv (IntKind.i64.wrap (c+1))] b λ a b=>∃ c e f,a=.returned (.slice c e f)/\∃ a,a<i/\d c e f b a))
theorem sO{a1 l1 c1 a2 l2 c2 w K}(h:qo a1 l1 c1 a2 l2 c2 w K):CP 58 #[.slice a1 l1 c1,.slice a2 l2 c2] w K:=aj (aC [(30,[(5,.s .slice)])]) func58 (by kernel_rfl) (by kernel_rfl) h
def iJ(a:Nat)(b:Int)(c:OA)(d e:Nat)(w:World)(K:KP):=CC 24 #[qp a,iv b] w λ a f=>∃ g h i,a=.returned (.slice g h i)/\CC 58 #[.slice g h i,.slice c d e] f λ a c=>∃ d e f,a=.returned (.slice d e f)/\∃ a:OA->Nat->Nat->Int->qN,(∃ f,a none 0 0 0 c f)/\∀ c f g h i j,a g h i j c f->∀ k:qv,cond (decide (j<(e:Int))) (ak d λ d=>0<=j/\j<(e:Int)/\∃ e,∃ k:I6,∃ l,af c (Addr.add d ((j).toNat*8)) 0 (iv e :: k.on [iv l])/\au c (.cells #[qz,qz,qz,qz,qz,qz,qz,qz] 81) λ d m=>aN (qd d 0) 0 (iv e :: k.on [iv l]) m λ e=>dW e (qd d 0) (iv b) λ b=>∃ e,∃ k:I6,∃ l,af b (qd d 0) 0 (iv e :: k.on [iv l])/\au b (.cells (iv e :: k.on [iv l]:List Value).toArray 81) λ b d=>aW prog (Builtin.append_ #[28,28] 28 #[.slice g h i,.slice (some (qd b 0)) 1 1]) d λ b d=>∃ e k l,b=(.slice e k l)/\∃ b,b<f/\a e k l (IntKind.i64.wrap (j+1)) d b) (K (.slice g h i) c)
theorem lS{b1 n1 a1 l1 c1 w K}(h:iJ b1 n1 a1 l1 c1 w K):CP 25 #[.pointer (some ⟨b1,0,none⟩),iv n1,.slice a1 l1 c1] w K:=aj (aC [(122,[(7,.s .slice),(18,.s (.int .i64))])]) func25 (by kernel_rfl) (by kernel_rfl) h
def dS(a:OA)(b c:Nat)(d:OA)(e f:Nat)(g:OA)(h i:Nat)(j:OA)(k l:Nat)(m n o p:Int)(q:OA)(r s:Nat)(t:Int)(u:OA)(v x:Nat)(w:World)(K:KP):=au w (.cells #[.slice a b c,.slice d e f,.slice g h i,.slice j k l] 27) λ a b=>au b (.cells #[iv m,iv n,iv o,iv p] 41) λ b c=>∃ d:Bool->qW,(∀ e f,d f e->∀ g:qv,cond f (CC 9 #[] e λ f g=>∃ h,f=.returned (.bool h)/\K (.bool h) g) (∃ f g h i j k l m n o p y,af e (qd a 0) 0 [.slice f g h,.slice i j k,.slice l m n,.slice o p y]/\∃ z A B C,af e (qd b 0) 0 [iv z,iv A,iv B,iv C]/\CC 12 #[.agg #[.slice f g h,.slice i j k,.slice l m n,.slice o p y],.agg #[iv z,iv A,iv B,iv C],.slice q r s] e λ b e=>∃ f g,b=.returned (.tuple #[.pointer f,iv g])/\cond (g !=0) (CC 9 #[] e λ b g=>∃ h,b=.returned (.bool h)/\K (.bool h) g) (cond (f).isNone (K (.bool false) e) (CC 24 #[.pointer f,iv t] e λ b e=>∃ g h i,b=.returned (.slice g h i)/\CC 25 #[.pointer f,iv t,.slice u v x] e λ b e=>∃ f j k,b=.returned (.slice f j k)/\CC 26 #[.slice g h i,.slice f j k] e λ b e=>∃ l m,b=.returned (.tuple #[iv l,iv m])/\cond (m==0) (CC 28 #[.slice g h i,iv t,.slice u v x] e λ b g=>∃ h i l,b=.returned (.slice h i l)/\CC 27 #[.slice f j k,.slice h i l] g λ b f=>∃ g,b=.returned (.bool g)/\cond g (CC 9 #[] f λ b g=>∃ h,b=.returned (.bool h)/\K (.bool h) g) (K (.bool false) f)) (K (.bool false) e)))))/\∃ b e f g h i j k l m n o,af c (qd a 0) 0 [.slice b e f,.slice g h i,.slice j k l,.slice m n o]/\CC 8 #[.agg #[.slice b e f,.slice g h i,.slice j k l,.slice m n o],.slice q r s] c λ a b=>∃ c,a=.returned (.bool c)/\cond (!c) (d true b) (d (decide ((v:Int)>(14:Int))) b)
theorem gi{a1 l1 c1 a2 l2 c2 a3 l3 c3 a4 l4 c4 n1 n2 n3 n4 a5 l5 c5 n5 a6 l6 c6 w K}(h:dS a1 l1 c1 a2 l2 c2 a3 l3 c3 a4 l4 c4 n1 n2 n3 n4 a5 l5 c5 n5 a6 l6 c6 w K):CP 7 #[.agg #[.slice a1 l1 c1,.slice a2 l2 c2,.slice a3 l3 c3,.slice a4 l4 c4],.agg #[iv n1,iv n2,iv n3,iv n4],.slice a5 l5 c5,iv n5,.slice a6 l6 c6] w K:=aj (aC [(6,[(25,.s .bool)])]) func7 (by kernel_rfl) (by kernel_rfl) h
def fX(a:OA)(b c:Nat)(w:World)(K:KP):=cond (a).isNone (K qn w) (au w (.cells #[] 81) λ d e=>aW prog (Builtin.append_ #[28,28] 28 #[.slice (some (qd d 0)) 0 0,.slice a b c]) e λ a b=>∃ c d e,a=(.slice c d e)/\K (.slice c d e) b)
theorem jN{a1 l1 c1 w K}(h:fX a1 l1 c1 w K):CP 108 #[.slice a1 l1 c1] w K:=aj (aC []) func108 (by kernel_rfl) (by kernel_rfl) h
def fq(a:OA)(b c:Nat)(d e:Int)(w:World)(K:KP):=0<=(b:Int)/\(b:Int)<=(c:Int)/\0<=e/\e<=((((b:Int)).toNat:Nat):Int)/\0<=d/\d<=(((e).toNat:Nat):Int)/\cond (d==e) (K (.slice a b c) w) (0<=d/\d<=(c:Int)/\0<=e/\e<=(b:Int)/\aW prog (Builtin.append_ #[28,28] 28 #[.slice (if c=0 then a else Option.map (λ x=>Addr.add x (0*8)) a) ((d).toNat-0) (c-0),.slice (if c=(e).toNat then a else Option.map (λ x=>Addr.add x ((e).toNat*8)) a) (b-(e).toNat) (c-(e).toNat)]) w.drew λ a c=>∃ d e f,a=(.slice d e f)/\0<=(b:Int)/\(b:Int)<=(f:Int)/\0<=(e:Int)/\(e:Int)<=((((b:Int)).toNat:Nat):Int)/\aW prog (Builtin.clear_ #[28] 0 #[.slice (if f=((e:Int)).toNat then d else Option.map (λ x=>Addr.add x (((e:Int)).toNat*8)) d) (((b:Int)).toNat-((e:Int)).toNat) (f-((e:Int)).toNat)]) c λ _e1 a=>K (.slice d e f) a)
theorem ji{a1 l1 c1 n1 n2 w K}(h:fq a1 l1 c1 n1 n2 w K):CP 109 #[.slice a1 l1 c1,iv n1,iv n2] w K:=aj (aC []) func109 (by kernel_rfl) (by kernel_rfl) h
theorem DT{w0 w:World}{B:aJ}(s:St w0 w B){a:OA}{c:Nat}{l:List Of}(h:iQ w a l)(hl:l.length<=100000) :
  CP 108 #[.slice a l.length c] w (λ r w'=>∃ a' c',r=.slice a' l.length c'/\St w0 w' (star (cw a' c' l) B)):=by
 refine jN ?_;unfold fX;exact iD (c:=c) (K:=λ r w'=>∃ a' c',r=.slice a' l.length c'/\St w0 w' (star (cw a' c' l) B)) zo Of.len Of.one s h (by omega) (by omega) λ a' c' w' s'=>⟨a',c',rfl,s'⟩
theorem Cy{w0 w:World}{B:aJ}{a:OA}{c:Nat}{l:List Of}(s:St w0 w (star (cw a c l) B)){i:Nat}(hi:i<l.length)(hl:l.length<=100000) :
  CP 109 #[.slice a l.length c,iv i,iv ((i:Int)+1)] w (λ r w'=>r=.slice a (l.eraseIdx i).length c/\St w0 w' (star (cw a c (l.eraseIdx i)) B)):=by
 refine ji ?_;unfold fq;obtain⟨hc,_⟩:=s.sU;obtain⟨g,rfl⟩:=s.kO (by omega);refine⟨by omega,by omega,by omega,by omega,by omega,by omega,cF (by simp; omega) ⟨by omega,by omega,by omega,by omega,?_⟩⟩;have s1:=s.quiet (ax.drew w []);have eA:(if c=0 then some (⟨g,0,none⟩:Addr) else Option.map (λ x=>Addr.add x (0*8)) (some ⟨g,0,none⟩))=some ⟨g,0,none⟩:=by split<;>simp[Addr.add]
 have eB:((i:Int)+1).toNat=i+1:=by omega
 have eL:(l.eraseIdx i).length=l.length-1:=List.length_eraseIdx_of_lt hi;rw[eA,eB];simp only[Int.toNat_natCast,Nat.sub_zero];refine Ib zo Of.len Of.one s1 hi λ w2 s2=>⟨_,_,_,rfl,by omega,by omega,by omega,by omega,?_⟩;have hlen:(l.eraseIdx i++l.drop (l.length-1)).length=l.length:=by rw[List.length_append,eL,List.length_drop]; omega
 have hcl:=DR (ty:=0) (n:=l.length-1) (K:=λ w'=>(Value.slice (some ⟨g,0,none⟩) (l.length-1) c)=.slice (some ⟨g,0,none⟩) (l.eraseIdx i).length c/\St w0 w' (star (cw (some ⟨g,0,none⟩) c (l.eraseIdx i)) B)) zo Of.len (λ v hv=>Of.one FQ v (by have hv' : v∈FQ.cells.toArray.toList:=hv; simpa using hv')) s2 (by omega) λ w3 s3=>⟨by rw[eL],by
  rw[List.take_append_of_le_length (by omega),List.take_of_length_le (by omega)] at s3;exact s3⟩
 rw[hlen] at hcl;exact hcl
theorem vF{α:Type}{p:α->Bool}:∀ {l:List α},l.any p=true->xO p l<l.length
 | y :: l,h=>by
  rw[xO]
  split
  ·simp
  ·rename_i hn;rw[List.any_cons,Bool.or_eq_true] at h;have:=vF (h.resolve_left hn);simp only[List.length_cons]; omega
theorem oA{l:List Ch}{bids:List Of}(h:gk l bids≠0):gq l bids<bids.length:=by
 unfold gk at h;unfold gq
 by_cases g:bids.all eX=true
 ·rw[if_pos g] at h ⊢
  by_cases g2:bids.any (fk l bids)=true
  ·rw[if_pos g2]; exact vF g2
  ·rw[if_neg g2] at h; exact absurd rfl h
 ·rw[if_neg g];refine vF ?_
  cases hh:bids.any λ x=>!eX x with
  | true=>rfl
  | false =>
   exfalso; apply g
   rw[List.all_eq_true];intro x hx;have:=List.any_eq_false.1 hh x hx;simpa using this
def bT(l:List Ch):Nat->List Of->List Of
 | 0,bids=>bids
 | n+1,bids=>if gk l bids=0 then bids else bT l n (bids.eraseIdx (gq l bids))
theorem lE{l:List Ch}:∀ (n:Nat) (bids:List Of),bids.length<=n->gk l (bT l n bids)=0/\(bT l n bids).length<=bids.length
 | 0,bids,h=>by
  have:bids=[]:=List.eq_nil_of_length_eq_zero (by omega);subst this;exact⟨rfl,Nat.le_refl _⟩
 | n+1,bids,h=>by
  unfold bT
  by_cases g:gk l bids=0
  ·rw[if_pos g]; exact⟨g,Nat.le_refl _⟩
  ·rw[if_neg g];have h1:=List.length_eraseIdx_of_lt (oA g);have:=oA g;obtain⟨i1,i2⟩:=lE n (bids.eraseIdx (gq l bids)) (by omega);exact⟨i1,by omega⟩
theorem vl{l:List Ch}{n:Nat}{bids:List Of}(h:gk l bids=0):bT l n bids=bids:=by
 cases n with
 | zero=>rfl
 | succ n=>rw[bT,if_pos h]
theorem vm{l:List Ch}{bids:List Of}(h:gk l bids≠0):bT l bids.length bids=bT l (bids.eraseIdx (gq l bids)).length (bids.eraseIdx (gq l bids)):=by
 have h1:=oA h;have h2:=List.length_eraseIdx_of_lt h1;obtain⟨n,hn⟩:∃ n,bids.length=n+1:=⟨bids.length-1,by omega⟩;rw[h2,hn,Nat.add_sub_cancel,bT,if_neg h]
theorem IS{w:World}{a1 a2:OA}{c1 c2:Nat}{l:List Ch}{bids:List Of}(hr:nG w a1 l)(hl:l.length<=1000)(ho:∀ c∈l,c.Ok)(hb:iQ w a2 bids)(hbl:bids.length<=100000) :
  CP 58 #[.slice a1 l.length c1,.slice a2 bids.length c2] w (λ r w'=>∃ a c,r=.slice a (bT l bids.length bids).length c/\St w w' (cw a c (bT l bids.length bids))):=by
 refine sO ?_;unfold qo;refine aq (B7 hr hl ho) ?_;rintro v w1 ⟨rfl,d1⟩;refine⟨_,rfl,cF rfl (aq (DT ((St.start w).one.quiet d1) (hb.an d1) hbl) ?_)⟩;rintro v w2 ⟨a',c',rfl,s2⟩;have s2:St w w2 (Sep [cw a' c' bids,emp]):=s2;refine⟨_,_,_,rfl,λ a3 l3 c3 w3 m=>∃ cur:List Of,l3=cur.length/\m=cur.length/\cur.length<=100000/\bT l cur.length cur=bT l bids.length bids/\St w w3 (Sep [cw a3 c3 cur,emp]),⟨bids.length,bids,rfl,rfl,hbl,rfl,s2⟩,?_⟩;rintro w3 m a3 l3 c3 ⟨cur,rfl,rfl,hcl,he,s3⟩ -;have hrd:iQ w3 a3 cur:=St.rd Of.len (s3.out 0 rfl);refine aq (qs (hr.an s3.an) hl ho hrd hcl) ?_;rintro v w4 ⟨rfl,c4⟩;have s4:St w w4 (Sep [cw a3 c3 cur,emp]):=s3.quiet c4;refine⟨_,_,rfl,?_⟩
 by_cases g:gk l cur=0
 ·rw[vl g] at he;refine cT (by rw[g]; rfl) ⟨a3,c3,by rw[<- he],?_⟩;rw[<- he]; exact s4.first
 ·have hi:=oA g;refine cF (by simpa using g) ?_;rw[ay ⟨by omega,by omega⟩];refine aq (Cy (B:=Sep [emp]) s4 hi hcl) ?_;rintro v w5 ⟨rfl,s5⟩;have hle:=List.length_eraseIdx_of_lt hi;exact⟨_,_,_,rfl,(cur.eraseIdx (gq l cur)).length,by omega,_,rfl,rfl,by omega,by rw[<- vm g]; exact he,s5⟩
def bI(C:Ck)(n:Int):List Ch:=if n<0\/(C.s.bd.length:Int)<=n then [] else fz C n.toNat
abbrev nu (a:OA) (c:Nat) (l:List Ch):aJ:=dA 90 12 Ch.cells a c l
theorem rQ(C:Ck)(n:Int):(bI C n).length<=C.cl.length:=by
 unfold bI fz
 split<;>simp
theorem rR{w:World}{g:Nat}{C:Ck}(h:C.Rd g w)(hk:C.Ok)(n:Int) :
  CP 24 #[pt g,iv n] w (λ r w'=>∃ a c,r=.slice a (bI C n).length c/\St w w' (nu a c (bI C n))):=by
 by_cases h0:n<0\/(C.s.bd.length:Int)<=n
 ·refine dQ ?_;unfold de;refine⟨λ b w1=>b=true/\w1=w,?_,aq (Aa h n) ?_⟩
  ·rintro w1 b ⟨rfl,rfl⟩ -;unfold bI;rw[if_pos h0];exact cT rfl ⟨none,0,rfl,(St.start w1).gU.first⟩
  ·rintro _ w1 ⟨rfl,rfl⟩;refine⟨_,rfl,?_,rfl⟩;rcases h0 with h0|h0
   ·rw[dF (by omega)]; rfl
   ·rw[dF (show ¬ n<(C.dp.length:Int) by have:=hk.dp; omega),Bool.and_false]; rfl
 ·obtain⟨k,rfl⟩:∃ k:Nat,n=(k:Int):=⟨n.toNat,by omega⟩;have e:bI C (k:Int)=fz C k:=by unfold bI; rw[if_neg h0,Int.toNat_natCast]
  rw[e];exact uh h hk (by omega)
def dh(n:Int)(x:Of):Of:={ x with b:=n }
def tR(C:Ck)(n:Int)(l:List Of):List Of:=(bT (bI C n) l.length l).map (dh n)
theorem wO{w:World}{g:Nat}{C:Ck}(h:C.Rd g w)(hk:C.Ok)(hcl:C.cl.length<=1000)(hco:∀ n,∀ c∈bI C n,c.Ok)(n:Int){a:OA}{c:Nat}{l:List Of}(hl:iQ w a l)(hlen:l.length<=100000) :
  CP 25 #[pt g,iv n,.slice a l.length c] w (λ r w'=>∃ a' c',r=.slice a' (tR C n l).length c'/\St w w' (cw a' c' (tR C n l))):=by
 refine lS ?_;unfold iJ;refine aq (rR h hk n) ?_;rintro v w1 ⟨a1,c1,rfl,s1⟩;have hn:=rQ C n;have hrc:nG w1 a1 (bI C n):=St.rd (B:=emp) (λ _=>rfl) s1.one;refine⟨_,_,_,rfl,aq (IS hrc (by omega) (hco n) (hl.an s1.an) hlen) ?_⟩;rintro v w2 ⟨a2,c2,rfl,s2⟩;have c02:ax w w2 []:=s1.an.trans s2.an (by simp);have s3:=(St.start w2).one;have hT:=(lE (l:=bI C n) l.length l (Nat.le_refl _)).2;have hrd0:∀ {w'},ax w2 w' []->iQ w' a2 (bT (bI C n) l.length l):=λ hc=>bU.an (St.rd (B:=emp) Of.len s2.one) hc;have hsm:tR C n l=(bT (bI C n) l.length l).map (dh n):=rfl;generalize bT (bI C n) l.length l=T at hT hrd0 hsm;refine⟨_,_,_,rfl,λ a4 l4 c4 i w3 m=>∃ k:Nat,i=k/\k<=T.length/\m=T.length-k/\l4=((T.take k).map (dh n)).length/\St w2 w3 (Sep [cw a4 c4 ((T.take k).map (dh n)),emp]),⟨T.length,0,rfl,by omega,by omega,rfl,s3.gU⟩,?_⟩;rintro w3 m a4 l4 c4 i ⟨k,rfl,hk2,hm,rfl,s4⟩ -
 by_cases hlt:(k:Int)<(T.length:Int)
 ·have hx:T[k]?=some (T[k]'(by omega)):=gE (by omega);generalize T[k]'(by omega)=y at hx;obtain⟨p,hp,hcl2⟩:=(hrd0 s4.an).at hx;have hlen4:((T.take k).map (dh n)).length<=100000:=by rw[List.length_map,List.length_take]; omega
  refine cT (dT hlt) (ai hp ⟨by omega,by omega,_,y.want,_,hcl2,s4.av FQ.cells.toArray λ r1 w4 s5=>s5.az 0 rfl y.cells rfl y.one λ w5 s6=>?_⟩);refine s6.bL 0 rfl (j:=0) (by show 0<8; decide) rfl λ w6 s7=>?_;have s7:St w2 w6 (Sep [ah r1 (dh n y).cells.toArray 81,cw a4 c4 ((T.take k).map (dh n)),emp]):=s7;refine⟨_,(dh n y).want,_,s7.cellsIn 0 rfl,s7.av (dh n y).cells.toArray λ r2 w7 s8=>?_⟩;refine aY (l2:=[dh n y]) zo Of.len Of.one (s8.out 2 rfl) (cH (s8.cellsIn 0 rfl) rfl) (by simp only[List.length_singleton]; omega) (by simp only[List.length_singleton]; omega) λ a' c' w9 s9=>?_;have s9:=s9.back (i:=2) (by show 2<4; decide);have e1:(T.take k).map (dh n)++[dh n y]=(T.take (k+1)).map (dh n):=by rw[aQ hx,List.map_append]; rfl
  rw[e1] at s9 ⊢;exact⟨T.length-(k+1),by omega,k+1,ay ⟨by omega,by omega⟩,by omega,rfl,rfl,s9.aA [2,3]⟩
 ·obtain rfl:T.length=k:=by omega
  rw[List.take_length] at s4 ⊢;rw[hsm];exact cF (dF hlt) ⟨_,_,rfl,(((St.start w).one.quiet c02).and s4.first).first⟩
def yY(a b:I6)(w:World)(K:KP):=au w (.cells (a.on (b.vs):List Value).toArray 90) λ a b=>∃ c:I6,af b (qd a 6) 0 c.vs/\CC 84 #[.agg c.vs.toArray] b λ b c=>∃ d,b=.returned (iv d)/\cond (d==0) (∃ b:I6,af c (qd a 0) 0 b.vs/\CC 42 #[.agg b.vs.toArray] c λ a b=>∃ d,a=.returned (.bool d)/\K (.bool d) b) (K (.bool false) c)
theorem yZ{u1 u2 w K}(h:yY u1 u2 w K):CP 153 #[.agg (u1.on (u2.vs):List Value).toArray] w K:=aj (aC []) func153 (by kernel_rfl) (by kernel_rfl) h
def EY(a:OA)(b c:Nat)(w:World)(K:KP):=∃ c:Int->qN,(∃ d,c 0 w d)/\∀ e d f,c f e d->∀ g:qv,cond (decide (f<(b:Int))) (ak a λ a=>0<=f/\f<(b:Int)/\∃ b g:I6,af e (Addr.add a ((f).toNat*12)) 0 (b.on (g.vs))/\CC 153 #[.agg (b.on (g.vs):List Value).toArray] e λ a b=>∃ g,a=.returned (.bool g)/\cond (!g) (K (.bool false) b) (∃ a,a<d/\c (IntKind.i64.wrap (f+1)) b a)) (K (.bool true) e)
theorem CX{a1 l1 c1 w K}(h:EY a1 l1 c1 w K):CP 112 #[.slice a1 l1 c1] w K:=aj (aC [(26,[(3,.s (.int .i64))])]) func112 (by kernel_rfl) (by kernel_rfl) h
def BK(a b c:I6)(w:World)(K:KP):=au w (.cells (a.on (b.vs):List Value).toArray 90) λ a b=>au b (.cells c.vs.toArray 35) λ b c=>∃ d:I6,af c (qd a 0) 0 d.vs/\∃ a:I6,af c (qd b 0) 0 a.vs/\CC 86 #[.agg d.vs.toArray,.agg a.vs.toArray] c λ a b=>∃ c,a=.returned (iv c)/\K (iv c) b
theorem Au{u1 u2 u3 w K}(h:BK u1 u2 u3 w K):CP 188 #[.agg (u1.on (u2.vs):List Value).toArray,.agg u3.vs.toArray] w K:=aj (aC []) func188 (by kernel_rfl) (by kernel_rfl) h
def yS(a:Int)(b:I6)(c:Int)(w:World)(K:KP):=au w (.cells (iv a :: b.on [iv c]:List Value).toArray 81) λ a b=>∃ c:I6,af b (qd a 1) 0 c.vs/\CC 84 #[.agg c.vs.toArray] b λ b c=>∃ d,b=.returned (iv d)/\cond (d==0) (∃ b:I6,af c (qd a 1) 0 b.vs/\cond (!(I6.beq b z6)) (∃ b,c.cell? (qd a 7)=some (iv b)/\cond (decide (b>=1)) (∃ b,c.cell? (qd a 7)=some (iv b)/\K (.bool (decide (b<=1000000))) c) (K (.bool false) c)) (K (.bool false) c)) (K (.bool false) c)
theorem yT{n1 u1 n2 w K}(h:yS n1 u1 n2 w K):CP 154 #[.agg (iv n1 :: u1.on [iv n2]:List Value).toArray] w K:=aj (aC []) func154 (by kernel_rfl) (by kernel_rfl) h
def yN(a:OA)(b c:Nat)(d:OA)(e f:Nat)(g:I6)(w:World)(K:KP):=au w (.cells g.vs.toArray 35) λ c f=>∃ g:Int->Int->qN,(∃ h,g 0 (0:Int) f h)/\∀ f h i j,g i j f h->∀ k:qv,cond (decide (j<(b:Int))) (∃ k:Int->qW,(∀ l m,k m l->∀ n:qv,∃ n,n<h/\g m (IntKind.i64.wrap (j+1)) l n)/\ak a λ g=>0<=j/\j<(b:Int)/\∃ h:I6,af f.drew (Addr.add (Addr.add g ((j).toNat*12)) 6) 0 h.vs/\∃ g:I6,af f.drew (qd c 0) 0 g.vs/\cond (I6.beq h g) (ak a λ a=>0<=j/\j<(b:Int)/\∃ b g:I6,af f.drew.drew (Addr.add a ((j).toNat*12)) 0 (b.on (g.vs))/\∃ a:I6,af f.drew.drew (qd c 0) 0 a.vs/\CC 188 #[.agg (b.on (g.vs):List Value).toArray,.agg a.vs.toArray] f.drew.drew λ a b=>∃ g,a=.returned (iv g)/\k (if g>i then g else i) b) (k i f.drew)) (∃ a:Int->Int->qN,(∃ b,a i 0 f b)/\∀ f b g h,a g h f b->∀ i:qv,cond (decide (h<(e:Int))) (∃ i:Int->qW,(∀ j k,i k j->∀ l:qv,∃ l,l<b/\a k (IntKind.i64.wrap (h+1)) j l)/\∃ a:Bool->qW,(∀ b j,a j b->∀ k:qv,cond j (ak d λ j=>0<=h/\h<(e:Int)/\∃ k,b.cell? (Addr.add (Addr.add j ((h).toNat*8)) 7)=some (iv k)/\i (if k>g then k else g) b) (i g b))/\ak d λ b=>0<=h/\h<(e:Int)/\∃ i,∃ j:I6,∃ k,af f.drew (Addr.add b ((h).toNat*8)) 0 (iv i :: j.on [iv k])/\CC 154 #[.agg (iv i :: j.on [iv k]:List Value).toArray] f.drew λ b i=>∃ j,b=.returned (.bool j)/\cond j (ak d λ b=>0<=h/\h<(e:Int)/\∃ d:I6,af i (Addr.add (Addr.add b ((h).toNat*8)) 1) 0 d.vs/\∃ b:I6,af i (qd c 0) 0 b.vs/\a (I6.beq d b) i) (a false i)) (K (iv g) f))
theorem yO{a1 l1 c1 a2 l2 c2 u1 w K}(h:yN a1 l1 c1 a2 l2 c2 u1 w K):CP 187 #[.slice a1 l1 c1,.slice a2 l2 c2,.agg u1.vs.toArray] w K:=aj (aC [(58,[(7,.s (.int .i64)),(8,.s (.int .i64))]),(233,[(7,.s (.int .i64))]),(122,[(7,.s (.int .i64)),(9,.s (.int .i64))]),(489,[(7,.s (.int .i64))]),(1956,[(50,.s .bool)])]) func187 (by kernel_rfl) (by kernel_rfl) h
def BU(a:OA)(b c:Nat)(d:OA)(e f:Nat)(g:I6)(w:World)(K:KP):=au w (.cells g.vs.toArray 35) λ g h=>∃ i:Bool->qW,(∀ j k,i k j->∀ l:qv,cond k (K qz j) (∃ k:Int->Int->qN,(∃ l,k 1000000 (0:Int) j l)/\∀ j l m n,k m n j l->∀ o:qv,cond (decide (n<(b:Int))) (∃ o:Int->qW,(∀ p q,o q p->∀ r:qv,∃ r,r<l/\k q (IntKind.i64.wrap (n+1)) p r)/\ak a λ k=>0<=n/\n<(b:Int)/\∃ l:I6,af j.drew (Addr.add (Addr.add k ((n).toNat*12)) 6) 0 l.vs/\∃ k:I6,af j.drew (qd g 0) 0 k.vs/\cond (!(I6.beq l k)) (ak a λ k=>0<=n/\n<(b:Int)/\∃ l:I6,af j.drew.drew (Addr.add (Addr.add k ((n).toNat*12)) 6) 0 l.vs/\ak a λ k=>0<=n/\n<(b:Int)/\∃ p q:I6,af j.drew.drew (Addr.add k ((n).toNat*12)) 0 (p.on (q.vs))/\∃ r:I6,af j.drew.drew (qd g 0) 0 r.vs/\ak a λ s=>0<=n/\n<(b:Int)/\∃ t u:I6,af j.drew.drew (Addr.add s ((n).toNat*12)) 0 (t.on (u.vs))/\ak a λ v=>0<=n/\n<(b:Int)/\∃ x:I6,af j.drew.drew (Addr.add (Addr.add v ((n).toNat*12)) 6) 0 x.vs/\CC 187 #[.slice a b c,.slice d e f,.agg l.vs.toArray] j.drew.drew λ d e=>∃ f,d=.returned (iv f)/\af e (Addr.add (Addr.add v ((n).toNat*12)) 6) 0 x.vs/\af e (Addr.add s ((n).toNat*12)) 0 (t.on (u.vs))/\af e (qd g 0) 0 r.vs/\af e (Addr.add k ((n).toNat*12)) 0 (p.on (q.vs))/\CC 188 #[.agg (p.on (q.vs):List Value).toArray,.agg r.vs.toArray] e λ d e=>∃ k,d=.returned (iv k)/\af e (Addr.add (Addr.add v ((n).toNat*12)) 6) 0 x.vs/\af e (Addr.add s ((n).toNat*12)) 0 (t.on (u.vs))/\CC 188 #[.agg (t.on (u.vs):List Value).toArray,.agg x.vs.toArray] e λ d e=>∃ l,d=.returned (iv l)/\o (if (IntKind.i64.wrap ((IntKind.i64.wrap (f+k))-l))<m then (IntKind.i64.wrap ((IntKind.i64.wrap (f+k))-l)) else m) e) (o m j.drew)) (K (iv m) j)))/\CC 112 #[.slice a b c] h λ a b=>∃ c,a=.returned (.bool c)/\cond (!c) (i true b) (∃ a:I6,af b (qd g 0) 0 a.vs/\CC 84 #[.agg a.vs.toArray] b λ a b=>∃ c,a=.returned (iv c)/\i (c !=0) b)
theorem Ay{a1 l1 c1 a2 l2 c2 u1 w K}(h:BU a1 l1 c1 a2 l2 c2 u1 w K):CP 155 #[.slice a1 l1 c1,.slice a2 l2 c2,.agg u1.vs.toArray] w K:=aj (aC [(6,[(16,.s .bool)]),(122,[(7,.s (.int .i64)),(8,.s (.int .i64))]),(489,[(7,.s (.int .i64))])]) func155 (by kernel_rfl) (by kernel_rfl) h
def yF(a:OA)(b c:Nat)(d:OA)(e f:Nat)(w:World)(K:KP):=CC 112 #[.slice a b c] w λ g h=>∃ i,g=.returned (.bool i)/\cond (!i) (K (.tuple #[qz,iv 4]) h) (∃ g:Int->qN,(∃ i,g 0 h i)/\∀ h i j,g j h i->∀ k:qv,cond (decide (j<(e:Int))) (ak d λ k=>0<=j/\j<(e:Int)/\∃ l,∃ m:I6,∃ n,af h (Addr.add k ((j).toNat*8)) 0 (iv l :: m.on [iv n])/\CC 154 #[.agg (iv l :: m.on [iv n]:List Value).toArray] h λ k l=>∃ m,k=.returned (.bool m)/\cond (!m) (K (.tuple #[iv j,iv 4]) l) (∃ k,k<i/\g (IntKind.i64.wrap (j+1)) l k)) (∃ g:Int->qN,(∃ i,g 0 h i)/\∀ h i j,g j h i->∀ k:qv,cond (decide (j<(e:Int))) (ak d λ k=>0<=j/\j<(e:Int)/\∃ l,h.drew.cell? (Addr.add (Addr.add k ((j).toNat*8)) 7)=some (iv l)/\ak d λ m=>0<=j/\j<(e:Int)/\∃ n:I6,af h.drew (Addr.add (Addr.add m ((j).toNat*8)) 1) 0 n.vs/\CC 155 #[.slice a b c,.slice d e f,.agg n.vs.toArray] h.drew λ a b=>∃ c,a=.returned (iv c)/\b.cell? (Addr.add (Addr.add k ((j).toNat*8)) 7)=some (iv l)/\cond (decide (l>c)) (K (.tuple #[iv j,iv 16]) b) (∃ a,a<i/\g (IntKind.i64.wrap (j+1)) b a)) (K (.tuple #[qz,qz]) h)))
theorem yG{a1 l1 c1 a2 l2 c2 w K}(h:yF a1 l1 c1 a2 l2 c2 w K):CP 113 #[.slice a1 l1 c1,.slice a2 l2 c2] w K:=aj (aC [(58,[(6,.s (.int .i64))]),(122,[(7,.s (.int .i64))])]) func113 (by kernel_rfl) (by kernel_rfl) h
def BZ(a:OA)(b c:Nat)(d:OA)(e f:Nat)(w:World)(K:KP):=CC 112 #[.slice a b c] w λ g h=>∃ i,g=.returned (.bool i)/\cond (!i) (K qn h) (au h (.cells #[] 81) λ g h=>aW prog (Builtin.append_ #[28,28] 28 #[.slice (some (qd g 0)) 0 0,.slice d e f]) h λ d e=>∃ f g h,d=(.slice f g h)/\∃ d:OA->Nat->Nat->qN,(∃ i,d f g h e i)/\∀ e i f g h,d f g h e i->∀ j:qv,CC 113 #[.slice a b c,.slice f g h] e λ a b=>∃ c e,a=.returned (.tuple #[iv c,iv e])/\cond (e==0) (K (.slice f g h) b) (0<=c/\c<=(h:Int)/\0<=(IntKind.i64.wrap (c+1))/\(IntKind.i64.wrap (c+1))<=(g:Int)/\au b.drew (.cells #[] 81) λ a b=>aW prog (Builtin.append_ #[28,28] 28 #[.slice (some (qd a 0)) 0 0,.slice (if h=0 then f else Option.map (λ x=>Addr.add x (0*8)) f) ((c).toNat-0) (h-0)]) b λ a b=>∃ e j k,a=(.slice e j k)/\aW prog (Builtin.append_ #[28,28] 28 #[.slice e j k,.slice (if h=((IntKind.i64.wrap (c+1))).toNat then f else Option.map (λ x=>Addr.add x (((IntKind.i64.wrap (c+1))).toNat*8)) f) (g-((IntKind.i64.wrap (c+1))).toNat) (h-((IntKind.i64.wrap (c+1))).toNat)]) b λ a b=>∃ c e f,a=(.slice c e f)/\∃ a,a<i/\d c e f b a))
theorem AE{a1 l1 c1 a2 l2 c2 w K}(h:BZ a1 l1 c1 a2 l2 c2 w K):CP 63 #[.slice a1 l1 c1,.slice a2 l2 c2] w K:=aj (aC [(30,[(5,.s .slice)])]) func63 (by kernel_rfl) (by kernel_rfl) h
def mA(a:OA)(b c:Nat)(d:Int)(e:OA)(f g:Nat)(w:World)(K:KP):=CC 63 #[.slice a b c,.slice e f g] w λ a b=>∃ c e f,a=.returned (.slice c e f)/\∃ a:OA->Nat->Nat->Int->qN,(∃ f,a none 0 0 0 b f)/\∀ b f g h i j,a g h i j b f->∀ k:qv,cond (decide (j<(e:Int))) (ak c λ k=>0<=j/\j<(e:Int)/\∃ l:I6,af b.drew (Addr.add (Addr.add k ((j).toNat*8)) 1) 0 l.vs/\ak c λ c=>0<=j/\j<(e:Int)/\∃ e,b.drew.cell? (Addr.add (Addr.add c ((j).toNat*8)) 7)=some (iv e)/\au b.drew (.cells (iv d :: l.on [iv e]:List Value).toArray 81) λ c d=>aW prog (Builtin.append_ #[28,28] 28 #[.slice g h i,.slice (some (qd c 0)) 1 1]) d λ c d=>∃ e k l,c=(.slice e k l)/\∃ c,c<f/\a e k l (IntKind.i64.wrap (j+1)) d c) (K (.slice g h i) b)
theorem pM{a1 l1 c1 n1 a2 l2 c2 w K}(h:mA a1 l1 c1 n1 a2 l2 c2 w K):CP 28 #[.slice a1 l1 c1,iv n1,.slice a2 l2 c2] w K:=aj (aC [(122,[(8,.s .slice),(9,.s (.int .i64))])]) func28 (by kernel_rfl) (by kernel_rfl) h
def mz(a:OA)(b c:Nat)(d:OA)(e f:Nat)(w:World)(K:KP):=cond ((b:Int) !=(e:Int)) (K (.bool false) w) (∃ c:Int->qN,(∃ f,c 0 w f)/\∀ g f h,c h g f->∀ i:qv,cond (decide (h<(b:Int))) (ak a λ a=>0<=h/\h<(b:Int)/\∃ b,∃ i:I6,∃ j,af g.drew (Addr.add a ((h).toNat*8)) 0 (iv b :: i.on [iv j])/\ak d λ a=>0<=h/\h<(e:Int)/\∃ d,∃ e:I6,∃ k,af g.drew (Addr.add a ((h).toNat*8)) 0 (iv d :: e.on [iv k])/\cond (!((b==d)&&((I6.beq i e)&&((j==k)&&true)))) (K (.bool false) g.drew) (∃ a,a<f/\c (IntKind.i64.wrap (h+1)) g.drew a)) (K (.bool true) g))
theorem pL{a1 l1 c1 a2 l2 c2 w K}(h:mz a1 l1 c1 a2 l2 c2 w K):CP 27 #[.slice a1 l1 c1,.slice a2 l2 c2] w K:=aj (aC [(58,[(5,.s (.int .i64))])]) func27 (by kernel_rfl) (by kernel_rfl) h
theorem GC{α:Type}{sz:Nat}{f:α->List Value}{w:World}{a:OA}{l:List α}(h:bU sz f w a l){c n:Nat}(hn:c=n->l.length<=n):bU sz f w (if c=n then a else Option.map (λ x=>Addr.add x (n*sz)) a) (l.drop n):=λ i x hx=>by
 rw[List.getElem?_drop] at hx;obtain⟨q,cs,h1,h2,h3,h4⟩:=h (n+i) x hx;have hlt:=(List.getElem?_eq_some_iff.1 hx).1;rw[if_neg λ e=>by have:=hn e; omega,h1];exact⟨_,cs,rfl,by rw[Addr.add_add,<- Nat.add_mul]; exact h2,h3,h4⟩
theorem fM{w:World}{a:Addr}{c:Ch}(h:af w a 0 c.cells):af w (a.add 6) 0 c.want.vs :=
 bt _ 0 λ j v hj=>by
  have h6:j<6:=(List.getElem?_eq_some_iff.1 hj).1;rw[Addr.add_add,Nat.zero_add];have:=aL h (6+j) v (by
   match j,h6,hj with
   | 0,_,hj|1,_,hj|2,_,hj|3,_,hj|4,_,hj|5,_,hj=>simpa[Ch.cells,I6.on,I6.vs] using hj)
  rwa [Nat.zero_add] at this
theorem Ag{w:World}{a:Addr}{o:Of}(h:af w a 0 o.cells):af w (a.add 1) 0 o.want.vs :=
 bt _ 0 λ j v hj=>by
  have h6:j<6:=(List.getElem?_eq_some_iff.1 hj).1;rw[Addr.add_add,Nat.zero_add];have:=aL h (1+j) v (by
   match j,h6,hj with
   | 0,_,hj|1,_,hj|2,_,hj|3,_,hj|4,_,hj|5,_,hj=>simpa[Of.cells,I6.on,I6.vs] using hj)
  rwa [Nat.zero_add] at this
theorem GW{w:World}{a:Addr}{o:Of}(h:af w a 0 o.cells):w.cell? (a.add 7)=some (iv o.v):=by
 have:=aL h 7 (iv o.v) rfl
 rwa [Nat.zero_add] at this
theorem AK(w:World){c:Ch}(h:c.Ok):CP 153 #[c.v] w (λ r w'=>r=.bool true/\ax w w' []):=by
 refine yZ ?_;unfold yY;refine(St.start w).one.av c.cells.toArray λ r1 w1 s1=>⟨c.want,bz s1 0 rfl,aq (cM w1 c.want) ?_⟩;rintro v w2 ⟨rfl,c2⟩;have s2:=s1.quiet c2;refine⟨_,rfl,cT (by rw[leq h.w]; rfl) ⟨c.p,mO s2 0 rfl,aq (kG w2 c.p) ?_⟩⟩;rintro v w3 ⟨rfl,c3⟩;exact⟨_,rfl,by rw[eY.2 h.p],(s2.quiet c3).an⟩
theorem sJ{w:World}{a:OA}{c:Nat}{l:List Ch}(hr:nG w a l)(hl:l.length<=1000)(ho:∀ c∈l,c.Ok):CP 112 #[.slice a l.length c] w (λ r w'=>r=.bool true/\ax w w' []):=by
 refine CX ?_;unfold EY;refine⟨λ i w1 m=>∃ k:Nat,i=k/\k<=l.length/\m=l.length-k/\ax w w1 [],⟨l.length,0,rfl,by omega,by omega,ax.refl _ _⟩,?_⟩;rintro w1 m i ⟨k,rfl,hk,hm,d1⟩ -
 by_cases hlt:(k:Int)<(l.length:Int)
 ·have hx:l[k]?=some (l[k]'(by omega)):=gE (by omega);generalize l[k]'(by omega)=y at hx;obtain⟨p,hp,hcl⟩:=(hr.an d1).at hx;refine cT (dT hlt) (ai hp ⟨by omega,by omega,y.p,y.want,hcl,aq (AK w1 (ho y (List.mem_of_getElem? hx))) ?_⟩);rintro v w2 ⟨rfl,c2⟩;exact⟨_,rfl,cF rfl ⟨l.length-(k+1),by omega,k+1,ay ⟨by omega,by omega⟩,by omega,rfl,d1.trans c2 (by simp)⟩⟩
 ·exact cF (dF hlt) ⟨rfl,d1⟩
theorem pN(w:World){c:Ch}{b:I6}(hp:I6.Le c.p 1000000)(hb:I6.Le b 4):CP 188 #[c.v,.agg b.vs.toArray] w (λ r w'=>r=iv (cost c.p b)/\ax w w' []):=by
 refine Au ?_;unfold BK;refine(St.start w).one.av c.cells.toArray λ r1 w1 s1=>s1.av b.vs.toArray λ r2 w2 s2=>⟨c.p,mO s2 1 rfl,b,s2.cellsIn 0 rfl,aq (uZ w2 hp hb) ?_⟩;rintro v w3 ⟨rfl,c3⟩;exact⟨_,rfl,rfl,(s2.quiet c3).an⟩
theorem sK(w:World)(o:Of):CP 154 #[.agg o.cells.toArray] w (λ r w'=>r=.bool (eX o)/\ax w w' []):=by
 refine yT (u1:=o.want) ?_;unfold yS;refine(St.start w).one.av o.cells.toArray λ r1 w1 s1=>⟨o.want,s1.aF 0 1 rfl rfl,aq (cM w1 o.want) ?_⟩;rintro v w2 ⟨rfl,c2⟩;have s2:=s1.quiet c2;refine⟨_,rfl,?_⟩
 cases hq:o.want.l.all dD with
 | false=>exact cF rfl ⟨by rw[eX,hq]; rfl,s2.an⟩
 | true =>
  have e1:eX o=(decide (o.want≠z6)&&(decide (1<=o.v)&&decide (o.v<=1000000))):=by rw[eX,hq]; rfl
  refine cT rfl ⟨o.want,s2.aF 0 1 rfl rfl,?_⟩;rw[I6.beq_eq]
  by_cases g:o.want=z6
  ·exact cF (by rw[dT g]; rfl) ⟨by rw[e1,dF λ h=>h g]; rfl,s2.an⟩
  rw[dT g,Bool.true_and] at e1;refine cT (by rw[dF g]; rfl) ⟨_,s2.ag 0 rfl 7,?_⟩
  by_cases g1:o.v>=1
  ·rw[dT (show 1<=o.v from g1),Bool.true_and] at e1;exact cT (dT g1) ⟨_,s2.ag 0 rfl 7,by rw[e1],s2.an⟩
  ·exact cF (dF g1) ⟨by rw[e1,dF (show ¬ 1<=o.v from g1)]; rfl,s2.an⟩
set_option maxHeartbeats 1000000 in
theorem AJ{w:World}{a1 a2:OA}{c1 c2:Nat}{l:List Ch}{bids:List Of}(hr:nG w a1 l)(hl:l.length<=1000)(ho:∀ c∈l,c.Ok)(hb:iQ w a2 bids)(hbl:bids.length<=100000)(hok:bids.all eX=true)(q:I6) :
  CP 187 #[.slice a1 l.length c1,.slice a2 bids.length c2,.agg q.vs.toArray] w (λ r w'=>r=iv (jJ l bids q)/\ax w w' []):=by
 refine yO ?_;unfold yN;refine(St.start w).one.av q.vs.toArray λ r1 w1 s1=>?_;let M:List aJ:=[ah r1 q.vs.toArray 35,emp];refine⟨λ n i w2 m=>∃ k:Nat,i=k/\k<=l.length/\m=l.length-k/\n=(l.take k).foldl (hJ q) 0/\St w w2 (Sep M),⟨l.length,0,rfl,by omega,by omega,rfl,s1⟩,?_⟩;rintro w2 m n i ⟨k,rfl,hk,hm,rfl,s2⟩ -
 by_cases hlt:(k:Int)<(l.length:Int)
 ·have hx:l[k]?=some (l[k]'(by omega)):=gE (by omega);generalize l[k]'(by omega)=y at hx;have ef:=dK (f:=hJ q) (a:=0) hx;have s3:=s2.quiet (ax.drew w2 []);have s4:=s3.quiet (ax.drew _ []);obtain⟨p,hp,hcl⟩:=(hr.an s3.an).at hx;obtain⟨p2,hp2,hcl2⟩:=(hr.an s4.an).at hx;refine cT (dT hlt) ⟨λ n w3=>n=(l.take (k+1)).foldl (hJ q) 0/\St w w3 (Sep M),?_,ai hp ⟨by omega,by omega,y.want,fM hcl,q,s3.cellsIn 0 rfl,?_⟩⟩
  ·rintro w3 n ⟨rfl,s3⟩ -;exact⟨l.length-(k+1),by omega,k+1,ay ⟨by omega,by omega⟩,by omega,rfl,rfl,s3⟩
  rw[I6.beq_eq]
  by_cases hw:y.want=q
  ·have oy:=ho y (List.mem_of_getElem? hx);refine cT (dT hw) (ai hp2 ⟨by omega,by omega,y.p,y.want,hcl2,q,s4.cellsIn 0 rfl,aq (pN _ (c:=y) oy.p (by rw[<- hw]; exact oy.w)) ?_⟩);rintro v w6 ⟨rfl,c6⟩;exact⟨_,rfl,by rw[ef,hJ,if_pos hw],s4.quiet c6⟩
  ·exact cF (dF hw) ⟨by rw[ef,hJ,if_neg hw],s3⟩
 ·obtain rfl:l.length=k:=by omega
  rw[List.take_length];refine cF (dF hlt) ⟨λ n i w2 m=>∃ k:Nat,i=k/\k<=bids.length/\m=bids.length-k/\n=(bids.take k).foldl (nU q) (l.foldl (hJ q) 0)/\St w w2 (Sep M),⟨bids.length,0,rfl,by omega,by omega,rfl,s2⟩,?_⟩;clear hm hk hlt s2;rintro w7 m n i ⟨k,rfl,hk,hm,rfl,s2⟩ -
  by_cases hlt:(k:Int)<(bids.length:Int)
  ·have hx:bids[k]?=some (bids[k]'(by omega)):=gE (by omega);generalize bids[k]'(by omega)=y at hx;have ef:=dK (f:=nU q) (a:=l.foldl (hJ q) 0) hx;have s3:=s2.quiet (ax.drew w7 []);obtain⟨p,hp,hcl⟩:=(hb.an s3.an).at hx;refine cT (dT hlt) ⟨λ n w3=>n=(bids.take (k+1)).foldl (nU q) (l.foldl (hJ q) 0)/\St w w3 (Sep M),?_,λ b w3=>b=decide (y.want=q)/\St w w3 (Sep M),?_,ai hp ⟨by omega,by omega,_,y.want,_,hcl,aq (sK _ y) ?_⟩⟩
   ·rintro w3 n ⟨rfl,s3⟩ -;exact⟨bids.length-(k+1),by omega,k+1,ay ⟨by omega,by omega⟩,by omega,rfl,rfl,s3⟩
   ·rintro w3 b ⟨rfl,s5⟩ -;obtain⟨p5,hp5,hcl5⟩:=(hb.an s5.an).at hx
    by_cases hw:y.want=q
    ·exact cT (dT hw) (ai hp5 ⟨by omega,by omega,y.v,GW hcl5,by rw[ef,nU,if_pos hw],s5⟩)
    ·exact cF (dF hw) ⟨by rw[ef,nU,if_neg hw],s5⟩
   rintro v w4 ⟨rfl,c4⟩;have s4:=s3.quiet c4;obtain⟨p4,hp4,hcl4⟩:=(hb.an s4.an).at hx;exact⟨_,rfl,cT (List.all_eq_true.1 hok y (List.mem_of_getElem? hx)) (ai hp4 ⟨by omega,by omega,y.want,Ag hcl4,q,s4.cellsIn 0 rfl,by rw[I6.beq_eq],s4⟩)⟩
  ·obtain rfl:bids.length=k:=by omega
   rw[List.take_length];exact cF (dF hlt) ⟨rfl,s2.an⟩
theorem EF{bids:List Of}(h:bids.all eX=true):∀ x∈bids,I6.Le x.want 4/\x.v<=1000000:=λ x hx=>by
 have:=List.all_eq_true.1 h x hx;unfold eX at this;simp only[Bool.and_eq_true,decide_eq_true_eq] at this;exact⟨HK this.1,this.2.2.2⟩
set_option maxHeartbeats 1000000 in
theorem C9{w:World}{a1 a2:OA}{c1 c2:Nat}{l:List Ch}{bids:List Of}(hr:nG w a1 l)(hl:l.length<=1000)(ho:∀ c∈l,c.Ok)(hb:iQ w a2 bids)(hbl:bids.length<=100000)(hok:bids.all eX=true){b:I6}(hbb:I6.Le b 4) :
  CP 155 #[.slice a1 l.length c1,.slice a2 bids.length c2,.agg b.vs.toArray] w (λ r w'=>r=iv (EA (jJ l bids) l b)/\ax w w' []):=by
 refine Ay ?_;unfold BU;refine(St.start w).one.av b.vs.toArray λ r1 w1 s1=>?_;let M:List aJ:=[ah r1 b.vs.toArray 35,emp];have s1:St w w1 (Sep M):=s1;have hF:∀ q,I6.Le q 4->0<=jJ l bids q/\jJ l bids q<=24000000:=λ q hq=>Bf ho (λ x hx=>(EF hok x hx).2) hq;refine⟨λ x w2=>x=false/\St w w2 (Sep M),?_,aq (sJ (hr.an s1.an) hl ho) ?_⟩
 rotate_left
 ·rintro v w2 ⟨rfl,c2⟩;have s2:=s1.quiet c2;refine⟨_,rfl,cF rfl ⟨b,s2.cellsIn 0 rfl,aq (cM w2 b) ?_⟩⟩;rintro v w3 ⟨rfl,c3⟩;exact⟨_,rfl,by rw[leq hbb]; rfl,s2.quiet c3⟩
 rintro w2 x ⟨rfl,s2⟩ -;refine cF rfl ⟨λ n i w3 m=>∃ k:Nat,i=k/\k<=l.length/\m=l.length-k/\n=(l.take k).foldl (kn (jJ l bids) b) 1000000/\St w w3 (Sep M),⟨l.length,0,rfl,by omega,by omega,rfl,s2⟩,?_⟩;rintro w3 m n i ⟨k,rfl,hk,hm,rfl,s3⟩ -
 by_cases hlt:(k:Int)<(l.length:Int)
 rotate_left
 ·obtain rfl:l.length=k:=by omega
  rw[List.take_length];exact cF (dF hlt) ⟨rfl,s3.an⟩
 have hx:l[k]?=some (l[k]'(by omega)):=gE (by omega);generalize l[k]'(by omega)=y at hx;have oy:=ho y (List.mem_of_getElem? hx);have ef:=dK (f:=kn (jJ l bids) b) (a:=1000000) hx;have s4:=s3.quiet (ax.drew w3 []);have s5:=s4.quiet (ax.drew _ []);obtain⟨p,hp,hcl⟩:=(hr.an s4.an).at hx;obtain⟨p2,hp2,hcl2⟩:=(hr.an s5.an).at hx;refine cT (dT hlt) ⟨λ n w3=>n=(l.take (k+1)).foldl (kn (jJ l bids) b) 1000000/\St w w3 (Sep M),?_,ai hp ⟨by omega,by omega,y.want,fM hcl,b,s4.cellsIn 0 rfl,?_⟩⟩
 ·rintro w3 n ⟨rfl,s3⟩ -;exact⟨l.length-(k+1),by omega,k+1,ay ⟨by omega,by omega⟩,by omega,rfl,rfl,s3⟩
 rw[I6.beq_eq]
 by_cases hw:y.want=b
 ·exact cF (by rw[dT hw]; rfl) ⟨by rw[ef,kn,if_pos hw],s4⟩
 refine cT (by rw[dF hw]; rfl) (ai hp2 ⟨by omega,by omega,y.want,fM hcl2,ai hp2 ⟨by omega,by omega,y.p,y.want,hcl2,b,s5.cellsIn 0 rfl,ai hp2 ⟨by omega,by omega,y.p,y.want,hcl2,ai hp2 ⟨by omega,by omega,y.want,fM hcl2,aq (AJ (hr.an s5.an) hl ho (hb.an s5.an) hbl hok y.want) ?_⟩⟩⟩⟩);rintro v w6 ⟨rfl,c6⟩;have s6:=s5.quiet c6;refine⟨_,rfl,aK c6 (fM hcl2),aK c6 hcl2,s6.cellsIn 0 rfl,aK c6 hcl2,aq (pN _ (c:=y) oy.p hbb) ?_⟩;rintro v w7 ⟨rfl,c7⟩;have c67:ax _ w7 []:=c6.trans c7 (by simp);refine⟨_,rfl,aK c67 (fM hcl2),aK c67 hcl2,aq (pN _ (c:=y) oy.p oy.w) ?_⟩;rintro v w8 ⟨rfl,c8⟩;have h1:=hF y.want oy.w;have h2:=cS oy.p hbb;have h3:=cS oy.p oy.w;refine⟨_,rfl,?_,(s6.quiet c7).quiet c8⟩;rw[ay (n:=jJ l bids y.want+cost y.p b) ⟨by omega,by omega⟩,ay ⟨by omega,by omega⟩,ef,kn,if_neg hw]
set_option maxHeartbeats 1000000 in
theorem AG{w:World}{a1 a2:OA}{c1 c2:Nat}{l:List Ch}{bids:List Of}(hr:nG w a1 l)(hl:l.length<=1000)(ho:∀ c∈l,c.Ok)(hb:iQ w a2 bids)(hbl:bids.length<=100000) :
  CP 113 #[.slice a1 l.length c1,.slice a2 bids.length c2] w (λ r w'=>r=.tuple #[iv (gq l bids),iv (gk l bids)]/\ax w w' []):=by
 refine yG ?_;unfold yF;refine aq (sJ hr hl ho) ?_;rintro v w1 ⟨rfl,d1⟩;refine⟨_,rfl,cF rfl ⟨λ i w2 m=>∃ k:Nat,i=k/\k<=bids.length/\m=bids.length-k/\(bids.take k).all eX=true/\ax w w2 [],⟨bids.length,0,rfl,by omega,by omega,rfl,d1⟩,?_⟩⟩;rintro w2 m i ⟨k,rfl,hk,hm,ha,d2⟩ -
 by_cases hlt:(k:Int)<(bids.length:Int)
 ·have hx:bids[k]?=some (bids[k]'(by omega)):=gE (by omega);generalize bids[k]'(by omega)=y at hx;obtain⟨p,hp,hcl⟩:=(hb.an d2).at hx;refine cT (dT hlt) (ai hp ⟨by omega,by omega,_,y.want,_,hcl,aq (sK w2 y) ?_⟩);rintro v w5 ⟨rfl,c5⟩;have d5:ax w w5 []:=d2.trans c5 (by simp);refine⟨_,rfl,?_⟩
  cases hy:eX y with
  | false =>
   have:bids.all eX=false:=List.all_eq_false.2 ⟨y,List.mem_of_getElem? hx,by simp[hy]⟩;have e2:gq l bids=k:=by
    rw[gq,this,if_neg (by decide)];refine nV ?_ hx (by rw[hy]; rfl);rw[List.any_eq_false];intro z hz;rw[List.all_eq_true.1 ha z hz]; decide
   exact cT rfl ⟨by rw[e2,gk,this]; rfl,d5⟩
  | true =>
   refine cF rfl ⟨bids.length-(k+1),by omega,k+1,ay ⟨by omega,by omega⟩,by omega,rfl,?_,d5⟩;rw[aQ hx,List.all_append,ha]; simp[hy]
 ·obtain rfl:bids.length=k:=by omega
  rw[List.take_length] at ha;have e0:gk l bids=if bids.any (fk l bids) then 16 else 0:=by rw[gk,if_pos ha]
  refine cF (dF hlt) ⟨λ i w7 m=>∃ k:Nat,i=k/\k<=bids.length/\m=bids.length-k/\(bids.take k).any (fk l bids)=false/\ax w w7 [],⟨bids.length,0,rfl,by omega,by omega,rfl,d2⟩,?_⟩;clear hlt hm hk d2;rintro w7 m i ⟨k,rfl,hk,hm,hany,d7⟩ -
  by_cases hlt:(k:Int)<(bids.length:Int)
  ·have hx:bids[k]?=some (bids[k]'(by omega)):=gE (by omega);generalize bids[k]'(by omega)=y at hx;have d8:ax w w7.drew []:=d7.trans (ax.drew w7 []) (by simp);obtain⟨p,hp,hcl⟩:=(hb.an d8).at hx;refine cT (dT hlt) (ai hp ⟨by omega,by omega,y.v,GW hcl,ai hp ⟨by omega,by omega,y.want,Ag hcl,aq (C9 (hr.an d8) hl ho (hb.an d8) hbl ha (EF ha y (List.mem_of_getElem? hx)).1) ?_⟩⟩);rintro v w10 ⟨rfl,c10⟩;refine⟨_,rfl,br (GW hcl) c10,?_⟩;have d10:ax w w10 []:=d8.trans c10 (by simp)
   cases ho:fk l bids y with
   | true =>
    have e2:gq l bids=k:=by rw[gq,if_pos ha,cC hx ho,if_pos rfl]; exact nV hany hx ho
    exact cT ho ⟨by rw[e2,e0,cC hx ho]; rfl,d10⟩
   | false=>exact cF ho ⟨bids.length-(k+1),by omega,k+1,ay ⟨by omega,by omega⟩,by omega,rfl,ck hany hx ho,d10⟩
  ·obtain rfl:bids.length=k:=by omega
   rw[List.take_length] at hany;have e2:gq l bids=0:=by rw[gq,if_pos ha,hany]; rfl
   exact cF (dF hlt) ⟨by rw[e2,e0,hany]; rfl,d7⟩
theorem IP{a:OA}{c:Nat}:(if c=0 then a else Option.map (λ x=>Addr.add x (0*8)) a)=a:=by
 split
 ·rfl
 ·cases a<;>simp[Addr.add]
set_option maxHeartbeats 1000000 in
theorem De{w:World}{a1 a2:OA}{c1 c2:Nat}{l:List Ch}{bids:List Of}(hr:nG w a1 l)(hl:l.length<=1000)(ho:∀ c∈l,c.Ok)(hb:iQ w a2 bids)(hbl:bids.length<=100000) :
  CP 63 #[.slice a1 l.length c1,.slice a2 bids.length c2] w (λ r w'=>∃ a c,r=.slice a (bT l bids.length bids).length c/\St w w' (cw a c (bT l bids.length bids))):=by
 refine AE ?_;unfold BZ;refine aq (sJ hr hl ho) ?_;rintro v w1 ⟨rfl,d1⟩;refine⟨_,rfl,cF rfl (((St.start w).one.quiet d1).av #[] λ r1 w2 s2=>?_)⟩;have s2:St w w2 (star (cw (some ⟨r1,0,none⟩) 0 []) (Sep [emp])):=St.weak s2 (bH.left (bN (n:=0) (sz:=8) rfl (by decide)));refine aY (l2:=bids) zo Of.len Of.one s2 (hb.an s2.an) (by simp only[List.length_nil]; omega) (by simp only[List.length_nil]; omega) λ a3 c3 w3 s3=>?_;rw[List.nil_append] at s3 ⊢;have s3:St w w3 (Sep [cw a3 c3 bids,emp]):=s3;refine⟨λ a3 l3 c3 w3 m=>∃ cur:List Of,l3=cur.length/\m=cur.length/\cur.length<=100000/\bT l cur.length cur=bT l bids.length bids/\St w w3 (Sep [cw a3 c3 cur,emp]),⟨bids.length,bids,rfl,rfl,hbl,rfl,s3⟩,?_⟩;clear s3;rintro w3 m a3 l3 c3 ⟨cur,rfl,rfl,hcl,he,s3⟩ -;have hrd:∀ {w'},St w w' (Sep [cw a3 c3 cur,emp])->iQ w' a3 cur:=λ s=>St.rd Of.len (s.out 0 rfl);obtain⟨hcc,_⟩:=St.sU (s3.out 0 rfl);refine aq (AG (hr.an s3.an) hl ho (hrd s3) hcl) ?_;rintro v w4 ⟨rfl,c4⟩;have s4:St w w4 (Sep [cw a3 c3 cur,emp]):=s3.quiet c4;refine⟨_,_,rfl,?_⟩
 by_cases g:gk l cur=0
 ·rw[vl g] at he;refine cT (by rw[g]; rfl) ⟨a3,c3,by rw[<- he],?_⟩;rw[<- he]; exact s4.first
 ·have hi:=oA g;have hle:=List.length_eraseIdx_of_lt hi;have est:=vm g;generalize gq l cur=i at hi hle est;refine cF (by simpa using g) ?_;rw[ay ⟨by omega,by omega⟩];have s5:St w w4.drew (Sep [cw a3 c3 cur,emp]):=s4.quiet (ax.drew w4 []);refine⟨by omega,by omega,by omega,by omega,s5.av #[] λ r2 w6 s6=>?_⟩;have eB:((i:Int)+1).toNat=i+1:=by omega
  rw[IP,eB,Int.toNat_natCast,Nat.sub_zero,Nat.sub_zero];have s6:St w w6 (star (cw (some ⟨r2,0,none⟩) 0 []) (Sep [cw a3 c3 cur,emp])):=St.weak s6 (bH.left (bN (n:=0) (sz:=8) rfl (by decide)));have hr6:iQ w6 a3 cur:=hrd ((show St w w6 (Sep [cw (some ⟨r2,0,none⟩) 0 [],cw a3 c3 cur,emp]) from s6).aA [1,2]);have l1:(cur.take i).length=i:=by rw[List.length_take]; omega
  have l2:(cur.drop (i+1)).length=cur.length-(i+1):=by rw[List.length_drop]
  have ha:=aY (ty:=28) (c2:=c3) (l2:=cur.take i) (R:=λ a5 l5 c5 w7=>aW prog (Builtin.append_ #[28,28] 28 #[(.slice a5 l5 c5),(.slice (if c3=i+1 then a3 else Option.map (λ x=>Addr.add x ((i+1)*8)) a3) (cur.length-(i+1)) (c3-(i+1)))]) w7 λ e5 w8=>∃ (a6:OA) (l6 c6:Nat),e5=(.slice a6 l6 c6)/\∃ m2,m2<cur.length/\∃ cur2:List Of,l6=cur2.length/\m2=cur2.length/\cur2.length<=100000/\bT l cur2.length cur2=bT l bids.length bids/\St w w8 (Sep [cw a6 c6 cur2,emp])) zo Of.len Of.one s6 (DA.take hr6 i) (by simp only[List.length_nil]; omega) (by simp only[List.length_nil]; omega) λ a5 c5 w7 s7=>?_
  ·rw[l1] at ha; exact ha
  rw[List.nil_append] at s7 ⊢;have hr7:iQ w7 a3 cur:=hrd ((show St w w7 (Sep [cw a5 c5 (cur.take i),cw a3 c3 cur,emp]) from s7).aA [1,2]);have hb2:=aY (ty:=28) (c2:=c3-(i+1)) (l2:=cur.drop (i+1)) (R:=λ a6 l6 c6 w8=>∃ m2,m2<cur.length/\∃ cur2:List Of,l6=cur2.length/\m2=cur2.length/\cur2.length<=100000/\bT l cur2.length cur2=bT l bids.length bids/\St w w8 (Sep [cw a6 c6 cur2,emp])) zo Of.len Of.one s7 (GC (c:=c3) hr7 (by omega)) (by rw[l1,l2]; omega) (by rw[l1,l2]; omega) λ a6 c6 w8 s8=>?_
  ·rw[l2] at hb2; exact hb2
  rw[<- List.eraseIdx_eq_take_drop_succ] at s8 ⊢;have s8:St w w8 (Sep [cw a6 c6 (cur.eraseIdx i),cw a3 c3 cur,emp]):=s8;exact⟨_,by omega,cur.eraseIdx i,rfl,rfl,by omega,by rw[<- est]; exact he,s8.aA [0,2]⟩
