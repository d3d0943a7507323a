import Derived.Test.YtjpbdjhaajdepaaGreatDoorM29
set_option linter.unusedVariables false
set_option maxRecDepth 100000
namespace Go.Proofs.YtjpbdjhaajdepaaGreatDoor
open Go Go.Vc Tryz
def uo(σ:Cs)(a:OA)(c:Nat):Sm:={ lT with cn:=σ.cn,rf:=σ.rf,rr:=σ.rr,ra:=a,rc:=c }
def Vb(b r2 r3 r4:Nat)(σ:Cs)(S:Sx)(C:Ck)(a:OA)(c:Nat):List aI :=
  [ah b S.cells.toArray 112,held (pR S C),ah r3 (uo σ a c).cells.toArray 32,xx a c σ.rr,ah r4 (qY σ.dm σ.bi σ.wd).toArray 56,ah r2 lT.cells.toArray 32,emp]
def CI(w0 w' : World)(b r2 r3 r4:Nat)(σ:Cs):Prop:=∃ (S:Sx) (C:Ck) (a:OA) (c:Nat),σ.S=S.er/\σ.C=C.er/\Mj S/\St w0 w' (Sep (Vb b r2 r3 r4 σ S C a c))
def Vf:Array Value:=#[iv 0,iv 0,iv 0,iv 0,iv 0,iv 0,iv 0,iv 0,iv 0,.string (bs []),.int .u64 0]
theorem TL(r i:Nat):Addr.add ⟨r,0,none⟩ (((i:Nat):Int).toNat*1)=⟨r,i,none⟩:=by rw[qk,Int.toNat_natCast,Nat.mul_one]
section
variable {w0 w:World} {b r2 r3 r4 r5:Nat} {σ:Cs} {k:Nat} {R:World->Prop} {e:Ev} {S:Sx} {C:Ck} {a:OA} {c:Nat}
theorem ML(IV:Iv σ k)(hk:k<=100)(hi:e.In)(eS:σ.S=S.er)(eC:σ.C=C.er)(kok:Mj S)(s:St w0 w (Sep (ah r5 e.cells.toArray 45 :: Vb b r2 r3 r4 σ S C a c)))(K:∀ w',CI w0 w' b r2 r3 r4 (fh σ e)->R w') :
    Calls prog 16 #[pt b,e.v] w λ e2 w10=>∃ n18:Int,e2=.returned (iv n18) /\
      cond (n18 !=(0:Int)) (∃ n19:Int,w10.cell? ⟨r3,11,none⟩=some (iv n19)/\aQ w10 ⟨r3,11,none⟩ (iv (IntKind.i64.wrap (n19+(1:Int)))) λ w11=>R w11)
      (∃ (n20:Int),
       w10.cell? ⟨r5,0,none⟩=some (iv n20) /\
       0<=n20/\n20<((11:Nat):Int) /\
       ∃ (n21:Int),
       w10.cell? (Addr.add ⟨r3,0,none⟩ ((n20).toNat*1))=some (iv n21) /\
       0<=n20/\n20<((11:Nat):Int) /\
       aQ w10 (Addr.add ⟨r3,0,none⟩ ((n20).toNat*1)) (iv (IntKind.i64.wrap (n21+(1:Int)))) λ w12 =>
       ∃ (n22:Int),
       w12.drew.cell? ⟨r5,1,none⟩=some (iv n22) /\
       0<=n22/\n22<((8:Nat):Int) /\
       ∃ (n23:Int),
       w12.drew.cell? ⟨r5,0,none⟩=some (iv n23) /\
       Calls prog 17 #[(.pointer (some (Addr.add ⟨r4,0,none⟩ ((n22).toNat*3)))),(iv n23)] w12.drew λ e3 w13=>e3=.returned (.tuple #[]) /\
       ∃ (n24:Int),
       w13.cell? ⟨r5,0,none⟩=some (iv n24) /\
       cond (n24==(8:Int))
       (∃ (a2:OA) (l2 c2:Nat),
        w13.cell? ⟨r3,14,none⟩=some (.slice a2 l2 c2) /\
        ∃ (n25:Int),
        w13.cell? ⟨r5,2,none⟩=some (iv n25) /\
        av w13 (.cells #[(iv n25)] 3) λ r6 w14 =>
        bg prog (Builtin.append_ #[30,30] 30 #[(.slice a2 l2 c2),(.slice (some ⟨r6,0,none⟩) 1 1)]) w14 λ e4 w15=>∃ (a3:OA) (l3 c3:Nat),
        e4=(.slice a3 l3 c3) /\
        aQ w15 ⟨r3,14,none⟩ (.slice a3 l3 c3) λ w16 =>
        R w16) (R w13)):=by
  have hok:CW S C:=IV.ok.er (by rw[eS,fQ]) (by rw[eC,Gy]);have hbd:=IV.bd;have hrr:=IV.rr;have hap:Ad σ.S σ.C e=Ad S C e:=by rw[eS,eC,P4]
  have s9:St w0 w (Sep [ah b S.cells.toArray 112,held (pR S C),Sep [ah r5 e.cells.toArray 45,ah r3 (uo σ a c).cells.toArray 32,xx a c σ.rr,ah r4 (qY σ.dm σ.bi σ.wd).toArray 56,ah r2 lT.cells.toArray 32,emp]]):=(s.aA [1,2,0,3,4,5,6,7]).LO;refine au (Ms s9 hok kok hi) ?_;rintro v w10 ⟨rfl,k1,k2⟩;refine⟨_,rfl,?_⟩
  by_cases ha:Ad S C e=0
  · obtain⟨S',C',eS',eC',hg,s10⟩:=k2 ha;have s10:St w0 w10 (Sep [ah b S'.cells.toArray 112,held (pR S' C'),ah r5 e.cells.toArray 45,ah r3 (uo σ a c).cells.toArray 32,xx a c σ.rr,ah r4 (qY σ.dm σ.bi σ.wd).toArray 56,ah r2 lT.cells.toArray 32,emp]):=s10.dc [_,_];obtain⟨hs,hE⟩:=xK ha;obtain⟨h1,h2,h3,h4,h5⟩:=rV hs;have hR:=kU h1 hi.d;obtain⟨okN,phN⟩:=O5 hok ha hi;obtain⟨kk,hkk⟩:∃ kk:Nat,e.kind=kk:=⟨e.kind.toNat,(Int.toNat_of_nonneg hR.k.1).symm⟩;obtain⟨n,hn⟩:∃ n:Nat,e.bidder=n:=⟨e.bidder.toNat,(Int.toNat_of_nonneg hR.b.1).symm⟩;have hk1:kk<11:=by have:=hR.k; omega
    have hn8:n<8:=by have:=hR.b; omega
    have hph:S'.ph=(EL S C e).ph:=show S'.er.ph=(EL S C e).er.ph by rw[eS']
    have kok' : Mj S':=⟨λ h=>absurd (hph.symm.trans h) phN,λ _=>hg⟩;have hst:fh σ e={ S:=(EL σ.S σ.C e).er,C:=(Sr σ.S σ.C e).er,cn:=bJ σ.cn kk,rf:=σ.rf,dm:=if (kk:Int)=2 then bJ σ.dm n else σ.dm,bi:=if (kk:Int)=5 then bJ σ.bi n else σ.bi,wd:=if (kk:Int)=6 then bJ σ.wd n else σ.wd,rr:=if (kk:Int)=8 then σ.rr++[e.round] else σ.rr }:=by
      unfold fh;rw[if_neg (by rw[hap]; exact λ h=>h ha),hkk,hn,Int.toNat_natCast,Int.toNat_natCast]
    have eS2:(fh σ e).S=S'.er:=by rw[hst]; show(EL σ.S σ.C e).er=_; rw[eS,eC,P5,eS']
    have eC2:(fh σ e).C=C'.er:=by rw[hst]; show(Sr σ.S σ.C e).er=_; rw[eS,eC,eC']; exact BE S C e
    have ck:w10.cell? ⟨r5,0,none⟩=some (iv (kk:Int)):=by rw[<- hkk]; exact s10.ag 2 rfl 0
    have cc:w10.cell? (Addr.add ⟨r3,0,none⟩ (((kk:Nat):Int).toNat*1))=some (iv (σ.cn kk)):=by rw[TL,s10.ag 3 rfl]; exact Lu (uo σ a c) hk1
    refine cF (by rw[ha]; rfl) ⟨_,ck,by omega,by omega,_,cc,by omega,by omega,?_⟩;have hc:=hbd.1 kk;rw[TL,aG ⟨by omega,by omega⟩];refine s10.aJ 3 rfl (by show kk<15; omega) rfl λ w12 s12=>?_;have s12:St w0 w12 (Sep [ah b S'.cells.toArray 112,held (pR S' C'),ah r5 e.cells.toArray 45,ah r3 ((uo σ a c).cells.toArray.setIfInBounds kk (iv ((uo σ a c).cn kk+1))) 32,xx a c σ.rr,ah r4 (qY σ.dm σ.bi σ.wd).toArray 56,ah r2 lT.cells.toArray 32,emp]):=s12;rw[RO _ hk1] at s12;have s13:=s12.quiet (aF.drew w12 []);have cb:w12.drew.cell? ⟨r5,1,none⟩=some (iv (n:Int)):=by rw[<- hn]; exact s13.ag 2 rfl 1
    have ck2:w12.drew.cell? ⟨r5,0,none⟩=some (iv (kk:Int)):=by rw[<- hkk]; exact s13.ag 2 rfl 0
    have ht:=hbd.2.2.2 n;refine⟨_,cb,by omega,by omega,_,ck2,au (RZ (k:=(kk:Int)) (s13.aA [5,0,1,2,3,4,6,7]) hn8 (by omega) (by omega) (by omega)) ?_⟩;rintro v w13 ⟨rfl,s14⟩;have s14:St w0 w13 (Sep [ah r4 (qY (if (kk:Int)=2 then bJ σ.dm n else σ.dm) (if (kk:Int)=5 then bJ σ.bi n else σ.bi) (if (kk:Int)=6 then bJ σ.wd n else σ.wd)).toArray 56,ah b S'.cells.toArray 112,held (pR S' C'),ah r5 e.cells.toArray 45,ah r3 ({ uo σ a c with cn:=bJ σ.cn kk }:Sm).cells.toArray 32,xx a c σ.rr,ah r2 lT.cells.toArray 32,emp]):=s14;have ck3:w13.cell? ⟨r5,0,none⟩=some (iv (kk:Int)):=by rw[<- hkk]; exact s14.ag 3 rfl 0
    refine⟨rfl,_,ck3,?_⟩
    by_cases g8:kk=8
    · have c8:=hbd.1 8;refine cT (by rw[g8]; rfl) ⟨a,σ.rr.length,c,s14.ag 4 rfl 14,_,s14.ag 3 rfl 2,dr (x:=e.round) RJ bS (yD _) (s14.out 5 rfl) (by omega) (by omega) (λ a' c' w' s15=>?_) rfl⟩;have s15:St w0 w' (Sep [ah r4 (qY (if (kk:Int)=2 then bJ σ.dm n else σ.dm) (if (kk:Int)=5 then bJ σ.bi n else σ.bi) (if (kk:Int)=6 then bJ σ.wd n else σ.wd)).toArray 56,ah b S'.cells.toArray 112,held (pR S' C'),ah r5 e.cells.toArray 45,ah r3 ({ uo σ a c with cn:=bJ σ.cn kk }:Sm).cells.toArray 32,xx a' c' (σ.rr++[e.round]),ah r2 lT.cells.toArray 32,emp]):=s15.back (i:=5) (by show 5<8; decide);refine s15.aJ 4 rfl (j:=14) (by show 14<15; decide) rfl λ w16 s16=>K _ ⟨S',C',a',c',eS2,eC2,kok',?_⟩;have s17:St w0 w16 (Sep [ah r4 (qY (if (kk:Int)=2 then bJ σ.dm n else σ.dm) (if (kk:Int)=5 then bJ σ.bi n else σ.bi) (if (kk:Int)=6 then bJ σ.wd n else σ.wd)).toArray 56,ah b S'.cells.toArray 112,held (pR S' C'),ah r5 e.cells.toArray 45,ah r3 (uo { σ with cn:=bJ σ.cn kk,rr:=σ.rr++[e.round] } a' c').cells.toArray 32,xx a' c' (σ.rr++[e.round]),ah r2 lT.cells.toArray 32,emp]):=s16;rw[hst];show St w0 w16 (Sep [ah b S'.cells.toArray 112,held (pR S' C'),ah r3 (uo { σ with cn:=bJ σ.cn kk,rr:=if (kk:Int)=8 then σ.rr++[e.round] else σ.rr } a' c').cells.toArray 32,xx a' c' (if (kk:Int)=8 then σ.rr++[e.round] else σ.rr),ah r4 _ 56,ah r2 lT.cells.toArray 32,emp]);rw[if_pos (show(kk:Int)=8 by omega)];exact s17.aA [1,2,4,5,0,6,7]
    · refine cF (by rw[beq_eq_false_iff_ne]; omega) (K _ ⟨S',C',a,c,eS2,eC2,kok',?_⟩);rw[hst];show St w0 w13 (Sep [ah b S'.cells.toArray 112,held (pR S' C'),ah r3 (uo { σ with cn:=bJ σ.cn kk,rr:=if (kk:Int)=8 then σ.rr++[e.round] else σ.rr } a c).cells.toArray 32,xx a c (if (kk:Int)=8 then σ.rr++[e.round] else σ.rr),ah r4 _ 56,ah r2 lT.cells.toArray 32,emp]);rw[if_neg (show ¬ (kk:Int)=8 by omega)];exact s14.aA [1,2,4,5,0,6,7]
  · have s10:St w0 w10 (Sep [ah b S.cells.toArray 112,held (pR S C),ah r5 e.cells.toArray 45,ah r3 (uo σ a c).cells.toArray 32,xx a c σ.rr,ah r4 (qY σ.dm σ.bi σ.wd).toArray 56,ah r2 lT.cells.toArray 32,emp]):=(k1 ha).dc [_,_];refine cT (by simpa using ha) ⟨σ.rf,s10.ag 3 rfl 11,?_⟩;have hr:=hbd.2;rw[aG ⟨by omega,by omega⟩];refine s10.aJ 3 rfl (j:=11) (by show 11<15; decide) rfl λ w11 s11=>K _ ⟨S,C,a,c,?_,?_,kok,?_⟩
    · unfold fh; rw[if_pos (by rw[hap]; exact ha)]; exact eS
    · unfold fh; rw[if_pos (by rw[hap]; exact ha)]; exact eC
    · unfold fh; rw[if_pos (by rw[hap]; exact ha)];exact s11.aA [0,1,3,4,5,6,7]
end
def E0(σ:Cs)(i:Nat):Bs:=⟨(σ.S.s.bd.getD i Ma).nm,σ.dm i,σ.bi i,σ.wd i,(σ.S.bd.getD i cv).out,σ.C.cl.map λ x=>FJ σ.S.s.ps (x.ask.getD i z6),none,0⟩
def Md(σ:Cs):List Bs:=(List.range σ.S.s.bd.length).map (E0 σ)
def Sh(σ:Cs):Sm:={ cn:=σ.cn,rf:=σ.rf,ps:=if σ.S.ph=0 then [] else σ.C.cl.map Rn.p,pa:=none,pc:=0,bs:=Md σ,ba:=none,bc:=0,rr:=σ.rr,ra:=none,rc:=0 }
def T7(b r2 r3 r4 r7:Nat)(σ:Cs)(S:Sx)(S2:Se)(l:List Rn)(al:OA)(cl:Nat)(M:Sm):List aI :=
  [TS M.pa M.pc M.ps,ah r3 M.cells.toArray 32,IU al cl l,held (mS l),ah r7 S2.arr 68,held S2.In,ah b S.cells.toArray 112,xx M.ra M.rc M.rr,ah r4 (qY σ.dm σ.bi σ.wd).toArray 56,ah r2 lT.cells.toArray 32,emp]
def Pa(b r2 r3 r4 r7:Nat)(σ:Cs)(S:Sx)(S2:Se)(l:List Rn)(al:OA)(cl:Nat)(M:Sm):List aI :=
  [Tf M.ba M.bc M.bs,held (xF M.bs),ah r3 M.cells.toArray 32,TS M.pa M.pc M.ps,IU al cl l,held (mS l),ah r7 S2.arr 68,held S2.In,ah b S.cells.toArray 112,xx M.ra M.rc M.rr,ah r4 (qY σ.dm σ.bi σ.wd).toArray 56,ah r2 lT.cells.toArray 32,emp]
theorem KH{w:World}{o:Obj}{A B:Nat->World->Prop}(h:av w o A)(k:av w o B):av w o λ r w'=>A r w'/\B r w':=⟨h,k⟩
def m2(σ:Cs)(a:OA)(c:Nat)(ps:List I6)(pa:OA)(pc:Nat)(bs:List Bs)(ba:OA)(bc:Nat):Sm:={ uo σ a c with ps:=ps,pa:=pa,pc:=pc,bs:=bs,ba:=ba,bc:=bc }
section
variable {w0 w:World} {b r2 r3 r4:Nat} {σ:Cs} {S:Sx} {C:Ck} {a:OA} {c:Nat}
set_option maxHeartbeats 1000000 in
theorem p6{w:World}{a:OA}{c:Nat}{l:List Ev}(o:Po)(h:cN 11 Ev.cells w a l)(hi:∀ e∈l,e.In)(hl:l.length<=61) :
    CP 7 #[.slice a l.length c,o.v] w (λ r w'=>∃ M:Sm,r=.agg M.cells.toArray/\M.er=Sh (lD o l)/\St w w' (held M.In)):=by
  refine tL ?_;unfold oY;refine(St.start w).one.aB o.cells.toArray λ r1 w1 s1=>s1.aB lT.cells.toArray λ r2 w2 s2=>s2.aB lT.cells.toArray λ r3 w3 s3=>s3.aB (qY (λ _=>0) (λ _=>0) (λ _=>0)).toArray λ r4 w4 s4=>?_;have s4:St w w4 (Sep [ah r4 (qY (λ _=>0) (λ _=>0) (λ _=>0)).toArray 56,ah r3 lT.cells.toArray 32,ah r2 lT.cells.toArray 32,ah r1 o.cells.toArray 24,emp]):=s4;refine⟨_,_,_,_,s4.cellsIn 3 rfl,au (RP w4 o) ?_⟩;rintro v w5 ⟨b,rfl,k5⟩;have s5:St w w5 (Sep [Sep [ah b (oO o).cells.toArray 112],ah r4 (qY (λ _=>0) (λ _=>0) (λ _=>0)).toArray 56,ah r3 lT.cells.toArray 32,ah r2 lT.cells.toArray 32,ah r1 o.cells.toArray 24,emp]):=s4.and k5;refine⟨_,rfl,λ n w' m=>∃ k:Nat,n=k/\k<=l.length/\m=l.length-k/\CI w w' b r2 r3 r4 (lD o (l.take k)),⟨l.length,0,rfl,by omega,by omega,?_⟩,?_⟩
  · have s6:St w w5 (Sep [ah b (oO o).cells.toArray 112,ah r4 (qY (λ _=>0) (λ _=>0) (λ _=>0)).toArray 56,ah r3 lT.cells.toArray 32,ah r2 lT.cells.toArray 32,ah r1 o.cells.toArray 24,emp]):=s4.and k5.single;have s7:St w w5 (Sep [held (pR (oO o) TH),xx none 0 [],ah b (oO o).cells.toArray 112,ah r4 (qY (λ _=>0) (λ _=>0) (λ _=>0)).toArray 56,ah r3 lT.cells.toArray 32,ah r2 lT.cells.toArray 32,ah r1 o.cells.toArray 24,emp]):=St.tj (s6.dI) λ w'=>NZ o w';exact⟨oO o,TH,none,0,(NY o).symm,rfl,⟨λ _=>rfl,λ h=>absurd rfl h⟩,s7.aA [2,0,4,1,3,5,7]⟩
  rintro w6 m1 n9 ⟨k,rfl,hk,hm,S,C,a3,c3,eS,eC,kok,s6⟩ -;have IV:=y9 o (l.take k) λ e he=>hi e (List.mem_of_mem_take he);have hlk:(l.take k).length=k:=by rw[List.length_take]; omega
  rw[hlk] at IV
  by_cases hlt:(k:Int)<(l.length:Int)
  · have hx:l[k]? = some (l[k]'(by omega)):=gE (by omega);generalize l[k]'(by omega)=e at hx;obtain⟨q,hq,hcl⟩:=(h.aC s6.aC).at hx;refine cT (dT hlt) ⟨λ w'=>CI w w' b r2 r3 r4 (lD o (l.take (k+1))),λ w' hw _=>⟨l.length-(k+1),by omega,k+1,aG ⟨by omega,by omega⟩,by omega,rfl,hw⟩,aq hq ⟨by omega,by omega,_,_,_,e.want,_,_,hcl,s6.aB Vf λ r5 w8 s8=>s8.aD 0 rfl e.cells rfl e.one λ w9 s9=>⟨_,_,_,e.want,_,_,s9.cellsIn 0 rfl,ML IV (by omega) (hi e (List.mem_of_getElem? hx)) eS eC kok s9 λ w' hw=>?_⟩⟩⟩;rw[aO hx,u7];exact hw
  obtain rfl:k=l.length:=by omega
  rw[List.take_length] at IV eS eC s6;generalize lD o l=σ at *;refine cF (dF hlt) ?_;have hok:CW S C:=IV.ok.er (by rw[eS,fQ]) (by rw[eC,Gy]);have e1:σ.S.ph=S.ph:=by rw[eS]; rfl
  have e2:σ.S.s.bd=S.s.bd:=by rw[eS]; rfl
  have e3:σ.S.s.ps=S.s.ps:=by rw[eS]; rfl
  have e4:∀ i,(σ.S.bd.getD i cv).out=(S.bd.getD i cv).out:=λ i=>by rw[eS,JS]
  have e5:σ.C.cl=C.cl.map Rn.er:=by rw[eC]; rfl
  refine au (Lm (s6.cellsIn 0 rfl) hok.b8 (s6.cr 1 rfl) hok kok) ?_;rintro v w17 ⟨p,C',rfl,eC',kok',k17⟩;have s17:St w w17 (Sep [R8 p C',ah b S.cells.toArray 112,held (pR S C),ah r3 (uo σ a3 c3).cells.toArray 32,xx a3 c3 σ.rr,ah r4 (qY σ.dm σ.bi σ.wd).toArray 56,ah r2 lT.cells.toArray 32,emp]):=s6.and k17;refine⟨p,rfl,?_⟩
  by_cases h0:S.ph=0
  · obtain rfl:p=none:=kok'.1 h0;refine cT rfl ⟨_,_,_,_,_,_,_,_,_,_,_,_,_,_,_,_,_,_,_,_,_,s17.cellsIn 3 rfl,s17.aD 6 rfl (uo σ a3 c3).cells rfl (Sm.one _) λ w18 s18=>⟨_,_,_,_,_,_,_,_,_,_,_,_,_,_,_,_,_,_,_,_,_,s18.cellsIn 6 rfl,uo σ a3 c3,rfl,?_,?_⟩⟩
    · have hb:Md σ=[]:=by
        unfold Md;rw[e2,show S.s.bd=[] from show S.s.er.bd=fo.bd by rw[hok.z h0]]; rfl
      unfold Sh;rw[hb,if_pos (e1.trans h0)]; rfl
    · exact((s18.aA [4]).vP ((bp bS).mono λ w' i=>(⟨λ i p h=>by simp[uo,lT] at h,λ i p h=>by simp[uo,lT] at h,λ x hx=>by simp[uo,lT] at hx,i⟩:(uo σ a3 c3).In w'))).single
  · obtain⟨g,rfl⟩:∃ g,p=some ⟨g,0,none⟩:=kok'.2 h0;have hok' : CW S C':=hok.er rfl eC';have hI:=hok'.c h0;have hso:=hok.so h0;have s18:St w w17 (Sep [held (C'.Rd g),ah b S.cells.toArray 112,held (pR S C),ah r3 (uo σ a3 c3).cells.toArray 32,xx a3 c3 σ.rr,ah r4 (qY σ.dm σ.bi σ.wd).toArray 56,ah r2 lT.cells.toArray 32,emp]):=s17.vP yb;refine cF rfl (au (LA (s18.cellsIn 1 rfl) (s18.cr 2 rfl).h.1 (Ty hok)) ?_);rintro v w19 ⟨S2,eS2,rfl,k19⟩;have s19:St w w19 (Sep [held S2.In,held (C'.Rd g),ah b S.cells.toArray 112,held (pR S C),ah r3 (uo σ a3 c3).cells.toArray 32,xx a3 c3 σ.rr,ah r4 (qY σ.dm σ.bi σ.wd).toArray 56,ah r2 lT.cells.toArray 32,emp]):=s18.and k19;refine⟨S2.a1,S2.ps.length,S2.c1,S2.a2,S2.bd.length,S2.c2,S2.a3,S2.cp.length,S2.c3,S2.a4,S2.sa.length,S2.c4,rfl,s19.aB fo.arr λ r7 w20 s20=>s20.aD 0 rfl S2.arr.toList rfl (by simp[Se.arr,Value.oneCell']) λ w21 s21=>?_⟩;have s21:St w w21 (Sep [ah r7 S2.arr 68,held S2.In,held (C'.Rd g),ah b S.cells.toArray 112,held (pR S C),ah r3 (uo σ a3 c3).cells.toArray 32,xx a3 c3 σ.rr,ah r4 (qY σ.dm σ.bi σ.wd).toArray 56,ah r2 lT.cells.toArray 32,emp]):=s21;refine au (Av (s21.cr 2 rfl) hI.ok) ?_;rintro v w22 ⟨l',a4,c4,el,rfl,k22⟩;have s22:St w w22 (Sep [IU a4 c4 l',held (mS l'),ah r7 S2.arr 68,held S2.In,held (C'.Rd g),ah b S.cells.toArray 112,held (pR S C),ah r3 (uo σ a3 c3).cells.toArray 32,xx a3 c3 σ.rr,ah r4 (qY σ.dm σ.bi σ.wd).toArray 56,ah r2 lT.cells.toArray 32,emp]):=(s21.and k22).two;have MU:l'.map Rn.er=σ.C.cl:=by rw[e5,el]; exact show C'.er.cl=C.er.cl by rw[eC']
    have hl' : l'.length=C'.cl.length:=by have:=congrArg List.length el; simpa using this
    have hl30:=hI.ok.cl;have mem:∀ x∈l',∃ y∈C'.cl,y.er=x.er:=λ x hx=>by
      have:x.er∈C'.cl.map Rn.er:=by rw[<- el]; exact List.mem_map_of_mem hx
      exact List.mem_map.1 this
    have eb2:S2.bd=S.s.bd:=sG eS2;have ep2:S2.ps=S.s.ps:=show S2.er.ps=S.s.er.ps by rw[eS2]
    have ecb:C'.s.bd=S.s.bd:=sG (hok'.cs h0);have ok2:S2.Ok:=Hu eS2 hso;refine⟨a4,l'.length,c4,rfl,λ n w' m=>∃ (k:Nat) (ap:OA) (cp:Nat),n=k/\k<=l'.length/\m=l'.length-k/\St w w' (Sep (T7 b r2 r3 r4 r7 σ S S2 l' a4 c4 { uo σ a3 c3 with ps:=(l'.take k).map Rn.p,pa:=ap,pc:=cp })),⟨l'.length,0,none,0,rfl,by omega,by omega,?_⟩,?_⟩
    · have s23:St w w22 (Sep [TS none 0 [],IU a4 c4 l',held (mS l'),ah r7 S2.arr 68,held S2.In,held (C'.Rd g),ah b S.cells.toArray 112,held (pR S C),ah r3 (uo σ a3 c3).cells.toArray 32,xx a3 c3 σ.rr,ah r4 (qY σ.dm σ.bi σ.wd).toArray 56,ah r2 lT.cells.toArray 32,emp]):=s22.dI;exact s23.aA [0,8,1,2,3,4,6,9,10,11,12]
    rintro w23 m3 n50 ⟨k,ap,cp,rfl,hk,hm,s23⟩ -
    by_cases hlt2:(k:Int)<(l'.length:Int)
    · have hx:l'[k]? = some (l'[k]'(by omega)):=gE (by omega);generalize l'[k]'(by omega)=x at hx;obtain⟨q,hq,hcl⟩:=((s23.out 2 rfl).rd Rn.len).at hx;refine cT (dT hlt2) (aq hq ⟨by omega,by omega,x.p,_,_,_,_,_,_,_,_,_,hcl,s23.aB R7.cells.toArray λ r8 w24 s24=>s24.aD 0 rfl x.cells rfl x.one λ w25 s25=>?_⟩);have hlen:((l'.take k).map Rn.p).length=k:=by simp; omega
      refine⟨ap,((l'.take k).map Rn.p).length,cp,s25.ag 2 rfl 12,x.p,s25.aM 0 0 rfl rfl,dr (l:=(l'.take k).map Rn.p) U2 cL (I6.one _) (x:=x.p) (s25.out 1 rfl) (by omega) (by omega) (λ a' c' w' s26=>?_) rfl⟩;have s26:St w w' (Sep (ah r8 x.cells.toArray 77 :: TS a' c' ((l'.take k).map Rn.p++[x.p]) :: (T7 b r2 r3 r4 r7 σ S S2 l' a4 c4 { uo σ a3 c3 with ps:=(l'.take k).map Rn.p,pa:=ap,pc:=cp }).drop 1)):=s26.back (i:=1) (by show 1<12; decide);refine s26.aJ 2 rfl (j:=12) (by show 12<15; decide) rfl λ w28 s28=>⟨l'.length-(k+1),by omega,k+1,a',c',aG ⟨by omega,by omega⟩,by omega,rfl,?_⟩;rw[aO hx,List.map_append,List.map_singleton];exact s28.second
    obtain rfl:k=l'.length:=by omega
    rw[List.take_length] at s23;generalize hM:({ uo σ a3 c3 with ps:=l'.map Rn.p,pa:=ap,pc:=cp }:Sm)=M2 at s23;have hN8:S2.bd.length<=8:=by rw[eb2]; exact hso.bd.l2
    have hlb:∀ {y:Rn},y∈l'->y.ask.length=S2.bd.length/\∀ u∈y.ask,I6.Le u 4:=λ {y} hy=>by
      obtain⟨z,hz,ez⟩:=mem y hy;have ea:z.ask=y.ask:=show z.er.ask=y.er.ask by rw[ez]
      rw[<- ea,eb2,<- ecb];exact⟨(hI.ok.cz z hz).ask,hI.ok.ca z hz⟩
    refine cF (dF hlt2) ⟨_,_,_,s23.ag 4 rfl 1,λ n w' m=>∃ (k:Nat) (bl:List Bs) (ba:OA) (bc:Nat),n=k/\k<=S2.bd.length/\m=S2.bd.length-k/\bl.map Bs.er=(List.range k).map (E0 σ)/\St w w' (Sep (Pa b r2 r3 r4 r7 σ S S2 l' a4 c4 { M2 with bs:=bl,ba:=ba,bc:=bc })),⟨S2.bd.length,0,[],none,0,rfl,by omega,by omega,rfl,?_⟩,?_⟩
    · have s24:St w w23 (Sep (held (xF []) :: Tf none 0 [] :: T7 b r2 r3 r4 r7 σ S S2 l' a4 c4 M2)):=St.tj (s23.dI) λ w' x hx=>by cases hx
      have e:({ M2 with bs:=[],ba:=none,bc:=0 }:Sm)=M2:=by rw[<- hM]; rfl
      rw[e];have e2:M2.bs=[]:=by rw[<- hM]; rfl
      have e3:M2.ba=none:=by rw[<- hM]; rfl
      have e4:M2.bc=0:=by rw[<- hM]; rfl
      unfold Pa;rw[e2,e3,e4];exact s24.aA [1,0,3,2,4,5,6,7,8,9,10,11,12]
    rintro w24 m5 n51 ⟨k,bl,ba,bc,rfl,hk,hm5,hbl,s24⟩ -;generalize hM3:({ M2 with bs:=bl,ba:=ba,bc:=bc }:Sm)=M3 at s24;have hblk:bl.length=k:=by have:=congrArg List.length hbl; simpa using this
    have m1:M3.bs=bl:=by rw[<- hM3]
    have m2:M3.ba=ba:=by rw[<- hM3]
    have m3:M3.bc=bc:=by rw[<- hM3]
    by_cases hlt3:(k:Int)<(S2.bd.length:Int)
    · have hx:S2.bd[k]? = some (S2.bd[k]'(by omega)):=gE (by omega);generalize S2.bd[k]'(by omega)=x at hx;have hk8:k<8:=by omega
      have hkn:k<S.s.bd.length:=by rw[<- eb2]; omega
      obtain⟨q,hq,hcl⟩:=(s24.cr 7 rfl).bd.fl.at hx;refine cT (dT hlt3) (aq hq ⟨by omega,by omega,_,_,_,_,hcl,s24.aB Ma.cells.toArray λ r10 w30 s30=>s30.aD 0 rfl x.cells rfl x.one λ w31 s31=>?_⟩);have s32:=s31.quiet (aF.drew w31 []);let B0:Bs:=⟨x.nm,σ.dm k,σ.bi k,σ.wd k,(S.bd.getD k cv).out,[],none,0⟩;refine⟨λ r w'=>St w w' (Sep (ah r B0.cells.toArray 35 :: Pa b r2 r3 r4 r7 σ S S2 l' a4 c4 M3)),?_,_,s32.ag 0 rfl 0,by omega,by omega,σ.dm k,by rw[EK,s32.ag 11 rfl]; exact I9 hk8,by omega,by omega,σ.bi k,by rw[EK,aV,s32.ag 11 rfl]; exact I8 hk8,by omega,by omega,σ.wd k,by rw[EK,aV,s32.ag 11 rfl]; exact Ja hk8,?_,?_⟩
      · rintro w32 r11 s33 -;let f:Rn->Int:=λ y=>FJ S2.ps (y.ask.getD k z6);refine⟨λ n w' m=>∃ (j:Nat) (ai:OA) (ci:Nat),n=j/\j<=l'.length/\m=l'.length-j/\St w w' (Sep (xx ai ci ((l'.take j).map f) :: ah r11 ({ B0 with pts:=(l'.take j).map f,pa:=ai,pc:=ci }:Bs).cells.toArray 35 :: Pa b r2 r3 r4 r7 σ S S2 l' a4 c4 M3)),⟨l'.length,0,none,0,rfl,by omega,by omega,s33.dI⟩,?_⟩;rintro w33 m7 n55 ⟨j,ai,ci,rfl,hj,hm7,s34⟩ -;have hlen:((l'.take j).map f).length=j:=by simp; omega
        by_cases hlt4:(j:Int)<(l'.length:Int)
        · have hy:l'[j]? = some (l'[j]'(by omega)):=gE (by omega);generalize l'[j]'(by omega)=y at hy;have hym:=List.mem_of_getElem? hy;obtain⟨q1,hq1,hcl1⟩:=((s34.out 6 rfl).rd Rn.len).at hy;refine cT (dT hlt4) (aq hq1 ⟨by omega,by omega,y.p,_,_,_,_,_,_,_,_,_,hcl1,s34.aB R7.cells.toArray λ r12 w34 s35=>s35.aD 0 rfl y.cells rfl y.one λ w35 s36=>?_⟩);have s37:=s36.quiet (aF.drew w35 []);obtain⟨z1,z2⟩:=hlb hym;have hu:y.ask[k]? = some (y.ask.getD k z6):=getD_at (by omega);obtain⟨q2,hq2,hcl2⟩:=((s37.cr 8 rfl) y hym).ask.at hu;refine⟨ai,((l'.take j).map f).length,ci,s37.ag 2 rfl 5,S2.a1,S2.ps.length,S2.c1,s37.ag 9 rfl 0,y.xa,y.ask.length,y.xc,s37.ag 0 rfl 6,aq hq2 ⟨by omega,by omega,_,hcl2,au (Ed (s37.cr 10 rfl).ps (s37.cr 10 rfl).h1 ok2.ps (z2 _ (List.mem_of_getElem? hu))) ?_⟩⟩;rintro v w36 ⟨rfl,c36⟩;have s38:=s37.quiet c36;refine⟨_,rfl,s38.ag 2 rfl 5,KH (s38.aB _ λ r w' s'=>s'.ag 3 rfl 5) (dr (l:=(l'.take j).map f) RJ bS (yD _) (x:=f y) (s38.out 1 rfl) (by omega) (by omega) (λ a' c' w' s39=>?_) rfl)⟩;have s39:St w w' (Sep (ah r12 y.cells.toArray 77 :: xx a' c' ((l'.take j).map f++[f y]) :: ah r11 ({ B0 with pts:=(l'.take j).map f,pa:=ai,pc:=ci }:Bs).cells.toArray 35 :: Pa b r2 r3 r4 r7 σ S S2 l' a4 c4 M3)):=s39.back (i:=1) (by show 1<16; decide);refine s39.aJ 2 rfl (j:=5) (by show 5<6; decide) rfl λ w28 s40=>⟨l'.length-(j+1),by omega,j+1,a',c',aG ⟨by omega,by omega⟩,by omega,rfl,?_⟩;rw[aO hy,List.map_append,List.map_singleton];exact s40.second
        obtain rfl:j=l'.length:=by omega
        rw[List.take_length] at s34;let B1:Bs:={ B0 with pts:=l'.map f,pa:=ai,pc:=ci };refine cF (dF hlt4) ⟨ba,bl.length,bc,?_,_,_,_,_,_,_,_,_,s34.cellsIn 1 rfl,?_⟩
        · rw[s34.ag 4 rfl,<- hM3]; rfl
        subst hM3;have s35:St w w33 (Sep (xx ai ci B1.pts :: ah r11 B1.cells.toArray 35 :: Tf ba bc bl :: held (xF bl) :: (Pa b r2 r3 r4 r7 σ S S2 l' a4 c4 { M2 with bs:=bl,ba:=ba,bc:=bc }).drop 2)):=s34;refine dr (l:=bl) UZ Bs.len (Bs.one B1) (x:=B1) (s35.out 2 rfl) (by omega) (by omega) (λ a' c' w' s41=>?_) rfl;have s41:St w w' (Sep (xx ai ci B1.pts :: ah r11 B1.cells.toArray 35 :: Tf a' c' (bl++[B1]) :: held (xF bl) :: (Pa b r2 r3 r4 r7 σ S S2 l' a4 c4 { M2 with bs:=bl,ba:=ba,bc:=bc }).drop 2)):=s41.back (i:=2) (by show 2<15; decide);refine s41.aJ 4 rfl (j:=13) (by show 13<15; decide) rfl λ w42 s42=>⟨S2.bd.length-(k+1),by omega,k+1,bl++[B1],a',c',aG ⟨by omega,by omega⟩,by omega,rfl,?_,?_⟩
        · rw[List.range_succ,List.map_append,List.map_append,hbl,List.map_singleton,List.map_singleton];have e1:(σ.S.s.bd.getD k Ma).nm=x.nm:=by rw[e2,<- eb2,List.getD_eq_getElem?_getD,hx]; rfl
          have e6:E0 σ k=B1.er:=by
            unfold E0;rw[e1,e4,<- MU,List.map_map,e3,<- ep2]; rfl
          rw[e6]
        · have s43:St w w42 (Sep (xx ai ci B1.pts :: held (xF bl) :: Tf a' c' (bl++[B1]) :: ah r3 ({ M2 with bs:=bl++[B1],ba:=a',bc:=c' }:Sm).cells.toArray 32 :: (Pa b r2 r3 r4 r7 σ S S2 l' a4 c4 { M2 with bs:=bl++[B1],ba:=a',bc:=c' }).drop 3)):=s42.aA [0,3,2,4,5,6,7,8,9,10,11,12,13,14];have s44:=s43.kY (S:=xF (bl++[B1])) (bp bS) (aR _) λ w' h1 h2 y hy=>(List.mem_append.1 hy).elim (h2 y) λ e=>by rw[List.mem_singleton.1 e]; exact h1
          exact s44.aA [1,0,2,3,4,5,6,7,8,9,10,11,12]
      · refine au (PG (s32.aA [9]) hok.b8 hk8 hkn) ?_;rintro v w43 ⟨rfl,rfl⟩;refine⟨_,rfl,by rw[EK,aV,s32.ag 11 rfl]; exact Ja hk8,by rw[EK,aV,s32.ag 11 rfl]; exact I8 hk8,by rw[EK,s32.ag 11 rfl]; exact I9 hk8,s32.ag 0 rfl 0,s32.aB Mi.cells.toArray λ r15 w44 s44=>⟨by rw[EK,aV,s44.ag 12 rfl]; exact Ja hk8,by rw[EK,aV,s44.ag 12 rfl]; exact I8 hk8,by rw[EK,s44.ag 12 rfl]; exact I9 hk8,s44.ag 1 rfl 0,s44.aD 0 rfl B0.cells rfl (Bs.one _) λ w45 s45=>s45.aA [0,2,3,4,5,6,7,8,9,10,11,12,13,14]⟩⟩
      · refine s32.aB Mi.cells.toArray λ r16 w46 s46=>⟨by rw[EK,aV,s46.ag 12 rfl]; exact Ja hk8,by rw[EK,aV,s46.ag 12 rfl]; exact I8 hk8,by rw[EK,s46.ag 12 rfl]; exact I9 hk8,s46.ag 1 rfl 0,au (PG (s46.aA [10]) hok.b8 hk8 hkn) ?_⟩;rintro v w47 ⟨rfl,rfl⟩;exact⟨_,rfl,by rw[EK,aV,s46.ag 12 rfl]; exact Ja hk8,by rw[EK,aV,s46.ag 12 rfl]; exact I8 hk8,by rw[EK,s46.ag 12 rfl]; exact I9 hk8,s46.ag 1 rfl 0,s46.aD 0 rfl B0.cells rfl (Bs.one _) λ w48 s48=>s48.aA [0,2,3,4,5,6,7,8,9,10,11,12,13,14]⟩
    obtain rfl:k=S2.bd.length:=by omega
    refine cF (dF hlt3) ⟨_,_,_,_,_,_,_,_,_,_,_,_,_,_,_,_,_,_,_,_,_,s24.cellsIn 2 rfl,s24.aD 11 rfl M3.cells rfl (Sm.one _) λ w49 s49=>⟨_,_,_,_,_,_,_,_,_,_,_,_,_,_,_,_,_,_,_,_,_,s49.cellsIn 11 rfl,M3,rfl,?_,?_⟩⟩
    · subst hM3 hM;unfold Sh Md;rw[if_neg (by rw[e1]; exact h0),e2,<- eb2,<- hbl,<- MU,List.map_map]; rfl
    · have s50:=(s49.aA [0,1,3,9]).held ((bp Bs.len).cons ((aR _).cons ((bp cL).cons ((bp bS).cons iE.nil))));exact s50.weak (kX λ w' ⟨i1,i2,i3,i4,_⟩=>⟨i3,i1,i2,i4⟩)
end
theorem Pj{w:World}{a:OA}{c:Nat}{l:List Ev}(h:cN 11 Ev.cells w a l) :
    CP 5 #[.slice a l.length c] w (λ r w'=>∃ b:Bool,r=.bool b/\w' = w/\(b=true->l.length<=60)):=by
  refine BY ?_;unfold Aw
  by_cases g:(l.length:Int)>60
  · exact cT (dT g) ⟨false,rfl,rfl,λ h=>by cases h⟩
  refine cF (dF g) ⟨λ n w' m=>∃ k:Nat,n=k/\k<=l.length/\m=l.length-k/\w' = w,⟨l.length,0,rfl,by omega,by omega,rfl⟩,?_⟩;rintro w' m n ⟨k,rfl,hk,hm,rfl⟩ -
  by_cases hlt:(k:Int)<(l.length:Int)
  · have hx:l[k]? = some (l[k]'(by omega)):=gE (by omega);generalize l[k]'(by omega)=e at hx;obtain⟨q,hq,hcl⟩:=h.at hx;have hc:=aU hcl 9 (sv e.text) rfl;refine cT (dT hlt) (aq hq ⟨by omega,by omega,bs e.text,hc,?_⟩)
    by_cases g2:(((bs e.text).size:Nat):Int)>2000
    · exact cT (dT g2) ⟨false,rfl,rfl,λ h=>by cases h⟩
    · exact cF (dF g2) ⟨l.length-(k+1),by omega,k+1,aG ⟨by omega,by omega⟩,by omega,rfl,rfl⟩
  · exact cF (dF hlt) ⟨true,rfl,rfl,λ _=>by omega⟩
theorem vu{f:Nat->Int}{B:Int}(h:∀ i,0<=f i/\f i<=B):∀ n:Nat,0<=bV f n/\bV f n<=B*n
  | 0=>by show(0:Int)<=0/\(0:Int)<=B*0; omega
  | n+1=>by
    have:=vu h n;have:=h n;show 0<=bV f n+f n/\bV f n+f n<=B*((n+1:Nat):Int);have e:B*((n+1:Nat):Int)=B*n+B:=by rw[Int.natCast_add,Int.mul_add,Int.natCast_one,Int.mul_one]
    omega
abbrev EY:Prop:=∀ w:World,CP 6 #[] w (λ r w'=>r=.bool true/\aF w w' [])
theorem Jz{σ:Cs}{k:Nat}(IV:Iv σ k):σ.S.s.bd.length<=8:=by
  have hok:=IV.ok
  by_cases h:σ.S.ph=0
  · rw[show σ.S.s.bd=[] from show σ.S.s.er.bd=fo.bd by rw[hok.z h]]; decide
  · exact(hok.so h).bd.l2
theorem LU(aw:EY){w:World}{a:OA}{c:Nat}{l:List Ev}(o:Po)(h:cN 11 Ev.cells w a l)(hi:∀ e∈l,e.In) :
    CP 3 #[.slice a l.length c,o.v] w (λ r w'=>r=.bool true/\aF w w' []):=by
  refine nK ?_;unfold ji;refine(St.start w).one.aB o.cells.toArray λ r1 w1 s1=>au (Pj (h.aC s1.aC)) ?_;rintro v w2 ⟨b,rfl,rfl,hf⟩;refine⟨b,rfl,?_⟩;have fin:∀ {w2:World},aF w w2 []->Calls prog 6 #[] w2 (λ e w'=>∃ b,e=.returned (.bool b)/\(Value.bool b=.bool true/\aF w w' [])):=λ hc=>au (aw _) λ v w' ⟨h1,h2⟩=>by subst h1; exact⟨true,rfl,rfl,hc.trans h2 (by simp)⟩
  cases b with
  | false=>exact cT rfl (fin s1.aC)
  | true =>
  have hl:=hf rfl;refine cF rfl ⟨_,_,_,_,s1.cellsIn 0 rfl,au (p6 o (h.aC s1.aC) hi (by omega)) ?_⟩;rintro v w4 ⟨M,rfl,hM,k4⟩;have s4:St w w4 (Sep [held M.In,ah r1 o.cells.toArray 24,emp]):=s1.and k4;refine⟨_,_,_,_,_,_,_,_,_,_,_,_,_,_,_,_,_,_,_,_,_,rfl,s4.aB lT.cells.toArray λ r2 w5 s5=>s5.aD 0 rfl M.cells rfl (Sm.one _) λ w6 s6=>?_⟩;have IV:=y9 o l hi;generalize lD o l=σ at *;have e1:M.cn=σ.cn:=show M.er.cn=σ.cn by rw[hM]; rfl
  have e2:M.rf=σ.rf:=show M.er.rf=σ.rf by rw[hM]; rfl
  have e3:M.ps=if σ.S.ph=0 then [] else σ.C.cl.map Rn.p:=show M.er.ps=_ by rw[hM]; rfl
  have e4:M.bs.map Bs.er=Md σ:=show M.er.bs=_ by rw[hM]; rfl
  have e5:M.rr=σ.rr:=show M.er.rr=_ by rw[hM]; rfl
  obtain⟨hbc,hb1,hb2,hbd⟩:=IV.bd;have s6:St w w6 (Sep [ah r2 M.cells.toArray 32,held M.In,ah r1 o.cells.toArray 24,emp]):=s6;have sb:=vu hbc;refine⟨_,s6.ag 0 rfl 11,λ x n w' m=>∃ k:Nat,n=k/\k<=11/\m=11-k/\x=σ.rf+bV σ.cn k/\w' = w6,⟨11,0,rfl,by omega,by omega,by rw[e2]; show _=σ.rf+0; omega,rfl⟩,?_⟩;rintro w7 m1 n22 n23 ⟨k,rfl,hk,hm,rfl,rfl⟩ -
  by_cases hk10:(k:Int)<=10
  · refine cT (dT hk10) ⟨by omega,by omega,σ.cn k,?_,11-(k+1),by omega,k+1,aG ⟨by omega,by omega⟩,by omega,rfl,?_,rfl⟩
    · rw[TL,s6.ag 0 rfl,<- e1]; exact Lu M (by omega)
    · have:=sb k; have:=hbc k;have:(l.length:Int)*k<=60*11:=Int.mul_le_mul (by omega) (by omega) (by omega) (by omega);rw[aG ⟨by omega,by omega⟩];show _=σ.rf+(bV σ.cn k+σ.cn k);omega
  obtain rfl:k=11:=by omega
  refine cF (dF hk10) ?_;have hN:=Jz IV;have hlen:M.bs.length=σ.S.s.bd.length:=by have:=congrArg List.length e4; simpa[Md] using this
  have sd:=vu (f:=σ.dm) (B:=(l.length:Int)) λ i=>(hbd i).1;have sbi:=vu (f:=σ.bi) (B:=(l.length:Int)) λ i=>(hbd i).2.1;have sw:=vu (f:=σ.wd) (B:=(l.length:Int)) λ i=>(hbd i).2.2;have so:=vu (f:=jq σ.S) (B:=1) λ i=>by unfold jq; split<;>decide
  have mul:∀ k:Nat,k<=8->(l.length:Int)*k<=480:=λ k hk=>by
    have:(l.length:Int)*k<=60*8:=Int.mul_le_mul (by omega) (by omega) (by omega) (by omega);omega
  refine⟨λ d bi wd ou n w' m=>∃ k:Nat,n=k/\k<=M.bs.length/\m=M.bs.length-k/\d=bV σ.dm k/\bi=bV σ.bi k/\wd=bV σ.wd k/\ou=bV (jq σ.S) k/\St w w' (Sep [ah r2 M.cells.toArray 32,held M.In,ah r1 o.cells.toArray 24,emp]),⟨M.bs.length,0,rfl,by omega,by omega,rfl,rfl,rfl,rfl,s6⟩,?_⟩;rintro w8 m3 d bi wd ou n ⟨k,rfl,hk,hm3,rfl,rfl,rfl,rfl,s8⟩ -;refine⟨_,_,_,s8.ag 0 rfl 13,?_⟩
  by_cases hlt:(k:Int)<(M.bs.length:Int)
  · have hx:M.bs[k]? = some (M.bs[k]'(by omega)):=gE (by omega);generalize M.bs[k]'(by omega)=x at hx;have hxe:x.er=E0 σ k:=by
      have h1:(M.bs.map Bs.er)[k]? = some x.er:=by rw[List.getElem?_map,hx]; rfl
      rw[e4,Md,List.getElem?_map,List.getElem?_range (by omega)] at h1;exact(Option.some.inj h1).symm
    obtain⟨q,hq,hcl⟩:=(s8.cr 1 rfl).bs.at hx;refine cT (dT hlt) ⟨_,_,_,s8.ag 0 rfl 13,aq hq ⟨by omega,by omega,_,_,_,_,_,_,_,_,hcl,s8.aB Mi.cells.toArray λ r3 w9 s9=>s9.aD 0 rfl x.cells rfl x.one λ w10 s10=>?_⟩⟩;have s11:=s10.quiet (aF.drew w10 []);have x1:x.dm=σ.dm k:=show x.er.dm=_ by rw[hxe]; rfl
    have x2:x.bi=σ.bi k:=show x.er.bi=_ by rw[hxe]; rfl
    have x3:x.wd=σ.wd k:=show x.er.wd=_ by rw[hxe]; rfl
    have x4:(if x.out=true then (1:Int) else 0)=jq σ.S k:=show(if x.er.out=true then (1:Int) else 0)=_ by rw[hxe]; rfl
    have x5:x.pts.length=σ.C.cl.length:=show x.er.pts.length=_ by rw[hxe]; simp[E0]
    have hph:σ.S.ph≠0:=λ h0=>by
      rw[show σ.S.s.bd=[] from show σ.S.s.er.bd=fo.bd by rw[IV.ok.z h0]] at hlen;have:M.bs.length=0:=hlen;omega
    have x6:M.ps.length=σ.C.cl.length:=by rw[e3,if_neg hph]; simp
    have b1:=hbd k;have b2:=sd k; have b3:=sbi k; have b4:=sw k; have b5:=so k; have b6:=mul k (by omega);refine⟨x.dm,s11.ag 0 rfl 1,x.bi,s11.ag 0 rfl 2,x.wd,s11.ag 0 rfl 3,λ n w'=>n=bV (jq σ.S) (k+1)/\w' = w10.drew,?_,x.out,s11.ag 0 rfl 4,?_⟩
    · rintro w11 n36 ⟨rfl,rfl⟩ -;refine⟨_,_,_,s11.ag 0 rfl 5,_,_,_,s11.ag 1 rfl 12,cF (by rw[x5,x6]; simp) ⟨M.bs.length-(k+1),by omega,k+1,aG ⟨by omega,by omega⟩,by omega,rfl,?_,?_,?_,rfl,s11.second⟩⟩
      · rw[x1,aG ⟨by omega,by omega⟩]; rfl
      · rw[x2,aG ⟨by omega,by omega⟩]; rfl
      · rw[x3,aG ⟨by omega,by omega⟩]; rfl
    · cases ho:x.out with
      | true =>
        rw[ho] at x4;exact cT rfl ⟨by rw[aG ⟨by omega,by omega⟩]; show _=bV (jq σ.S) k+jq σ.S k; rw[<- x4]; rfl,rfl⟩
      | false =>
        rw[ho] at x4;exact cF rfl ⟨by show _=bV (jq σ.S) k+jq σ.S k; rw[<- x4]; exact(Int.add_zero _).symm,rfl⟩
  obtain rfl:k=M.bs.length:=by omega
  have cut:∀ {f:Nat->Int},(∀ i,i<8->σ.S.s.bd.length<=i->f i=0)->bV f M.bs.length=bV f 8:=λ {f} hz=>(Hz 8 (by omega) λ i h1 h2=>hz i h2 (by omega)).symm;have cell:∀ j:Nat,j<11->w8.cell? (Addr.add ⟨r2,0,none⟩ (((j:Nat):Int).toNat*1))=some (iv (σ.cn j)):=λ j hj=>by
    rw[TL,s8.ag 0 rfl,<- e1]; exact Lu M hj
  have hz:=IV.hi;refine cF (dF hlt) (cT (by rw[IV.all]; exact beq_self_eq_true _) ⟨by decide,by decide,_,cell 0 (by decide),cT (by rw[IV.c0]; rfl) ⟨by decide,by decide,_,cell 1 (by decide),cT ?_ ⟨by decide,by decide,_,cell 2 (by decide),cT ?_ ⟨by decide,by decide,_,cell 5 (by decide),cT ?_ ⟨by decide,by decide,_,cell 6 (by decide),cT ?_ ⟨by decide,by decide,_,cell 7 (by decide),cT ?_ ⟨_,_,_,s8.ag 0 rfl 14,by decide,by decide,_,cell 8 (by decide),cT ?_ (fin s8.aC)⟩⟩⟩⟩⟩⟩⟩)
  · rw[IV.c1]; split<;>rfl
  · rw[cut λ i h1 h2=>(hz i h1 h2).1,IV.dm]; exact beq_self_eq_true _
  · rw[cut λ i h1 h2=>(hz i h1 h2).2.1,IV.bi]; exact beq_self_eq_true _
  · rw[cut λ i h1 h2=>(hz i h1 h2).2.2.1,IV.wd]; exact beq_self_eq_true _
  · rw[cut λ i h1 h2=>(hz i h1 h2).2.2.2,IV.ou]; exact beq_self_eq_true _
  · rw[e5,IV.rr]; exact beq_self_eq_true _
end Go.Proofs.YtjpbdjhaajdepaaGreatDoor
