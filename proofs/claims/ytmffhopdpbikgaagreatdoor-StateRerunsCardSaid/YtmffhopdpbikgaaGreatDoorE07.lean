import Derived.Test.YtmffhopdpbikgaaGreatDoorE06
set_option linter.unusedVariables false
set_option maxRecDepth 100000
namespace Go.Proofs.YtmffhopdpbikgaaGreatDoor
open Go Go.Vc _root_.Go.Proofs.Tryz
section
variable {b:Nat} {C:Ck} {w:World}
theorem JD(h:C.Rd b w)(hk:C.Ok):CP 28 #[.pointer (some ⟨b,0,none⟩)] w (λ r w'=>∃ g C',C'.er=C.er/\r=.pointer (some ⟨g,0,none⟩)/\St w w' (Sep (dI g C'))):=by
 refine qi ?_;unfold kB;have z:=hk.s.bd.l2; have z1:=hk.ask; have z2:=hk.bd; have z3:=hk.dp;refine⟨_,_,_,_,_,_,_,_,_,_,_,_,_,_,_,_,_,_,_,C.p,_,_,_,_,_,_,_,_,_,_,h.me,(St.start w).one.ax ⟨[.slice none 0 0,.slice none 0 0,.slice none 0 0,.slice none 0 0,iv 0,iv 0,iv 0,iv 0,.slice none 0 0,iv 0,iv 0,iv 0,iv 0,iv 0,iv 0,.slice none 0 0,.slice none 0 0,.slice none 0 0,.bool false]⟩ λ r1 w1 s1=>s1.ay 0 rfl C.cells rfl C.one λ w2 s2=>?_⟩;refine⟨_,_,_,_,_,_,_,_,_,_,_,_,(h.av s2.av).aF 0 rfl,aj (yg (h.av s2.av).i.s hk.s.sz) ?_⟩;rintro v w3 ⟨S',eS,rfl,k3⟩;have s3:St w w3 (Sep [_,_,_]):=s2.and k3;refine⟨_,_,_,_,_,_,_,_,_,_,_,_,rfl,aj (uU (h.av s3.av) hk) ?_⟩;rintro v w4 ⟨l',a4,c4,e4,rfl,k4⟩;have s4:St w w4 (Sep [_,_,_,_,_]):=(s3.and k4).assoc;refine⟨_,_,_,rfl,s4.j7 3 0 rfl ({ C with s:=S' }:Ck).cells.toArray (show 4<=19 by decide) (by simp[Value.oneCell']) rfl λ w5 s5=>s5.aJ 3 rfl (j:=8) (show 8<19 by decide) rfl λ w6 s6=>?_⟩;have s7:=s6.quiet (aA.drew w6 []);have h7:=h.av s7.av;refine⟨_,_,_,h7.cell 15 rfl,_,_,_,h7.cell 16 rfl,_,_,_,h7.cell 17 rfl,aj (kK h7.ask (by omega)) ?_⟩;rintro v w8 ⟨g1,rfl,k8⟩;have s8:St w w8 (Sep [_,_,_,_,_,_]):=s7.and k8;have h8:=h.av s8.av;refine⟨_,_,_,rfl,h8.cell 17 rfl,h8.cell 16 rfl,aj (uK h8.bd (by omega)) ?_⟩;rintro v w9 ⟨g2,rfl,k9⟩;have s9:St w w9 (Sep [_,_,_,_,_,_,_]):=s8.and k9;have h9:=h.av s9.av;refine⟨_,_,_,rfl,h9.cell 17 rfl,aj (uK h9.dp (by omega)) ?_⟩;rintro v w10 ⟨g3,rfl,k10⟩;have s10:St w w10 (Sep [_,_,_,_,_,_,_,_]):=s9.and k10;refine⟨_,_,_,rfl,s10.aJ 6 rfl (j:=15) (show 15<19 by decide) rfl λ w11 s11=>s11.aJ 6 rfl (j:=16) (show 16<19 by decide) rfl λ w12 s12=>s12.aJ 6 rfl (j:=17) (show 17<19 by decide) rfl λ w13 s13=>?_⟩;let C' : Ck:={ C with s:=S',cl:=l',ka:=a4,kc:=c4,xa:=some ⟨g1,0,none⟩,xc:=C.ask.length,ya:=some ⟨g2,0,none⟩,yc:=C.bd.length,za:=some ⟨g3,0,none⟩,zc:=C.dp.length };refine⟨r1,C',?_,rfl,?_⟩
 ·simp only[Ck.er,C',eS,e4]
 ·have s14:St w w13 (Sep [IE (some ⟨g3,0,none⟩) C.dp.length C.dp,IE (some ⟨g2,0,none⟩) C.bd.length C.bd,A9 (some ⟨g1,0,none⟩) C.ask.length C.ask,EJ a4 c4 l',held (iq l'),held S'.In,ai r1 C'.cells.toArray 98,emp]):=s13;exact((s14.au [5,4,6,2,1,0,3]).qQ (aZ _) (aZ _) λ _ h1 h2=>(⟨h1,h2⟩:C'.In _)).au [1,2,3,4,5,0]
end
section
variable {b:Nat} {C:Ck} {w0 w:World} {B:aD}
def fc(C:Ck):Ck:={ C with ask:=List.replicate C.dp.length z6,bd:=List.replicate C.dp.length false }
theorem BJ(s:St w0 w (Sep [ai b C.cells.toArray 98,IE C.za C.zc C.dp,B]))(hd:C.dp.length<=100) :
  CP 119 #[.pointer (some ⟨b,0,none⟩)] w (λ r w'=>∃ xa xc ya yc,r=.tuple #[]/\St w0 w' (Sep [ai b ({ fc C with xa:=xa,xc:=xc,ya:=ya,yc:=yc }:Ck).cells.toArray 98,A9 xa xc (fc C).ask,IE ya yc (fc C).bd,IE C.za C.zc C.dp,B])):=by
 refine og ?_;unfold jy;have s1:=s.quiet (aA.drew w []);have e1:(fc C).ask.length=C.dp.length:=by simp[fc]
 have e2:(fc C).bd.length=C.dp.length:=by simp[fc]
 have fin:∀ {g1 g2:Nat},(((C.cells.toArray.setIfInBounds 15 (.slice (some ⟨g1,0,none⟩) C.dp.length C.dp.length)).setIfInBounds 16 (.slice (some ⟨g2,0,none⟩) C.dp.length C.dp.length))=({ fc C with xa:=some ⟨g1,0,none⟩,xc:=C.dp.length,ya:=some ⟨g2,0,none⟩,yc:=C.dp.length }:Ck).cells.toArray):=by
  intro g1 g2;show _=(Ck.cells _).toArray;simp only[Ck.cells];rw[e1,e2]; rfl
 refine⟨_,_,_,s1.ag 0 rfl 17,_,_,_,s1.ag 0 rfl 17,⟨?_,?_⟩⟩
 ·refine cH (x:=z6) NB cG rfl s1 (n:=C.dp.length) (by omega) (by omega) λ g1 w1 c1 s2=>⟨St.ag (l:=[_,_,_,_]) s2 1 rfl 17,⟨?_,?_⟩⟩
  ·refine cH (x:=false) FP iu rfl s2 (n:=C.dp.length) (by omega) (by omega) λ g2 w2 c2 s3=>?_;refine St.aJ (l:=[_,_,_,_,_]) s3 2 rfl (j:=15) (show 15<19 by decide) rfl λ w3 s4=>s4.aJ 2 rfl (j:=16) (show 16<19 by decide) rfl λ w4 s5=>⟨some ⟨g1,0,none⟩,C.dp.length,some ⟨g2,0,none⟩,C.dp.length,rfl,?_⟩;rw[<- fin]; exact s5.au [2,1,0,3,4]
  ·refine St.aJ (l:=[_,_,_,_]) s2 1 rfl (j:=15) (show 15<19 by decide) rfl λ w3 s4=>?_;refine cH (x:=false) FP iu rfl s4 (n:=C.dp.length) (by omega) (by omega) λ g2 w2 c2 s3=>St.aJ (l:=[_,_,_,_,_]) s3 2 rfl (j:=16) (show 16<19 by decide) rfl λ w4 s5=>⟨some ⟨g1,0,none⟩,C.dp.length,some ⟨g2,0,none⟩,C.dp.length,rfl,?_⟩;rw[<- fin]; exact s5.au [2,1,0,3,4]
 ·refine cH (x:=false) FP iu rfl s1 (n:=C.dp.length) (by omega) (by omega) λ g1 w1 c1 s2=>⟨St.ag (l:=[_,_,_,_]) s2 1 rfl 17,?_⟩;refine cH (x:=z6) NB cG rfl s2 (n:=C.dp.length) (by omega) (by omega) λ g2 w2 c2 s3=>?_;refine St.aJ (l:=[_,_,_,_,_]) s3 2 rfl (j:=15) (show 15<19 by decide) rfl λ w3 s4=>s4.aJ 2 rfl (j:=16) (show 16<19 by decide) rfl λ w4 s5=>⟨some ⟨g2,0,none⟩,C.dp.length,some ⟨g1,0,none⟩,C.dp.length,rfl,?_⟩;rw[<- fin]; exact s5.au [2,0,1,3,4]
end
theorem OO{p:I6}{q:Int->Bool}(h:∀ k,k<6->q (p.at' k)=true):p.l.all q=true:=by
 have h0:=h 0 (by decide); have h1:=h 1 (by decide); have h2:=h 2 (by decide); have h3:=h 3 (by decide); have h4:=h 4 (by decide); have h5:=h 5 (by decide);show([p.at' 0,p.at' 1,p.at' 2,p.at' 3,p.at' 4,p.at' 5]:List Int).all q=true;simp[h0,h1,h2,h3,h4,h5]
def kT(S:Se)(o:Po):Ck:={ s:=S,o:=o,cl:=[],p:=iW S.ps,ask:=List.replicate S.bd.length z6,bd:=List.replicate S.bd.length false,dp:=List.replicate S.bd.length false,ov:=false,ka:=none,kc:=0,xa:=none,xc:=0,ya:=none,yc:=0,za:=none,zc:=0 }
theorem MU{S:Se}{o:Po}(hs:S.Ok)(ho:o.ok):(kT S o).Ok:=by
 refine⟨hs,ho,by simp[kT],by simp[kT],by simp[kT],by simp[kT],by simp[kT],?_,by simp[kT],by simp[kT],by simp[kT],?_⟩
 ·refine OO λ k hk=>?_;show qG ((iW S.ps).at' k)=true;rw[vv _ k hk,List.getD_eq_getElem?_getD,List.getElem?_map]
  cases hx:S.ps[k]? with
  | none=>rfl
  | some x =>
   have h1:=(hs.ps.good k x hx).1;simp only[ze,IC,Bool.and_eq_true,decide_eq_true_eq] at h1;show qG x.res=true;simp only[qG,Bool.and_eq_true,decide_eq_true_eq];exact h1.2.2.1
 ·intro u hu;rw[List.eq_of_mem_replicate hu];intro k hk; match k,hk with
  | 0,_|1,_|2,_|3,_|4,_|5,_=>exact⟨by decide,by decide⟩
theorem Rl{w:World}{S:Se}{o:Po}(h:S.In w)(hs:S.Ok)(ho:o.ok) :
  CP 88 #[.agg S.arr,o.v] w (λ r w'=>∃ g C',C'.er=(kT S o).er/\r=.tuple #[.pointer (some ⟨g,0,none⟩),iv 0]/\St w w' (Sep (dI g C'))):=by
 refine BK ?_;unfold Ay;have z:=hs.bd.l2;refine(St.start w).one.ax S.arr λ r1 w1 s1=>s1.ax o.cells.toArray λ r2 w2 s2=>⟨_,_,_,_,_,_,_,_,_,_,_,_,s2.cellsIn 1 rfl,aj (oZ (h.av s2.av)) ?_⟩;rintro v w3 ⟨⟨e,rfl,he⟩,c3⟩;obtain rfl:=he.2 hs;have s3:=s2.quiet c3;refine⟨_,rfl,cF rfl ⟨_,_,_,_,s3.cellsIn 0 rfl,aj (ve w3 o) ?_⟩⟩;rintro v w4 ⟨rfl,c4⟩;have s4:=(s3.quiet c4).quiet (aA.drew w4 []);refine⟨_,rfl,cF (by rw[oP,if_pos ho]; rfl) ?_⟩;have hl:∀ {w'},aA w w' []->S.In w':=λ hc=>h.av hc;let C0 (S' : Se) (g2:Nat):Ck:={ kT S o with s:=S',ask:=[],bd:=[],za:=some ⟨g2,0,none⟩,zc:=S.bd.length };have eC:∀ (S' : Se) (g2:Nat),(C0 S' g2).cells.toArray=((.slice S'.a1 S'.ps.length S'.c1) :: ((.slice S'.a2 S'.bd.length S'.c2) :: ((.slice S'.a3 S'.cp.length S'.c3) :: ((.slice S'.a4 S'.sa.length S'.c4) :: ((iv o.step) :: ((iv o.pct) :: ((iv o.und) :: ((iv o.rule) :: ((.slice none 0 0) :: ((iW S.ps).on [.slice none 0 0,.slice none 0 0,.slice (some ⟨g2,0,none⟩) S.bd.length S.bd.length,.bool false]))))))))):List Value).toArray:=by
  intro S' g2; simp only[C0,kT,Ck.cells,List.length_replicate,List.length_nil]
 have fin:∀ {S' : Se} {g g2:Nat} {w' : World},S'.er=S.er->St w w' (Sep [ai g (C0 S' g2).cells.toArray 98,IE (some ⟨g2,0,none⟩) S.bd.length (List.replicate S.bd.length false),held S'.In]) ->
   CC 119 #[.pointer (some ⟨g,0,none⟩)] w' (ur λ r w''=>r=.tuple #[]/\∃ C',C'.er=(kT S o).er/\St w w'' (Sep (dI g C'))):=by
  intro S' g g2 w' eS s;refine aj (BJ (C:=C0 S' g2) s (by simp[C0,kT]; omega)) ?_;rintro r w1 ⟨xa,xc,ya,yc,rfl,s1⟩;refine⟨_,rfl,rfl,{ fc (C0 S' g2) with xa:=xa,xc:=xc,ya:=ya,yc:=yc },?_,?_⟩
  ·simp only[C0,fc,kT,Ck.er,eS,List.length_replicate]
  ·have s2:St w w1 (Sep [_,_,_,_,_,_]):=s1.cv (e:=57) (sz:=9) (f:=Rn.cells);have s3:=((s2.au [5,1,2,3,4,0]).DB ((aZ _).mono λ w h=>(⟨h,λ x hx=>by simp[C0,fc,kT] at hx⟩:({ fc (C0 S' g2) with xa:=xa,xc:=xc,ya:=ya,yc:=yc }:Ck).In w)));exact s3.au [1,2,3,4,5,0]
 refine⟨λ p w5=>∃ (S' : Se) (g g2:Nat),p=some ⟨g,0,none⟩/\S'.er=S.er/\St w w5 (Sep [ai g (C0 S' g2).cells.toArray 98,IE (some ⟨g2,0,none⟩) S.bd.length (List.replicate S.bd.length false),held S'.In]),?_,?_⟩
 ·rintro w5 p ⟨S',g,g2,rfl,eS,s5⟩ -;refine aj (fin eS s5) ?_;rintro r w6 ⟨rfl,C',e,s6⟩;exact⟨rfl,g,C',e,rfl,s6⟩
 refine⟨_,_,_,_,_,_,_,_,_,_,_,_,s4.cellsIn 1 rfl,_,_,_,_,s4.cellsIn 0 rfl,_,_,_,s4.ag 1 rfl 0,_,_,_,s4.ag 1 rfl 1,⟨?_,?_⟩⟩
 ·refine aj (yg (hl s4.av) hs.sz) ?_;rintro v w7 ⟨S',eS,rfl,k7⟩;have s7:St w w7 (Sep [_,_,_,_]):=s4.and k7;refine⟨_,_,_,_,_,_,_,_,_,_,_,_,rfl,s7.ag 2 rfl 1,s7.ag 2 rfl 0,s7.cellsIn 1 rfl,⟨?_,?_⟩⟩
  ·refine aj (Cy (hl s7.av).ps hs.ps.l2 h.h1) ?_;rintro v w8 ⟨rfl,c8⟩;have s8:=s7.quiet c8;refine⟨_,rfl,s8.ag 2 rfl 1,s8.cellsIn 1 rfl,cH (x:=false) FP iu rfl s8 (n:=S.bd.length) (by omega) (by omega) λ g2 w9 c9 s9=>?_⟩;refine⟨St.cellsIn (l:=[_,_,_,_,_]) s9 2 rfl,St.ax (l:=[_,_,_,_,_]) s9 _ λ r3 w10 s10=>⟨S',r3,g2,rfl,eS,by rw[eC]; exact s10.au [0,1,2]⟩⟩
  ·refine cH (x:=false) FP iu rfl s7 (n:=S.bd.length) (by omega) (by omega) λ g2 w9 c9 s9=>?_;have s9:St w w9 (Sep [_,_,_,_,_]):=s9;refine⟨s9.ag 3 rfl 0,s9.cellsIn 2 rfl,aj (Cy (hl s9.av).ps hs.ps.l2 h.h1) ?_⟩;rintro v w8 ⟨rfl,c8⟩;have s8:=s9.quiet c8;exact⟨_,rfl,s8.cellsIn 2 rfl,s8.ax _ λ r3 w10 s10=>⟨S',r3,g2,rfl,eS,by rw[eC]; exact s10.au [0,1,2]⟩⟩
 ·refine cH (x:=false) FP iu rfl s4 (n:=S.bd.length) (by omega) (by omega) λ g2 w9 c9 s9=>?_;have s9:St w w9 (Sep [_,_,_,_]):=s9;refine⟨s9.ag 2 rfl 0,s9.cellsIn 1 rfl,s9.cellsIn 2 rfl,aj (yg (hl s9.av) hs.sz) ?_⟩;rintro v w7 ⟨S',eS,rfl,k7⟩;have s7:St w w7 (Sep [_,_,_,_,_]):=s9.and k7;refine⟨_,_,_,_,_,_,_,_,_,_,_,_,rfl,s7.ag 3 rfl 0,s7.cellsIn 2 rfl,aj (Cy (hl s7.av).ps hs.ps.l2 h.h1) ?_⟩;rintro v w8 ⟨rfl,c8⟩;have s8:=s7.quiet c8;exact⟨_,rfl,s8.cellsIn 2 rfl,s8.ax _ λ r3 w10 s10=>⟨S',r3,g2,rfl,eS,by rw[eC]; exact s10.au [0,2,1]⟩⟩
section
variable {b:Nat} {C:Ck} {w0 w:World} {B:aD}
theorem Dh(s:St w0 w (Sep (dI b C++[B])))(hk:C.Ok) :
  CP 119 #[.pointer (some ⟨b,0,none⟩)] w (λ r w'=>∃ xa xc ya yc,r=.tuple #[]/\St w0 w' (Sep (dI b { fc C with xa:=xa,xc:=xc,ya:=ya,yc:=yc }++[B]))):=by
 have z:=hk.s.bd.l2; have z1:=hk.dp;refine aj (BJ (C:=C) (s.au [0,3,4,5,6]).Oz (by omega)) ?_;rintro r w1 ⟨xa,xc,ya,yc,rfl,s1⟩;exact⟨_,rfl,xa,xc,ya,yc,rfl,s1.dw [_,_,_,_]⟩
def tX(C:Ck):Ck:={ fc C with ov:=true }
theorem Qr(s:St w0 w (Sep (dI b C++[B])))(hk:C.Ok) :
  CP 91 #[.pointer (some ⟨b,0,none⟩)] w (λ r w'=>(C.ov=true/\r=iv 10/\St w0 w' (Sep (dI b C++[B])))\/(C.ov=false/\r=iv 0/\∃ C',C'.er=(tX C).er/\St w0 w' (Sep (dI b C'++[B])))):=by
 refine ql ?_;unfold kE;refine⟨_,s.ag 0 rfl 18,?_⟩
 cases ho:C.ov with
 | true=>exact cT rfl (.inl ⟨rfl,rfl,s⟩)
 | false =>
  refine cF rfl (aj (Dh s hk) ?_);rintro r w1 ⟨xa,xc,ya,yc,rfl,s1⟩;exact⟨rfl,s1.aJ 0 rfl (j:=18) (show 18<19 by decide) rfl λ w2 s2=>.inr ⟨rfl,rfl,{ tX C with xa:=xa,xc:=xc,ya:=ya,yc:=yc },rfl,s2⟩⟩
def jC(C:Ck)(n:Nat):Ck:={ C with dp:=C.dp.set n true,ask:=C.ask.set n z6,bd:=C.bd.set n false }
theorem Pb(s:St w0 w (Sep (dI b C++[B])))(hk:C.Ok){n:Nat}(hn:n<C.s.bd.length) :
  CP 94 #[.pointer (some ⟨b,0,none⟩),iv n] w (λ r w'=>(C.dp[n]?=some true/\r=iv 10/\St w0 w' (Sep (dI b C++[B])))\/(C.dp[n]?=some false/\r=iv 0/\St w0 w' (Sep (dI b (jC C n)++[B])))):=by
 refine qj ?_;unfold kC;have z:=hk.s.bd.l2; have z1:=hk.dp; have z2:=hk.ask; have z3:=hk.bd;have rd:=(s.split (dI b C)).first.imp yj;refine⟨λ b w1=>b=false/\w1=w,?_,aj (E7 rd n) ?_⟩
 ·rintro w1 _ ⟨rfl,rfl⟩ -;have hx:C.dp[n]?=some (C.dp[n]'(by omega)):=gE (by omega);generalize C.dp[n]'(by omega)=x at hx;obtain⟨q,hq,hcl⟩:=rd.dp.at hx;refine cF rfl ⟨_,_,_,rd.cell 17 rfl,ak hq ⟨by omega,by omega,x,hcl.1,?_⟩⟩
  cases x with
  | true=>exact cT rfl (.inl ⟨hx,rfl,s⟩)
  | false =>
   have s1:=s.quiet (aA.drew w1 []);obtain⟨g1,e1⟩:=(s1.out 3 rfl).mg (by omega);obtain⟨g2,e2⟩:=(s1.out 1 rfl).mg (by omega);obtain⟨g3,e3⟩:=(s1.out 2 rfl).mg (by omega);refine cF rfl ⟨_,_,_,s1.ag 0 rfl 17,_,_,_,s1.ag 0 rfl 15,_,_,_,s1.ag 0 rfl 16,ak e1 ⟨by omega,by omega,?_⟩⟩;rw[Int.toNat_natCast];have t1:=s1.out 3 rfl;rw[e1] at t1;refine St.iV (v:=.bool) (x:=true) rfl t1 (i:=n) (by omega) λ w2 s2=>ak e2 ⟨by omega,by omega,?_⟩;have s2:=s2.back (l:=dI b C++[B]) (i:=3) (show 3<7 by decide);have t2:=s2.out 1 rfl;rw[e2] at t2;refine St.Bi cG (x:=z6) z6.one t2 (i:=n) (by omega) λ w3 s3=>ak e3 ⟨by omega,by omega,?_⟩;have t3:=(s3.back (show 1<7 by decide)).out 2 rfl;rw[e3] at t3;refine St.iV (v:=.bool) (x:=false) rfl t3 (i:=n) (by omega) λ w4 s4=>.inr ⟨hx,rfl,?_⟩;have s5:=s4.back (show 2<7 by decide);rw[<- e1,<- e2,<- e3] at s5;have eC:(jC C n).cells=C.cells:=by simp[jC,Ck.cells]
   show St w0 w4 (Sep [ai b (jC C n).cells.toArray 98,_,_,_,_,_,B]);rw[eC]; exact s5
 ·rintro r w1 ⟨rfl,rfl⟩;exact⟨_,rfl,by simp; omega,rfl⟩
def bW(C:Ck)(r:Nat):Ck:=match C.cl[r]? with
 | some x=>{ fc C with p:=x.p,cl:=C.cl.take r,ov:=false }
 | none=>{ fc C with ov:=false }
def bH(C:Ck)(r:Int):Bool:=decide (r<0)||decide (r>(C.cl.length:Int))||(r==(C.cl.length:Int)&&C.ov)
theorem Nj(s:St w0 w (Sep (dI b C++[B])))(hk:C.Ok)(r:Int) :
  CP 95 #[.pointer (some ⟨b,0,none⟩),iv r] w (λ v w'=>(bH C r=true/\v=iv 4/\St w0 w' (Sep (dI b C++[B])))\/(bH C r=false/\v=iv 0/\∃ C',C'.er=(bW C r.toNat).er/\St w0 w' (Sep (dI b C'++[B])))):=by
 refine od ?_;unfold jw;have hl:=hk.cl;refine⟨λ x w1=>x=bH C r/\w1=w,?_,?_⟩
 ·rintro w1 _ ⟨rfl,rfl⟩ -
  cases he:bH C r with
  | true=>exact cT rfl (.inl ⟨rfl,rfl,s⟩)
  | false =>
   have h0:0<=r/\r<=(C.cl.length:Int):=by
    simp only[bH,Bool.or_eq_false_iff,decide_eq_false_iff_not] at he; omega
   obtain⟨n,rfl⟩:=Int.eq_ofNat_of_zero_le h0.1;refine cF rfl (aj (Dh s hk) ?_);rintro v w2 ⟨xa,xc,ya,yc,rfl,s2⟩;refine⟨rfl,λ w3=>∃ C' : Ck,({ C' with ov:=false }:Ck).er=(bW C n).er/\St w0 w3 (Sep (dI b C'++[B])),?_,?_⟩
   ·rintro w3 ⟨C',e,s3⟩ -;exact s3.aJ 0 rfl (j:=18) (show 18<19 by decide) rfl λ w4 s4=>.inr ⟨rfl,rfl,{ C' with ov:=false },e,s4⟩
   refine⟨_,_,_,s2.ag 0 rfl 8,?_⟩
   by_cases hlt:(n:Int)<(C.cl.length:Int)
   ·have hx:C.cl[n]?=some (C.cl[n]'(by omega)):=gE (by omega);generalize C.cl[n]'(by omega)=x at hx;have rd:=(s2.split (dI b _)).first.imp yj;obtain⟨q,hq,hcl⟩:=rd.cl.at hx;refine cT (dT hlt) ⟨_,_,_,s2.ag 0 rfl 8,ak hq ⟨by omega,hlt,x.p,?_,?_⟩⟩
    ·rw[Int.toNat_natCast];exact Dd hcl rfl
    ·refine s2.j7 0 9 rfl ({ fc C with xa:=xa,xc:=xc,ya:=ya,yc:=yc,p:=x.p }:Ck).cells.toArray (show 15<=19 by decide) x.p.one rfl λ w5 s5=>⟨_,_,_,s5.ag 0 rfl 8,by omega,?_,?_⟩
     ·have:C.cl.length<=C.kc:=(St.mU (s5.out 4 rfl)).1;show(n:Int)<=(C.kc:Int);omega
     ·show CC 128 #[.slice (if C.kc=0 then C.ka else Option.map (λ x=>Addr.add x (0*9)) C.ka) (((n:Nat):Int).toNat-0) (C.kc-0)] w5 _;have rd5:cW 9 Rn.cells w5 C.ka C.cl:=St.rd Rn.len (s5.out 4 rfl);have el:(C.cl.take n).length=n:=by rw[List.length_take]; omega
      rw[Q8,Int.toNat_natCast,Nat.sub_zero,Nat.sub_zero];have cc:=HM (c:=C.kc) (LQ.take rd5 n) (by omega);rw[el] at cc;refine aj cc ?_;rintro v w6 ⟨g,rfl,k6⟩;have s6:St w0 w6 (Sep (_ :: _)):=s5.and k6;refine⟨_,_,_,rfl,s6.aJ 1 rfl (j:=8) (show 8<19 by decide) rfl λ w7 s7=>⟨{ fc C with xa:=xa,xc:=xc,ya:=ya,yc:=yc,p:=x.p,cl:=C.cl.take n,ka:=some ⟨g,0,none⟩,kc:=n },by rw[bW,hx]; rfl,?_⟩⟩;have s8:=(s7.au [6,1,2,3,4,0,7]).DB ((aZ _).mono λ w h=>(⟨h.s,λ y hy=>h.cl y (List.mem_of_mem_take hy)⟩:OL C.s (C.cl.take n) w));have eC:({ fc C with xa:=xa,xc:=xc,ya:=ya,yc:=yc,p:=x.p,cl:=C.cl.take n,ka:=some ⟨g,0,none⟩,kc:=n }:Ck).cells.toArray=({ fc C with xa:=xa,xc:=xc,ya:=ya,yc:=yc,p:=x.p }:Ck).cells.toArray.setIfInBounds 8 (.slice (some ⟨g,0,none⟩) n n):=by
       simp only[Ck.cells,fc,el]; rfl
      show St w0 w7 (Sep [ai b (Ck.cells _).toArray 98,_,_,_,_,_,_]);rw[eC];exact s8.au [1,2,3,4,5,0,6]
   ·have hn:C.cl[n]?=none:=List.getElem?_eq_none (by omega);exact cF (dF hlt) ⟨_,by rw[bW,hn]; rfl,s2⟩
 ·by_cases g1:r<0
  ·exact cT (dT g1) ⟨by rw[bH,dT g1]; rfl,rfl⟩
  refine cF (dF g1) ⟨_,_,_,s.ag 0 rfl 8,?_⟩
  by_cases g2:r>(C.cl.length:Int)
  ·exact cT (dT g2) ⟨by rw[bH,dT g2]; simp,rfl⟩
  refine cF (dF g2) ⟨_,_,_,s.ag 0 rfl 8,?_⟩
  by_cases g3:r=(C.cl.length:Int)
  ·exact cT (by simpa using g3) ⟨_,s.ag 0 rfl 18,by rw[bH,dF g1,dF g2,g3]; simp,rfl⟩
  ·exact cF (by simpa using g3) ⟨by rw[bH,dF g1,dF g2]; simp; exact λ h=>absurd h g3,rfl⟩
end
section
variable {b:Nat} {C:Ck} {w0 w:World} {B:aD}
def gq(dp:List Bool):Nat->List I6->List I6
 | _,[]=>[]
 | k,u :: l=>(if dp.getD k false then z6 else u) :: gq dp (k+1) l
theorem vf(dp:List Bool):∀ (l:List I6) (k:Nat),(gq dp k l).length=l.length
 | [],_=>rfl
 | _ :: l,k=>by simp[gq,vf dp l (k+1)]
theorem A0(dp:List Bool):∀ (l:List I6) (k i:Nat),(gq dp k l)[i]?=l[i]?.map λ u=>if dp.getD (k+i) false then z6 else u
 | [],_,_=>by simp[gq]
 | u :: l,k,0=>by simp[gq]
 | u :: l,k,i+1=>by
  rw[gq,List.getElem?_cons_succ,List.getElem?_cons_succ,A0 dp l (k+1) i,show k+(i+1)=k+1+i by omega]
def gL(C:Ck):List I6:=gq C.dp 0 ((C.cl.getLast?.map Rn.got).getD [])
theorem FB(h:C.Rd b w)(hk:C.Ok)(hn:0<C.cl.length) :
  CP 123 #[.pointer (some ⟨b,0,none⟩)] w (λ r w'=>∃ g,r=.slice (some ⟨g,0,none⟩) (gL C).length (gL C).length/\St w w' (A9 (some ⟨g,0,none⟩) (gL C).length (gL C))):=by
 refine kF ?_;unfold fP;have hl:=hk.cl; have z:=hk.s.bd.l2; have z1:=hk.dp;have hx:C.cl[C.cl.length-1]?=some (C.cl[C.cl.length-1]'(by omega)):=gE (by omega);generalize C.cl[C.cl.length-1]'(by omega)=x at hx;have hlast:C.cl.getLast? = some x:=by rw[List.getLast?_eq_getElem?]; exact hx
 have hm:=List.mem_of_getElem? hx;have zx:=(hk.cz x hm).got;have d0:aA w w.drew []:=aA.drew w [];have h1:=h.av d0;obtain⟨q,hq,hcl⟩:=h1.cl.at hx;have e1:IntKind.i64.wrap ((C.cl.length:Int)-1)=((C.cl.length-1:Nat):Int):=by rw[aB ⟨by omega,by omega⟩]; omega
 have ep:gL C=gq C.dp 0 x.got:=by rw[gL,hlast]; rfl
 refine⟨_,_,_,h1.cell 8 rfl,_,_,_,h1.cell 8 rfl,ak hq ⟨?_,?_,x.ga,x.got.length,x.gc,?_,?_⟩⟩
 ·rw[e1]; omega
 ·rw[e1]; omega
 ·rw[e1,Int.toNat_natCast];exact aL hcl 7 _ rfl
 refine aj (kK ((h.i.cl x hm).av d0).got (by omega)) ?_;rintro v w1 ⟨g,rfl,k1⟩;have s1:St w w1 (Sep [_]):=(St.start' d0).and k1;have hL:(gq C.dp 0 x.got).length=x.got.length:=vf _ _ _;let L:Nat->List I6:=rS (gq C.dp 0 x.got) x.got;have Llen:∀ k,k<=x.got.length->(L k).length=x.got.length:=λ k hk=>DT hL (by omega);refine⟨_,_,_,rfl,_,_,_,(h.av s1.av).cell 17 rfl,λ n w2 m=>∃ k:Nat,n=k/\k<=C.dp.length/\m=C.dp.length-k/\St w w2 (Sep [A9 (some ⟨g,0,none⟩) x.got.length (L k)]),⟨C.dp.length,0,rfl,by omega,by omega,?_⟩,?_⟩
 ·rw[show L 0=x.got from Ie]; exact s1.au [0]
 rintro w2 m n ⟨k,rfl,hk1,hm1,s2⟩ -
 by_cases hlt:(k:Int)<(C.dp.length:Int)
 ·have hd:C.dp[k]?=some (C.dp[k]'(by omega)):=gE (by omega);generalize C.dp[k]'(by omega)=y at hd;have hgy:C.dp.getD k false=y:=by rw[List.getD_eq_getElem?_getD,hd]; rfl
  obtain⟨q2,hq2,hcl2⟩:=(h.dp.av s2.av).at hd;have hu:x.got[k]?=some (x.got[k]'(by omega)):=gE (by omega);generalize x.got[k]'(by omega)=u at hu;have hp:(gq C.dp 0 x.got)[k]?=some (if y then z6 else u):=by rw[A0,hu,Nat.zero_add,hgy]; rfl
  have estep:∀ v,(gq C.dp 0 x.got)[k]?=some v->(L k).set k v=L (k+1):=λ v hv=>Kq hL hv;have esame:y=false->L k=L (k+1):=λ hy=>Ic hL (by omega) (by rw[hp,hu,hy]; rfl);refine cT (dT hlt) ⟨λ w3=>St w w3 (Sep [A9 (some ⟨g,0,none⟩) x.got.length (L (k+1))]),λ w3 s3 _=>⟨C.dp.length-(k+1),by omega,k+1,aB ⟨by omega,by omega⟩,by omega,rfl,s3⟩,ak hq2 ⟨by omega,by omega,y,hcl2.1,?_⟩⟩
  cases y with
  | true =>
   refine cT rfl (ak rfl ⟨by omega,by omega,?_⟩);rw[Int.toNat_natCast];refine St.Bi cG (x:=z6) z6.one s2 (i:=k) (by rw[Llen k (by omega)]; omega) λ w3 s3=>?_;rw[estep z6 hp] at s3; exact s3
  | false=>exact cF rfl (by rw[<- esame rfl]; exact s2)
 ·obtain rfl:C.dp.length=k:=by omega
  have e2:L C.dp.length=gL C:=by
   show rS _ _ _=_;rw[show C.dp.length=x.got.length by omega,Ib hL,ep]
  have e3:(gL C).length=x.got.length:=by rw[ep,hL]
  rw[e2] at s2;rw[e3];exact cF (dF hlt) ⟨g,rfl,s2.single⟩
end
section
variable {b:Nat} {C:Ck} {w0 w:World} {B:aD}
theorem sup_le{l:List Pr}(h:bP l):I6.Le (aQ l) 4:=It (by rw[FU]; exact Hr h.good)
theorem sD{u:I6}{m n:Int}(h:I6.Le u m)(hn:m<=n):I6.Le u n:=λ k hk=>by have:=h k hk; omega
theorem LK{n:Int}(h:0<=n):I6.Le z6 n:=λ k hk=>by
 match k,hk with
 | 0,_|1,_|2,_|3,_|4,_|5,_=>exact⟨Int.le_refl _,h⟩
theorem Eb{dp:List Bool}{n:Int}(hn:0<=n):∀ (l:List I6) (k:Nat),(∀ u∈l,I6.Le u n)->∀ u∈gq dp k l,I6.Le u n
 | [],_,_,u,hu=>by simp[gq] at hu
 | x :: l,k,h,u,hu=>by
  rcases List.mem_cons.1 hu with rfl|hu
  ·split
   ·exact LK hn
   ·exact h x (by simp)
  ·exact Eb hn l (k+1) (λ u hu=>h u (by simp[hu])) u hu
theorem G5(hk:C.Ok)(hn:0<C.cl.length):(gL C).length=C.s.bd.length/\∀ u∈gL C,I6.Le u 4:=by
 have hx:C.cl[C.cl.length-1]?=some (C.cl[C.cl.length-1]'(by omega)):=gE (by omega);generalize C.cl[C.cl.length-1]'(by omega)=x at hx;have hlast:C.cl.getLast? = some x:=by rw[List.getLast?_eq_getElem?]; exact hx
 have hm:=List.mem_of_getElem? hx;have ep:gL C=gq C.dp 0 x.got:=by rw[gL,hlast]; rfl
 rw[ep];exact⟨by rw[vf,(hk.cz x hm).got],Eb (by omega) _ _ (hk.cg x hm)⟩
def oC(C:Ck):List I6:=if C.cl.length=0 then C.ask else Sp C.o.und (aQ C.s.ps) (gL C) C.ask
theorem J3(hk:C.Ok):(oC C).length=C.s.bd.length/\∀ u∈oC C,I6.Le u 4:=by
 unfold oC
 split
 ·exact⟨hk.ask,hk.asked⟩
 ·rename_i h;obtain⟨h1,h2⟩:=G5 hk (by omega);have:=CH (p:=C.o.und) (sup:=aQ C.s.ps) (by omega) h2 hk.asked C.ask.length;exact⟨this.1.trans h1,this.2⟩
def KX(C:Ck):Rn:=⟨C.p,C.ask,oC C,C.bd,none,0,none,0,none,0⟩
def wQ(C:Ck):I6:=tE (gB (oC C)) (aQ C.s.ps)
def nE(C:Ck):I6×Int:=vY C.o C.p (wQ C)
def di(C:Ck):Bool:=decide (wQ C=z6)||(decide (C.cl.length+1>=30)||(nE C).2 !=0)
def dW(C:Ck):Ck:={ fc C with cl:=C.cl++[KX C],ov:=di C,p:=if di C then C.p else (nE C).1 }
theorem Mg(s:St w0 w (Sep (dI b C++[B])))(hk:C.Ok) :
  CP 90 #[.pointer (some ⟨b,0,none⟩)] w (λ r w'=>(C.ov=true/\r=.tuple #[.bool false,iv 10]/\St w0 w' (Sep (dI b C++[B])))\/(C.ov=false/\r=.tuple #[.bool (di C),iv 0]/\∃ C',C'.er=(dW C).er/\St w0 w' (Sep (dI b C'++[B])))):=by
 refine ob ?_;unfold jv;have hl:=hk.cl; have z:=hk.s.bd.l2; have z1:=hk.ask; have z2:=hk.bd; have z3:=hk.dp;have hg:=J3 hk;have hsup:=sup_le hk.s.ps;refine⟨_,s.ag 0 rfl 18,?_⟩
 cases hov:C.ov with
 | true=>exact cT rfl (.inl ⟨rfl,rfl,s⟩)
 | false =>
 have inC:∀ {w' : World} {L:List aD} {i:Nat},St w0 w' (Sep L)->L[i]?=some (held C.In)->C.In w':=λ s e=>s.bK _ e;refine cF rfl ⟨_,_,_,s.ag 0 rfl 0,aj (jd (inC s (i:=5) rfl).s.ps (by have:=hk.s.ps.l2; omega)) ?_⟩;rintro v w1 ⟨rfl,c1⟩;refine⟨_,rfl,(s.quiet c1).ax z6.vs.toArray λ r1 w2 s2=>s2.ay 0 rfl (aQ C.s.ps).vs rfl (I6.one _) λ w3 s3=>?_⟩;refine⟨_,_,_,s3.ag 1 rfl 15,aj (kK (St.rd cG (s3.out 2 rfl)) (by omega)) ?_⟩;rintro v w4 ⟨g,rfl,k4⟩;have s4:St w0 w4 (Sep (A9 _ _ _ :: ai r1 (aQ C.s.ps).vs.toArray 34 :: (dI b C++[B]))):=s3.and k4;refine⟨_,_,_,rfl,λ a4 l4 c4 w5=>l4=(oC C).length/\St w0 w5 (Sep (A9 a4 c4 (oC C) :: ai r1 (aQ C.s.ps).vs.toArray 34 :: (dI b C++[B]))),?_,?_⟩
 ·rintro w5 a4 l4 c4 ⟨rfl,s5⟩ -;have s6:=s5.quiet (aA.drew w5 []);let x:Rn:={ KX C with xa:=C.xa,xc:=C.xc,ga:=a4,gc:=c4,ba:=C.ya,bc:=C.yc };refine⟨_,_,_,s6.ag 2 rfl 8,C.p,s6.aF 2 9 rfl rfl,_,_,_,s6.ag 2 rfl 15,_,_,_,s6.ag 2 rfl 16,s6.ax x.cells.toArray λ r2 w6 s7=>⟨s7.ag 3 rfl 8,?_⟩⟩;have hx1:cW 9 Rn.cells w6 (some ⟨r2,0,none⟩) [x]:=λ i y hy=>by
   obtain⟨rfl,rfl⟩:i=0/\y=x:=by
    cases i with
    | zero=>simp at hy; exact⟨rfl,hy.symm⟩
    | succ i=>simp at hy
   exact⟨_,_,rfl,by rw[Nat.zero_mul,p8]; exact s7.cellsIn 0 rfl,rfl,rfl⟩
  refine dD Qn Rn.len Rn.one (s7.out 7 rfl) (a2:=some ⟨r2,0,none⟩) (c2:=1) (l2:=[x]) hx1 (by simp; omega) (by simp; omega) λ a8 c8 w7 s8=>?_;have s9:=s8.back (show 7<10 by decide);refine s9.aJ 3 rfl (j:=8) (show 8<19 by decide) rfl λ w8 s10=>?_;let D:Ck:={ C with cl:=C.cl++[x],ka:=a8,kc:=c8 };refine aj (BJ (C:=D) (St.Oz (A:=ai b D.cells.toArray 98) (B:=IE D.za D.zc D.dp) (m:=[A9 C.xa C.xc C.ask,A9 a4 c4 (oC C),IE C.ya C.yc C.bd,held C.In,EJ a8 c8 (C.cl++[x]),ai r1 (aQ C.s.ps).vs.toArray 34,B]) (s10.au [3,6,4,1,5,8,7,2,9])) (by show C.dp.length<=100; omega)) ?_;rintro r w9 ⟨xa,xc,ya,yc,rfl,s11⟩;have s12:=s11.dw [_,_,_,_];let D' : Ck:={ fc D with xa:=xa,xc:=xc,ya:=ya,yc:=yc };have s13:=(((s12.au [4,5,6,7,0,1,2,3,8,9,10]).qQ (bD cG) (bD cG) λ _ h1 h2=>And.intro h1 h2).qQ (aZ _) (bD iu) λ _ h1 h2=>(⟨h1.1,h1.2,h2⟩:x.In _)).qQ (aZ _) (aZ _) λ w h1 h2=>(⟨h2.s,λ y hy=>(List.mem_append.1 hy).elim (h2.cl y) λ e=>by rw[List.mem_singleton.1 e]; exact h1⟩:OL C.s (C.cl++[x]) w);have s14:St w0 w9 (Sep (dI b D'++[ai r1 (aQ C.s.ps).vs.toArray 34,B])):=s13.au [1,2,3,4,5,0,6,7];refine⟨rfl,_,s14.cellsIn 6 rfl,?_⟩;have hin:OL C.s (C.cl++[x]) w9:=s14.bK 5 rfl;have hgr:Ja w9 a4 (oC C):=(hin.cl x (by simp)).got;refine aj (JS (aQ C.s.ps) (sD hsup (by omega)) hgr (λ u hu=>sD (hg.2 u hu) (by omega)) (by omega)) ?_;rintro v w10 ⟨rfl,c10⟩;refine⟨_,rfl,(s14.quiet c10).ax z6.vs.toArray λ r3 w11 s15=>s15.ay 0 rfl (wQ C).vs rfl (I6.one _) λ w12 s16=>?_⟩;let J:World->Nat->Prop:=λ w13 r4=>St w0 w13 (Sep (ai r4 (nE C).1.vs.toArray 53 :: ai r3 (wQ C).vs.toArray 34 :: (dI b D'++[ai r1 (aQ C.s.ps).vs.toArray 34,B])));have erD:∀ {ov:Bool} {p:I6},({ D' with ov:=ov,p:=p }:Ck).er=({ fc C with cl:=C.cl++[KX C],ov:=ov,p:=p }:Ck).er:=by
   intro ov p;simp[D',D,fc,Ck.er,Rn.er,x,KX]
  have lenD:(C.cl++[x]).length=C.cl.length+1:=by simp
  refine⟨λ r4 n w13=>n=(nE C).2/\J w13 r4,?_,?_⟩
  ·rintro w13 r4 n ⟨rfl,s17⟩ -;refine⟨λ x w14=>x=di C/\J w14 r4,?_,?_⟩
   ·rintro w14 x ⟨rfl,s18⟩ -
    cases hla:di C with
    | true =>
     refine cT rfl (St.aJ s18 2 rfl (j:=18) (show 18<19 by decide) rfl λ w15 s19=>.inr ⟨rfl,rfl,{ D' with ov:=true },?_,St.au s19 [2,3,4,5,6,7,9]⟩);rw[dW,hla,if_pos rfl];exact erD (ov:=true) (p:=C.p)
    | false =>
     refine cF rfl ⟨(nE C).1,s18.cellsIn 0 rfl,s18.j7 2 9 rfl ({ D' with p:=(nE C).1 }:Ck).cells.toArray (show 15<=19 by decide) (I6.one _) rfl λ w15 s19=>.inr ⟨rfl,rfl,{ D' with p:=(nE C).1 },?_,St.au s19 [2,3,4,5,6,7,9]⟩⟩;rw[dW,hla,if_neg (by decide)];have:=erD (ov:=false) (p:=(nE C).1);rw[<- this];have e:∀ o,o=C.ov->({ D' with p:=(nE C).1 }:Ck)={ D' with ov:=o,p:=(nE C).1 }:=λ o h=>by subst h; rfl
     rw[e false hov.symm]
   ·refine⟨wQ C,s17.cellsIn 1 rfl,?_⟩;rw[I6.beq_eq]
    by_cases g1:wQ C=z6
    ·exact cT (dT g1) ⟨by rw[di,dT g1,Bool.true_or],s17⟩
    refine cF (dF g1) ⟨_,_,_,s17.ag 2 rfl 8,?_⟩
    by_cases g2:C.cl.length+1>=30
    ·exact cT (dT (by show(((C.cl++[x]).length:Nat):Int)>=30; omega)) ⟨by rw[di,dT g2,Bool.true_or,Bool.or_true],s17⟩
    exact cF (dF (by show ¬ (((C.cl++[x]).length:Nat):Int)>=30; omega)) ⟨by rw[di,dF g1,dF g2,Bool.false_or,Bool.false_or],s17⟩
  have s17:=s16.quiet (aA.drew w12 []);refine⟨_,_,_,_,s17.aF 1 4 rfl rfl,C.p,s17.aF 1 9 rfl rfl,wQ C,s17.cellsIn 0 rfl,⟨?_,?_⟩⟩
  ·refine aj (Ku _ hk.o hk.p (wQ C)) ?_;rintro v w18 ⟨rfl,c18⟩;exact⟨_,_,rfl,(s17.quiet c18).ax z6.vs.toArray λ r5 w19 s18=>s18.ay 0 rfl (nE C).1.vs rfl (I6.one _) λ w20 s19=>⟨rfl,s19⟩⟩
  ·refine s17.ax z6.vs.toArray λ r5 w19 s18=>⟨s18.cellsIn 1 rfl,s18.aF 2 9 rfl rfl,s18.aF 2 4 rfl rfl,aj (Ku _ hk.o hk.p (wQ C)) ?_⟩;rintro v w18 ⟨rfl,c18⟩;exact⟨_,_,rfl,(s18.quiet c18).ay 0 rfl (nE C).1.vs rfl (I6.one _) λ w20 s19=>⟨rfl,s19⟩⟩
 ·refine⟨_,_,_,s4.ag 2 rfl 8,?_⟩
  by_cases hn:(C.cl.length:Int)>0
  ·have s5:=s4.quiet (aA.drew w4 []);have rd5:C.Rd b w4.drew:=(s5.au [2,3,4,5,6,7]).imp yj;obtain⟨hp1,hp2⟩:=G5 hk (by omega);refine cT (dT hn) ⟨_,s5.ag 2 rfl 6,_,s5.cellsIn 1 rfl,_,_,_,s5.ag 2 rfl 15,aj (FB rd5 hk (by omega)) ?_⟩;rintro v w6 ⟨g2,rfl,k6⟩;have s6:St w0 w6 (Sep (_ :: _)):=s5.and k6;refine⟨_,_,_,rfl,s6.ag 3 rfl 15,s6.cellsIn 2 rfl,s6.ag 3 rfl 6,aj (LA s6 (by have:=hk.o; unfold Po.ok at this; omega) hsup (St.rd cG (s6.out 0 rfl)) (St.rd cG (s6.out 4 rfl)) (by rw[hp1,z1]) (by omega) hp2 hk.asked) ?_⟩;rintro v w7 ⟨a,c,rfl,s7,-⟩;have eg:oC C=Sp C.o.und (aQ C.s.ps) (gL C) C.ask:=by rw[oC,if_neg (by omega)]
   refine⟨_,_,_,_,rfl,cF rfl ⟨by rw[hg.1,hp1],?_⟩⟩;rw[eg];exact St.au (l:=_ :: _ :: _ :: _ :: _) s7 [0,3,4,5,6,7,8,9,10]
  ·have eg:oC C=C.ask:=by rw[oC,if_pos (by omega)]
   exact cF (dF hn) ⟨by rw[eg],by rw[eg]; exact s4⟩
end
def wk(a:ByteArray)(w:World)(K:KP):=an w (.cells #[qn,qn,qn,qn] 75) λ b c=>cond (decide (((a.size:Nat):Int)>(4000:Int))) (aK (qd b 0) 0 [qn,qn,qn,qn] c λ d=>∃ e f g h i j k l m n o p,af d (qd b 0) 0 [.slice e f g,.slice h i j,.slice k l m,.slice n o p]/\K (.tuple #[.agg #[.slice e f g,.slice h i j,.slice k l m,.slice n o p],qz,iv 3]) d) (an c (.cells #[qn,qn,qn,qn] 75) λ c d=>CC 116 #[.string a,.string (bs [10])] d λ a d=>∃ e f g,a=.returned (.slice e f g)/\∃ a:Int->qN,(∃ g,a 0 d g)/\∀ d g h,a h d g->∀ i:qv,cond (decide (h<(f:Int))) (∃ i:qW,(∀ j,i j->∀ k:qv,∃ k,k<g/\a (IntKind.i64.wrap (h+1)) j k)/\aq e λ a=>0<=h/\h<(f:Int)/\∃ e,d.cell? (Addr.add a ((h).toNat*1))=some (.string e)/\cond (e.toList==(bs []).toList) (i d) (CC 116 #[.string e,.string (bs [32])] d λ a e=>∃ f g j,a=.returned (.slice f g j)/\CC 117 #[qp c,.slice f g j] e λ a e=>∃ f,a=.returned (iv f)/\cond (f !=0) (aK (qd b 0) 0 [qn,qn,qn,qn] e λ a=>∃ g j k l m n o p q r s t,af a (qd b 0) 0 [.slice g j k,.slice l m n,.slice o p q,.slice r s t]/\K (.tuple #[.agg #[.slice g j k,.slice l m n,.slice o p q,.slice r s t],iv (IntKind.i64.wrap (h+1)),iv f]) a) (i e))) (∃ a e f g h i j k l m n o,af d (qd c 0) 0 [.slice a e f,.slice g h i,.slice j k l,.slice m n o]/\CC 62 #[.agg #[.slice a e f,.slice g h i,.slice j k l,.slice m n o]] d λ a d=>∃ e,a=.returned (iv e)/\cond (e !=0) (aK (qd b 0) 0 [qn,qn,qn,qn] d λ a=>∃ f g h i j k l m n o p q,af a (qd b 0) 0 [.slice f g h,.slice i j k,.slice l m n,.slice o p q]/\K (.tuple #[.agg #[.slice f g h,.slice i j k,.slice l m n,.slice o p q],qz,iv e]) a) (∃ a e f g h i j k l m n o,af d (qd c 0) 0 [.slice a e f,.slice g h i,.slice j k l,.slice m n o]/\aK (qd b 0) 0 [.slice a e f,.slice g h i,.slice j k l,.slice m n o] d λ a=>∃ c d e f g h i j k l m n,af a (qd b 0) 0 [.slice c d e,.slice f g h,.slice i j k,.slice l m n]/\K (.tuple #[.agg #[.slice c d e,.slice f g h,.slice i j k,.slice l m n],qz,qz]) a)))
theorem zv{s1 w K}(h:wk s1 w K):CP 87 #[.string s1] w K:=ah (az [(122,[(17,.s (.int .i64))]),(979,[])]) func87 (by kernel_rfl) (by kernel_rfl) h
def zy(a:Nat)(b:OA)(c d:Nat)(w:World)(K:KP):=aq b λ e=>0<=(0:Int)/\(0:Int)<(c:Int)/\∃ f,w.cell? (Addr.add e (((0:Int)).toNat*1))=some (.string f)/\CC 166 #[.string f] w λ e f=>∃ g,e=.returned (iv g)/\cond (g==0) (K (iv 22) f) (cond (g==(c:Int)) (∃ e g h i j k l m n o p q,af f.drew (qd a 0) 0 [.slice e g h,.slice i j k,.slice l m n,.slice o p q]/\aq b λ r=>0<=(0:Int)/\(0:Int)<(c:Int)/\∃ s,f.drew.cell? (Addr.add r (((0:Int)).toNat*1))=some (.string s)/\aq b λ r=>0<=(1:Int)/\(1:Int)<(c:Int)/\∃ t,f.drew.cell? (Addr.add r (((1:Int)).toNat*1))=some (.string t)/\CC 167 #[.agg #[.slice e g h,.slice i j k,.slice l m n,.slice o p q],.string s,.string t] f.drew λ e g=>∃ h i,e=.returned (.tuple #[iv h,iv i])/\cond (i !=0) (K (iv i) g) (0<=(2:Int)/\(2:Int)<=(c:Int)/\CC 168 #[.slice (if d=((2:Int)).toNat then b else Option.map (λ x=>Addr.add x (((2:Int)).toNat*1)) b) (c-((2:Int)).toNat) (d-((2:Int)).toNat)] g λ d e=>∃ g i j k,d=.returned (.tuple #[.slice g i j,iv k])/\cond (k !=0) (K (iv k) e) (∃ d:qW,(∀ j,d j->∀ l:qv,K (iv k) j)/\aq b λ j=>0<=(0:Int)/\(0:Int)<(c:Int)/\∃ k,e.cell? (Addr.add j (((0:Int)).toNat*1))=some (.string k)/\cond (k.toList==(bs [112,114,111,100,117,99,116]).toList) (∃ j l m,e.drew.cell? (qd a 0)=some (.slice j l m)/\aq b λ n=>0<=(1:Int)/\(1:Int)<(c:Int)/\∃ o,e.drew.cell? (Addr.add n (((1:Int)).toNat*1))=some (.string o)/\aq g λ n=>0<=(0:Int)/\(0:Int)<(i:Int)/\∃ p,e.drew.cell? (Addr.add n (((0:Int)).toNat*1))=some (iv p)/\aq g λ n=>0<=(1:Int)/\(1:Int)<(i:Int)/\∃ q,e.drew.cell? (Addr.add n (((1:Int)).toNat*1))=some (iv q)/\aq g λ n=>0<=(2:Int)/\(2:Int)<(i:Int)/\∃ r,e.drew.cell? (Addr.add n (((2:Int)).toNat*1))=some (iv r)/\aq g λ n=>0<=(3:Int)/\(3:Int)<(i:Int)/\∃ s,e.drew.cell? (Addr.add n (((3:Int)).toNat*1))=some (iv s)/\an e.drew (.cells #[.string o,iv p,iv q,iv r,iv s] 120) λ n o=>o.cell? (qd a 0)=some (.slice j l m)/\aP prog (Builtin.append_ #[70,70] 70 #[.slice j l m,.slice (some (qd n 0)) 1 1]) o λ j l=>∃ m n o,j=(.slice m n o)/\aM l (qd a 0) (.slice m n o) λ j=>d j) (cond (k.toList==(bs [98,105,100,100,101,114]).toList) (∃ j l m,e.drew.cell? (qd a 1)=some (.slice j l m)/\aq b λ b=>0<=(1:Int)/\(1:Int)<(c:Int)/\∃ c,e.drew.cell? (Addr.add b (((1:Int)).toNat*1))=some (.string c)/\aq g λ b=>0<=(0:Int)/\(0:Int)<(i:Int)/\∃ n,e.drew.cell? (Addr.add b (((0:Int)).toNat*1))=some (iv n)/\aq g λ b=>0<=(1:Int)/\(1:Int)<(i:Int)/\∃ o,e.drew.cell? (Addr.add b (((1:Int)).toNat*1))=some (iv o)/\aq g λ b=>0<=(2:Int)/\(2:Int)<(i:Int)/\∃ p,e.drew.cell? (Addr.add b (((2:Int)).toNat*1))=some (iv p)/\an e.drew (.cells #[.string c,iv n,iv o,iv p] 137) λ b c=>c.cell? (qd a 1)=some (.slice j l m)/\aP prog (Builtin.append_ #[71,71] 71 #[.slice j l m,.slice (some (qd b 0)) 1 1]) c λ b c=>∃ j l m,b=(.slice j l m)/\aM c (qd a 1) (.slice j l m) λ b=>d b) (cond (k.toList==(bs [99,97,112]).toList) (∃ b c j,e.drew.cell? (qd a 2)=some (.slice b c j)/\aq g λ l=>0<=(0:Int)/\(0:Int)<(i:Int)/\∃ m,e.drew.cell? (Addr.add l (((0:Int)).toNat*1))=some (iv m)/\aq g λ l=>0<=(1:Int)/\(1:Int)<(i:Int)/\∃ n,e.drew.cell? (Addr.add l (((1:Int)).toNat*1))=some (iv n)/\an e.drew (.cells #[iv h,iv m,iv n] 153) λ l m=>m.cell? (qd a 2)=some (.slice b c j)/\aP prog (Builtin.append_ #[72,72] 72 #[.slice b c j,.slice (some (qd l 0)) 1 1]) m λ b c=>∃ j l m,b=(.slice j l m)/\aM c (qd a 2) (.slice j l m) λ b=>d b) (cond (k.toList==(bs [97,115,105,100,101]).toList) (∃ b c j,e.drew.cell? (qd a 3)=some (.slice b c j)/\aq g λ k=>0<=(0:Int)/\(0:Int)<(i:Int)/\∃ l,e.drew.cell? (Addr.add k (((0:Int)).toNat*1))=some (iv l)/\aq g λ g=>0<=(1:Int)/\(1:Int)<(i:Int)/\∃ i,e.drew.cell? (Addr.add g (((1:Int)).toNat*1))=some (iv i)/\an e.drew (.cells #[iv h,iv l,iv i] 156) λ g h=>h.cell? (qd a 3)=some (.slice b c j)/\aP prog (Builtin.append_ #[73,73] 73 #[.slice b c j,.slice (some (qd g 0)) 1 1]) h λ b c=>∃ g h i,b=(.slice g h i)/\aM c (qd a 3) (.slice g h i) λ a=>d a) (d e))))))) (K (iv 2) f))
theorem Ae{b1 a1 l1 c1 w K}(h:zy b1 a1 l1 c1 w K):CP 117 #[.pointer (some ⟨b1,0,none⟩),.slice a1 l1 c1] w K:=ah (az [(223,[])]) func117 (by kernel_rfl) (by kernel_rfl) h
def qY(a:OA)(b c:Nat)(d:OA)(e f:Nat)(g:OA)(h i:Nat)(j:OA)(k l:Nat)(m:Int)(n:I6)(w:World)(K:KP):=an w (.cells #[.slice a b c,.slice d e f,.slice g h i,.slice j k l] 75) λ a b=>an b (.cells n.vs.toArray 34) λ b c=>∃ d e f g h i j k l n o p,af c (qd a 0) 0 [.slice d e f,.slice g h i,.slice j k l,.slice n o p]/\CC 62 #[.agg #[.slice d e f,.slice g h i,.slice j k l,.slice n o p]] c λ c d=>∃ e,c=.returned (iv e)/\cond (e !=0) (K (iv e) d) (∃ c e f g h i j k l n o p,af d (qd a 0) 0 [.slice c e f,.slice g h i,.slice j k l,.slice n o p]/\∃ a:I6,af d (qd b 0) 0 a.vs/\CC 111 #[.agg #[.slice c e f,.slice g h i,.slice j k l,.slice n o p],iv m,.agg a.vs.toArray] d λ a b=>∃ c,a=.returned (iv c)/\K (iv c) b)
theorem vq{a1 l1 c1 a2 l2 c2 a3 l3 c3 a4 l4 c4 n1 u1 w K}(h:qY a1 l1 c1 a2 l2 c2 a3 l3 c3 a4 l4 c4 n1 u1 w K):CP 75 #[.agg #[.slice a1 l1 c1,.slice a2 l2 c2,.slice a3 l3 c3,.slice a4 l4 c4],iv n1,.agg u1.vs.toArray] w K:=ah (az []) func75 (by kernel_rfl) (by kernel_rfl) h
def wo(a:ByteArray)(w:World)(K:KP):=cond (a.toList==(bs [112,114,111,100,117,99,116]).toList) (K (iv 6) w) (cond (a.toList==(bs [98,105,100,100,101,114]).toList) (K (iv 5) w) (∃ b:Bool->qW,(∀ c d,b d c->∀ e:qv,cond d (K (iv 4) c) (K qz c))/\cond (a.toList==(bs [99,97,112]).toList) (b (a.toList==(bs [99,97,112]).toList) w) (b (a.toList==(bs [97,115,105,100,101]).toList) w)))
theorem zz{s1 w K}(h:wo s1 w K):CP 166 #[.string s1] w K:=ah (az [(431,[(8,.s .bool)])]) func166 (by kernel_rfl) (by kernel_rfl) h
def wm(a:OA)(b c:Nat)(d:OA)(e f:Nat)(g:OA)(h i:Nat)(j:OA)(k l:Nat)(m n:ByteArray)(w:World)(K:KP):=an w (.cells #[.slice a b c,.slice d e f,.slice g h i,.slice j k l] 75) λ a b=>∃ c:Int->Bool->qW,(∀ d e f,c e f d->∀ g:qv,cond (!f) (K (.tuple #[qz,iv 6]) d) (K (.tuple #[iv e,qz]) d))/\∃ d:Bool->qW,(∀ e f,d f e->∀ g:qv,cond f (CC 129 #[.string n] e λ f g=>∃ h,f=.returned (.bool h)/\cond (!h) (K (.tuple #[qz,iv 5]) g) (K (.tuple #[qz,qz]) g)) (cond (m.toList==(bs [99,97,112]).toList) (cond (!(n.toList==(bs [42]).toList)) (∃ f g h,e.cell? (qd a 1)=some (.slice f g h)/\CC 132 #[.slice f g h,.string n] e λ f g=>∃ h i,f=.returned (.tuple #[iv h,.bool i])/\c h i g) (c (-1:Int) true e)) (cond (m.toList==(bs [97,115,105,100,101]).toList) (∃ f g h,e.cell? (qd a 0)=some (.slice f g h)/\CC 130 #[.slice f g h,.string n] e λ a f=>∃ g h,a=.returned (.tuple #[iv g,.bool h])/\c g h f) (c (-1:Int) true e))))/\cond (m.toList==(bs [112,114,111,100,117,99,116]).toList) (d (m.toList==(bs [112,114,111,100,117,99,116]).toList) b) (d (m.toList==(bs [98,105,100,100,101,114]).toList) b)
theorem zw{a1 l1 c1 a2 l2 c2 a3 l3 c3 a4 l4 c4 s1 s2 w K}(h:wm a1 l1 c1 a2 l2 c2 a3 l3 c3 a4 l4 c4 s1 s2 w K):CP 167 #[.agg #[.slice a1 l1 c1,.slice a2 l2 c2,.slice a3 l3 c3,.slice a4 l4 c4],.string s1,.string s2] w K:=ah (az [(7,[(8,.s (.int .i64)),(9,.s .bool)]),(58,[(11,.s .bool)])]) func167 (by kernel_rfl) (by kernel_rfl) h
def q8(a:OA)(b c:Nat)(w:World)(K:KP):=∃ c:OA->Nat->Nat->Int->qN,(∃ d,c none 0 0 0 w d)/\∀ e d f g h i,c f g h i e d->∀ j:qv,cond (decide (i<(b:Int))) (aq a λ a=>0<=i/\i<(b:Int)/\∃ b,e.cell? (Addr.add a ((i).toNat*1))=some (.string b)/\CC 210 #[.string b] e λ a b=>∃ j k,a=.returned (.tuple #[iv j,iv k])/\cond (k !=0) (K (.tuple #[qn,iv k]) b) (an b (.cells #[iv j] 3) λ a b=>aP prog (Builtin.append_ #[65,65] 65 #[.slice f g h,.slice (some (qd a 0)) 1 1]) b λ a b=>∃ j k l,a=(.slice j k l)/\∃ a,a<d/\c j k l (IntKind.i64.wrap (i+1)) b a)) (K (.tuple #[.slice f g h,qz]) e)
theorem vt{a1 l1 c1 w K}(h:q8 a1 l1 c1 w K):CP 168 #[.slice a1 l1 c1] w K:=ah (az [(58,[(4,.s .slice),(11,.s (.int .i64))])]) func168 (by kernel_rfl) (by kernel_rfl) h
def qZ(a:OA)(b c:Nat)(d:OA)(e f:Nat)(g:OA)(h i:Nat)(j:OA)(k l:Nat)(m:Int)(n:I6)(w:World)(K:KP):=an w (.cells #[.slice a b c,.slice d e f,.slice g h i,.slice j k l] 75) λ a b=>an b (.cells n.vs.toArray 34) λ b c=>∃ d:Bool->qW,(∀ e f,d f e->∀ g:qv,cond f (K (iv 6) e) (∃ f:I6,af e (qd b 0) 0 f.vs/\CC 47 #[.agg f.vs.toArray] e λ e f=>∃ g,e=.returned (iv g)/\cond (g !=0) (K (iv g) f) (∃ e g h i j k l n o p q r,af f (qd a 0) 0 [.slice e g h,.slice i j k,.slice l n o,.slice p q r]/\CC 113 #[.agg #[.slice e g h,.slice i j k,.slice l n o,.slice p q r]] f λ e f=>∃ g h:I6,e=.returned (.tuple #[.agg g.vs.toArray,.agg h.vs.toArray])/\an f (.cells z6.vs.toArray 34) λ e f=>an f (.cells z6.vs.toArray 34) λ f i=>aK (qd e 0) 0 g.vs i λ g=>aK (qd f 0) 0 h.vs g λ g=>∃ h:Bool->qW,(∀ i j,h j i->∀ k:qv,cond j (K (iv 14) i) (∃ j k l,i.cell? (qd a 2)=some (.slice j k l)/\∃ l:Int->qN,(∃ n,l 0 i n)/\∀ i n o,l o i n->∀ p:qv,cond (decide (o<(k:Int))) (aq j λ j=>0<=o/\o<(k:Int)/\∃ k p q,af i (Addr.add j ((o).toNat*3)) 0 [iv k,iv p,iv q]/\an i (.cells #[qz,qz,qz] 153) λ j r=>aK (qd j 0) 0 [iv k,iv p,iv q] r λ k=>∃ p:Bool->qW,(∀ q r,p r q->∀ s:qv,cond r (K (iv 14) q) (∃ r,r<n/\l (IntKind.i64.wrap (o+1)) q r))/\∃ l,k.drew.cell? (qd j 0)=some (iv l)/\cond (l==(-1:Int)) (∃ l n o,k.drew.cell? (qd a 0)=some (.slice l n o)/\∃ q,k.drew.cell? (qd j 1)=some (iv q)/\∃ r:I6,af k.drew (qd b 0) 0 r.vs/\∃ s,k.drew.cell? (qd j 2)=some (iv s)/\CC 164 #[.slice l n o,iv q,.agg r.vs.toArray] k.drew λ l n=>∃ o,l=.returned (iv o)/\n.cell? (qd j 2)=some (iv s)/\p (decide (o>s)) n) (∃ l,k.drew.cell? (qd j 0)=some (iv l)/\cond (l==m) (∃ l n o,k.drew.cell? (qd a 0)=some (.slice l n o)/\∃ q,k.drew.cell? (qd j 1)=some (iv q)/\∃ r:I6,af k.drew (qd b 0) 0 r.vs/\∃ s,k.drew.cell? (qd j 2)=some (iv s)/\CC 164 #[.slice l n o,iv q,.agg r.vs.toArray] k.drew λ l n=>∃ o,l=.returned (iv o)/\n.cell? (qd j 2)=some (iv s)/\p (decide (o>s)) n) (p false k.drew))) (K qz i)))/\∃ i:I6,af g.drew (qd b 0) 0 i.vs/\∃ j k l,g.drew.cell? (qd a 0)=some (.slice j k l)/\CC 34 #[.slice j k l] g.drew λ g j=>∃ k:I6,g=.returned (.agg k.vs.toArray)/\af j (qd b 0) 0 i.vs/\CC 162 #[.agg i.vs.toArray,.agg k.vs.toArray] j λ g i=>∃ j,g=.returned (.bool j)/\cond (!j) (h true i) (∃ g j k l n o p q r s t u,af i (qd a 0) 0 [.slice g j k,.slice l n o,.slice p q r,.slice s t u]/\∃ v:I6,af i (qd f 0) 0 v.vs/\∃ f:I6,af i (qd b 0) 0 f.vs/\∃ b:I6,af i (qd e 0) 0 b.vs/\CC 163 #[.agg #[.slice g j k,.slice l n o,.slice p q r,.slice s t u],.agg v.vs.toArray,iv m,.agg f.vs.toArray] i λ f g=>∃ i:I6,f=.returned (.agg i.vs.toArray)/\af g (qd e 0) 0 b.vs/\CC 162 #[.agg i.vs.toArray,.agg b.vs.toArray] g λ b e=>∃ f,b=.returned (.bool f)/\h (!f) e))))/\cond (decide (m<0)) (d true c) (∃ b e f,c.cell? (qd a 1)=some (.slice b e f)/\d (decide (m>=(e:Int))) c)
theorem vr{a1 l1 c1 a2 l2 c2 a3 l3 c3 a4 l4 c4 n1 u1 w K}(h:qZ a1 l1 c1 a2 l2 c2 a3 l3 c3 a4 l4 c4 n1 u1 w K):CP 111 #[.agg #[.slice a1 l1 c1,.slice a2 l2 c2,.slice a3 l3 c3,.slice a4 l4 c4],iv n1,.agg u1.vs.toArray] w K:=ah (az [(6,[(20,.s .bool)]),(62,[(46,.s .bool)]),(506,[(50,.s (.int .i64))]),(32409,[(73,.s .bool)])]) func111 (by kernel_rfl) (by kernel_rfl) h
def tS(a:ByteArray)(w:World)(K:KP):=∃ b:Int->qN,(∃ c,b 0 w c)/\∀ d c e,b e d c->∀ f:qv,cond (decide (e<((a.size:Nat):Int))) (∃ f:Bool->qW,(∀ g h,f h g->∀ i:qv,cond h (K (.tuple #[qz,iv 2]) g) (∃ h,h<c/\b (IntKind.i64.wrap (e+1)) g h))/\0<=e/\aq a[(e).toNat]? λ b=>cond (decide ((b.toNat:Int)<(48:Int))) (f true d) (0<=e/\aq a[(e).toNat]? λ b=>f (decide ((b.toNat:Int)>(57:Int))) d)) (∃ b:Bool->qW,(∀ c e,b e c->∀ f:qv,cond e (K (.tuple #[qz,iv 2]) c) (cond (decide (((a.size:Nat):Int)>(9:Int))) (K (.tuple #[qz,iv 4]) c) (CC 234 #[.string a] c λ c e=>∃ f,∃ g:Value,c=.returned (.tuple #[iv f,g])/\K (.tuple #[iv f,qz]) e)))/\cond (a.toList==(bs []).toList) (b true d) (0<=(0:Int)/\aq a[((0:Int)).toNat]? λ c=>cond ((c.toNat:Int)==(48:Int)) (b (decide (((a.size:Nat):Int)>(1:Int))) d) (b false d)))
theorem xe{s1 w K}(h:tS s1 w K):CP 210 #[.string s1] w K:=ah (az [(26,[(9,.s (.int .i64))]),(1689,[(21,.s .bool)]),(14,[(34,.s .bool)])]) func210 (by kernel_rfl) (by kernel_rfl) h
def tT(a:OA)(b c:Nat)(d:OA)(e f:Nat)(g:OA)(h i:Nat)(j:OA)(k l:Nat)(w:World)(K:KP):=an w (.cells #[.slice a b c,.slice d e f,.slice g h i,.slice j k l] 75) λ a b=>an b (.cells z6.vs.toArray 34) λ b c=>an c (.cells z6.vs.toArray 34) λ c d=>∃ e f g,d.cell? (qd a 0)=some (.slice e f g)/\CC 34 #[.slice e f g] d λ d e=>∃ f:I6,d=.returned (.agg f.vs.toArray)/\aK (qd b 0) 0 f.vs e λ d=>∃ e f g,d.cell? (qd a 3)=some (.slice e f g)/\∃ a:Int->qN,(∃ g,a 0 d g)/\∀ d g h,a h d g->∀ i:qv,cond (decide (h<(f:Int))) (aq e λ e=>0<=h/\h<(f:Int)/\∃ f i j,af d (Addr.add e ((h).toNat*3)) 0 [iv f,iv i,iv j]/\an d (.cells #[qz,qz,qz] 156) λ e k=>aK (qd e 0) 0 [iv f,iv i,iv j] k λ f=>∃ i,f.drew.cell? (qd e 0)=some (iv i)/\0<=i/\i<6/\∃ j,f.drew.cell? (Addr.add (qd b 0) ((i).toNat*1))=some (iv j)/\∃ k,f.drew.cell? (qd e 2)=some (iv k)/\0<=i/\i<6/\aM f.drew (Addr.add (qd b 0) ((i).toNat*1)) (iv (IntKind.i64.wrap (j-k))) λ f=>∃ i,f.cell? (qd e 0)=some (iv i)/\∃ j,f.cell? (qd e 1)=some (iv j)/\0<=i/\i<6/\aM f (Addr.add (qd c 0) ((i).toNat*1)) (iv j) λ e=>∃ f,f<g/\a (IntKind.i64.wrap (h+1)) e f) (∃ a:I6,af d.drew (qd b 0) 0 a.vs/\∃ e:I6,af d.drew (qd c 0) 0 e.vs/\aK (qd b 0) 0 a.vs d.drew λ a=>af a (qd c 0) 0 e.vs/\aK (qd c 0) 0 e.vs a λ a=>∃ d:I6,af a (qd b 0) 0 d.vs/\∃ b:I6,af a (qd c 0) 0 b.vs/\K (.tuple #[.agg d.vs.toArray,.agg b.vs.toArray]) a)
theorem xg{a1 l1 c1 a2 l2 c2 a3 l3 c3 a4 l4 c4 w K}(h:tT a1 l1 c1 a2 l2 c2 a3 l3 c3 a4 l4 c4 w K):CP 113 #[.agg #[.slice a1 l1 c1,.slice a2 l2 c2,.slice a3 l3 c3,.slice a4 l4 c4]] w K:=ah (az [(58,[(12,.s (.int .i64))])]) func113 (by kernel_rfl) (by kernel_rfl) h
def q9(a:OA)(b c:Nat)(d:OA)(e f:Nat)(g:OA)(h i:Nat)(j:OA)(k l:Nat)(m:I6)(n:Int)(o:I6)(w:World)(K:KP):=an w (.cells #[.slice a b c,.slice d e f,.slice g h i,.slice j k l] 75) λ a b=>an b (.cells m.vs.toArray 34) λ b c=>an c (.cells o.vs.toArray 34) λ c d=>an d (.cells z6.vs.toArray 34) λ d e=>∃ f:Int->qN,(∃ g,f 0 e g)/\∀ e g h,f h e g->∀ i:qv,cond (decide (h<6)) (∃ i:qW,(∀ j,i j->∀ k:qv,∃ k,k<g/\f (IntKind.i64.wrap (h+1)) j k)/\∃ f:Bool->qW,(∀ g j,f j g->∀ k:qv,cond j (0<=h/\h<6/\aM g (Addr.add (qd c 0) ((h).toNat*1)) qz λ j=>i j) (i g))/\0<=h/\h<6/\∃ g,e.drew.cell? (Addr.add (qd b 0) ((h).toNat*1))=some (iv g)/\cond (g==0) (f true e.drew) (0<=h/\h<6/\∃ g,e.drew.cell? (Addr.add (qd b 0) ((h).toNat*1))=some (iv g)/\∃ b h i,e.drew.cell? (qd a 1)=some (.slice b h i)/\aq b λ a=>0<=n/\n<(h:Int)/\∃ b,e.drew.cell? (Addr.add (Addr.add a ((n).toNat*4)) 1)=some (iv b)/\f (g==b) e.drew)) (∃ a:I6,af e (qd c 0) 0 a.vs/\aK (qd d 0) 0 a.vs e λ a=>∃ b:I6,af a (qd d 0) 0 b.vs/\K (.agg b.vs.toArray) a)
theorem vu{a1 l1 c1 a2 l2 c2 a3 l3 c3 a4 l4 c4 u1 n1 u2 w K}(h:q9 a1 l1 c1 a2 l2 c2 a3 l3 c3 a4 l4 c4 u1 n1 u2 w K):CP 163 #[.agg #[.slice a1 l1 c1,.slice a2 l2 c2,.slice a3 l3 c3,.slice a4 l4 c4],.agg u1.vs.toArray,iv n1,.agg u2.vs.toArray] w K:=ah (az [(26,[(10,.s (.int .i64))]),(211,[]),(1689,[(28,.s .bool)])]) func163 (by kernel_rfl) (by kernel_rfl) h
def xG(ps:List Pr)(l:List T3):Nat->I6×I6
 | 0=>(aQ ps,z6)
 | k+1=>match l[k]? with
  | none=>xG ps l k
  | some x=>((xG ps l k).1.put x.a.toNat ((xG ps l k).1.at' x.a.toNat-x.c),(xG ps l k).2.put x.a.toNat x.b)
def wq(ps:List Pr)(l:List T3):I6×I6:=xG ps l l.length
theorem N6{ps:List Pr}{l:List T3}(h2:ps.length<=6)(hg:∀ p∈ps,p.sup<=4)(h:j9 ps l){i:Nat}{x:T3}(hx:l[i]?=some x):0<=x.a/\x.a<6/\1<=x.c/\x.c<=4:=by
 have:=(h.good i x hx).1;simp only[ES,Bool.and_eq_true,decide_eq_true_eq] at this;have h3:(ps[x.a.toNat]?.map Pr.sup).getD 0<=4:=by
  cases hp:ps[x.a.toNat]? with
  | none=>show(0:Int)<=4; omega
  | some p=>exact hg p (List.mem_of_getElem? hp)
 omega
theorem RE{ps:List Pr}(h:bP ps):∀ p∈ps,p.sup<=4:=λ p hp=>by
 obtain⟨i,hi⟩:=List.getElem?_of_mem hp;have:=(h.good i p hi).1;simp only[ze,IC,Bool.and_eq_true,decide_eq_true_eq] at this;omega
theorem K9{ps:List Pr}{l:List T3}(hp:bP ps)(h:j9 ps l):∀ (k:Nat) (j:Nat),j<6->-(4*(k:Int))<=(xG ps l k).1.at' j/\(xG ps l k).1.at' j<=4
 | 0,j,hj=>by have:=sup_le hp j hj; show _<=(aQ ps).at' j/\(aQ ps).at' j<=4; omega
 | k+1,j,hj=>by
  have ih:=K9 hp h k;rw[xG]
  cases hx:l[k]? with
  | none=>have:=ih j hj; show _<=(xG ps l k).1.at' j/\(xG ps l k).1.at' j<=4; omega
  | some x =>
   have hi:=N6 hp.l2 (RE hp) h hx;show _<=((xG ps l k).1.put x.a.toNat _).at' j/\((xG ps l k).1.put x.a.toNat _).at' j<=4;rw[I6.zf _ _ _ _ (by omega) hj];have h1:=ih j hj;have h2:=ih x.a.toNat (by omega)
   split<;>omega
theorem El{w:World}{S:Se}(h:S.In w)(hs:S.Ok) :
  CP 113 #[.agg S.arr] w (λ r w'=>r=.tuple #[.agg (wq S.ps S.sa).1.vs.toArray,.agg (wq S.ps S.sa).2.vs.toArray]/\aA w w' []):=by
 refine xg ?_;unfold tT;have hl:=hs.sa.l1; have hpl:=hs.ps.l2;refine(St.start w).one.ax S.arr λ r1 w1 s1=>s1.ax z6.vs.toArray λ r2 w2 s2=>s2.ax z6.vs.toArray λ r3 w3 s3=>?_;refine⟨_,_,_,s3.ag 2 rfl 0,aj (jd (h.av s3.av).ps (by omega)) ?_⟩;rintro v w4 ⟨rfl,c4⟩;refine⟨_,rfl,(s3.quiet c4).ay 1 rfl (aQ S.ps).vs rfl (I6.one _) λ w5 s5=>⟨_,_,_,s5.ag 2 rfl 3,?_⟩⟩;refine⟨λ n w6 m=>∃ k:Nat,n=k/\k<=S.sa.length/\m=S.sa.length-k/\St w w6 (Sep [ai r3 (xG S.ps S.sa k).2.vs.toArray 34,ai r2 (xG S.ps S.sa k).1.vs.toArray 34,emp]),⟨S.sa.length,0,rfl,by omega,by omega,s5.au [0,1,3]⟩,?_⟩;rintro w6 m n ⟨k,rfl,hk,hm,s6⟩ -
 by_cases hlt:(k:Int)<(S.sa.length:Int)
 ·have hx:S.sa[k]?=some (S.sa[k]'(by omega)):=gE (by omega);generalize S.sa[k]'(by omega)=x at hx;obtain⟨q,hq,hcl⟩:=(h.av s6.av).sa k x hx;have hi:=N6 hpl (RE hs.ps) hs.sa hx;obtain⟨i,hai⟩:=Int.eq_ofNat_of_zero_le hi.1;have hi6:i<6:=by omega
  refine cT (dT hlt) (ak hq ⟨by omega,by omega,_,_,_,hcl,s6.ax #[iv 0,iv 0,iv 0] λ r4 w7 s7=>s7.ay 0 rfl x.cells rfl x.one λ w8 s8=>?_⟩);have s9:=s8.quiet (aA.drew w8 []);have bd:=K9 hs.ps hs.sa k i hi6;have eF:xG S.ps S.sa (k+1)=((xG S.ps S.sa k).1.put i ((xG S.ps S.sa k).1.at' i-x.c),(xG S.ps S.sa k).2.put i x.b):=by
   rw[xG,hx]; show((xG S.ps S.sa k).1.put x.a.toNat _,_)=_;rw[hai,Int.toNat_natCast]
  refine⟨i,by rw[s9.ag 0 rfl 0,<- hai]; rfl,by omega,by omega,(xG S.ps S.sa k).1.at' i,by rw[e9]; exact aH s9 2 rfl hi6,x.c,s9.ag 0 rfl 2,by omega,by omega,?_⟩;rw[e9,aB ⟨by omega,by omega⟩];refine s9.aJ 2 rfl hi6 rfl λ w9 s10=>⟨i,by rw[s10.ag 0 rfl 0,<- hai]; rfl,x.b,s10.ag 0 rfl 1,by omega,by omega,?_⟩;rw[e9];refine s10.aJ 1 rfl hi6 rfl λ w10 s11=>⟨S.sa.length-(k+1),by omega,k+1,aB ⟨by omega,by omega⟩,by omega,rfl,?_⟩;rw[eF];have s12:=s11.au [1,2,3];have e1:=I6.pX (xG S.ps S.sa k).1 i ((xG S.ps S.sa k).1.at' i-x.c) hi6;have e2:=I6.pX (xG S.ps S.sa k).2 i x.b hi6;show St w w10 (Sep [ai r3 (I6.put _ _ _).vs.toArray _,ai r2 (I6.put _ _ _).vs.toArray _,emp]);rw[<- e1,<- e2];exact s12
 ·obtain rfl:S.sa.length=k:=by omega
  have s7:=s6.quiet (aA.drew w6 []);exact cF (dF hlt) ⟨_,s7.cellsIn 1 rfl,_,s7.cellsIn 0 rfl,s7.ay 1 rfl _ rfl (I6.one _) λ w8 s8=>⟨s8.cellsIn 0 rfl,s8.ay 0 rfl _ rfl (I6.one _) λ w9 s9=>⟨_,s9.cellsIn 1 rfl,_,s9.cellsIn 0 rfl,rfl,s9.av⟩⟩⟩
def wX(b:Br)(cls u:I6):I6:=I6.zip (λ c x=>if c=0\/c=b.cls then 0 else x) cls u
theorem Ip{w:World}{S:Se}(h:S.In w){n:Nat}{b:Br}(hb:S.bd[n]?=some b)(cls u:I6) :
  CP 163 #[.agg S.arr,.agg cls.vs.toArray,iv n,.agg u.vs.toArray] w (λ r w'=>r=.agg (wX b cls u).vs.toArray/\aA w w' []):=by
 refine vu ?_;unfold q9;have hn:=(List.getElem?_eq_some_iff.1 hb).1;refine(St.start w).one.ax S.arr λ r1 w1 s1=>s1.ax cls.vs.toArray λ r2 w2 s2=>s2.ax u.vs.toArray λ r3 w3 s3=>s3.ax z6.vs.toArray λ r4 w4 s4=>?_;refine⟨λ n w6 m=>∃ k:Nat,n=k/\k<=6/\m=6-k/\St w w6 (Sep [ai r4 z6.vs.toArray 34,ai r3 (I6.mix k (wX b cls u) u).vs.toArray 34,ai r2 cls.vs.toArray 34,ai r1 S.arr 75,emp]),⟨6,0,rfl,by omega,by omega,s4⟩,?_⟩;rintro w5 m n2 ⟨k,rfl,hk,hm,s5⟩ -
 by_cases hlt:(k:Int)<6
 ·have hk' : k<6:=by omega
  have eo:(wX b cls u).at' k=if cls.at' k=0\/cls.at' k=b.cls then 0 else u.at' k:=by rw[wX,I6.jf _ _ _ _ hk']
  refine cT (dT hlt) ⟨λ w6=>St w w6 (Sep [ai r4 z6.vs.toArray 34,ai r3 (I6.mix (k+1) (wX b cls u) u).vs.toArray 34,ai r2 cls.vs.toArray 34,ai r1 S.arr 75,emp]),λ w6 s6 _=>⟨6-(k+1),by omega,k+1,inc (by decide) hk',by omega,rfl,s6⟩,?_⟩;have s6:=s5.quiet (aA.drew w5 []);have cl2:=aH s6 2 rfl hk';refine⟨λ x w7=>x=decide (cls.at' k=0\/cls.at' k=b.cls)/\St w w7 (Sep [ai r4 z6.vs.toArray 34,ai r3 (I6.mix k (wX b cls u) u).vs.toArray 34,ai r2 cls.vs.toArray 34,ai r1 S.arr 75,emp]),?_,by omega,by omega,_,by rw[e9]; exact cl2,?_⟩
  ·rintro w7 x ⟨rfl,s7⟩ -
   by_cases g:cls.at' k=0\/cls.at' k=b.cls
   ·rw[if_pos g] at eo;refine cT (dT g) ⟨by omega,by omega,?_⟩;rw[e9];refine s7.aJ 1 rfl hk' rfl λ w8 s8=>?_;have:=I6.fH (wX b cls u) u k hk';rw[eo] at this;rw[<- this]; exact s8
   ·rw[if_neg g] at eo;refine cF (dF g) ?_;have:I6.mix (k+1) (wX b cls u) u=I6.mix k (wX b cls u) u:=I6.ext' λ j hj=>by
     rw[I6.bV _ _ _ _ hj,I6.bV _ _ _ _ hj]
     by_cases e:j=k
     ·subst e; rw[if_pos (by omega),if_neg (by omega),eo]
     ·by_cases e2:j<k
      ·rw[if_pos e2,if_pos (by omega)]
      ·rw[if_neg e2,if_neg (by omega)]
    rw[this]; exact s7
  ·by_cases g:cls.at' k=0
   ·exact cT (by simpa using g) ⟨by rw[dT (Or.inl g)],s6⟩
   ·obtain⟨q,hq,hc⟩:=Js (h.av s6.av).bd hb 1 (iv b.cls) rfl;refine cF (by simpa using g) ⟨by omega,by omega,_,by rw[e9]; exact cl2,_,_,_,s6.ag 3 rfl 1,ak hq ⟨by omega,by omega,b.cls,by rw[Int.toNat_natCast]; exact hc,?_,s6⟩⟩
    by_cases g2:cls.at' k=b.cls
    ·rw[dT (Or.inr g2)]; simpa using g2
    ·rw[dF (by rintro(h|h); exact g h; exact g2 h)]; simpa using g2
 ·obtain rfl:k=6:=by omega
  rw[I6.B5] at s5;exact cF (by simp) ⟨_,s5.cellsIn 1 rfl,s5.ay 0 rfl _ rfl (I6.one _) λ w9 s9=>⟨_,s9.cellsIn 0 rfl,rfl,s9.av⟩⟩
def rD(ps:List Pr)(n:Nat)(u:I6)(x:T3):Bool:=(decide (x.a=-1)||decide (x.a=(n:Int)))&&decide (LD ps x.b u>x.c)
def cD(S:Se)(n:Nat)(b:Br)(u:I6):Int :=
 if u.l.all j8 then (if within u (aQ S.ps)&&within (wX b (wq S.ps S.sa).2 u) (wq S.ps S.sa).1&&!S.cp.any (rD S.ps n u) then 0 else 14) else 4
theorem HD{w:World}{S:Se}(h:S.In w)(hs:S.Ok){n:Nat}{b:Br}(hb:S.bd[n]?=some b)(u:I6) :
  CP 111 #[.agg S.arr,iv n,.agg u.vs.toArray] w (λ r w'=>r=iv (cD S n b u)/\aA w w' []):=by
 refine vr ?_;unfold qZ;have hn:=(List.getElem?_eq_some_iff.1 hb).1;have hpl:=hs.ps.l2; have hcl:=hs.cp.l1; have hbl:=hs.bd.l2;refine(St.start w).one.ax S.arr λ r1 w1 s1=>s1.ax u.vs.toArray λ r2 w2 s2=>?_;refine⟨λ x w3=>x=false/\w3=w2,?_,cF (dF (by omega)) ⟨_,_,_,s2.ag 1 rfl 1,dF (by omega),rfl⟩⟩;rintro w3 x ⟨rfl,rfl⟩ -;refine cF rfl ⟨u,s2.cellsIn 0 rfl,aj (bR w3 u) ?_⟩;rintro v w4 ⟨rfl,c4⟩;have s4:=s2.quiet c4;refine⟨_,rfl,?_⟩
 cases hq:u.l.all j8 with
 | false=>exact cT rfl ⟨by rw[cD,hq]; rfl,s4.av⟩
 | true =>
 have hu:=It hq;refine cF rfl ⟨_,_,_,_,_,_,_,_,_,_,_,_,s4.cellsIn 1 rfl,aj (El (h.av s4.av) hs) ?_⟩;rintro v w5 ⟨rfl,c5⟩;refine⟨_,_,rfl,(s4.quiet c5).ax z6.vs.toArray λ r3 w6 s6=>s6.ax z6.vs.toArray λ r4 w7 s7=>s7.ay 1 rfl _ rfl (I6.one _) λ w8 s8=>s8.ay 0 rfl _ rfl (I6.one _) λ w9 s9=>?_⟩;refine⟨λ x w10=>x = !(within u (aQ S.ps)&&within (wX b (wq S.ps S.sa).2 u) (wq S.ps S.sa).1)/\St w w10 (Sep [ai r2 u.vs.toArray 34,ai r1 S.arr 75,emp]),?_,?_⟩
 ·rintro w10 x ⟨rfl,s10⟩ -
  cases hw:(within u (aQ S.ps)&&within (wX b (wq S.ps S.sa).2 u) (wq S.ps S.sa).1) with
  | false=>exact cT rfl ⟨by rw[cD,if_pos hq,hw]; rfl,s10.av⟩
  | true =>
   refine cF rfl ⟨_,_,_,s10.ag 1 rfl 2,λ i w11 m=>∃ k:Nat,i=k/\k<=S.cp.length/\m=S.cp.length-k/\(S.cp.take k).any (rD S.ps n u)=false/\St w w11 (Sep [ai r2 u.vs.toArray 34,ai r1 S.arr 75,emp]),⟨S.cp.length,0,rfl,by omega,by omega,rfl,s10⟩,?_⟩;rintro w11 m i ⟨k,rfl,hk,hm,ha,s11⟩ -
   by_cases hlt:(k:Int)<(S.cp.length:Int)
   ·have hx:S.cp[k]?=some (S.cp[k]'(by omega)):=gE (by omega);generalize S.cp[k]'(by omega)=x at hx;obtain⟨q,hq2,hcl2⟩:=(h.av s11.av).cp k x hx;refine cT (dT hlt) (ak hq2 ⟨by omega,by omega,_,_,_,hcl2,s11.ax #[iv 0,iv 0,iv 0] λ r5 w12 s12=>s12.ay 0 rfl x.cells rfl x.one λ w13 s13=>?_⟩);have s14:=s13.quiet (aA.drew w13 []);refine⟨λ y w15=>y=rD S.ps n u x/\St w w15 (Sep [ai r5 x.cells.toArray 153,ai r2 u.vs.toArray 34,ai r1 S.arr 75,emp]),?_,?_⟩
    ·rintro w15 y ⟨rfl,s15⟩ -
     cases hc:rD S.ps n u x with
     | true =>
      refine cT rfl ⟨?_,s15.av⟩;rw[cD,if_pos hq,hw,jq hx hc]; rfl
     | false=>exact cF rfl ⟨S.cp.length-(k+1),by omega,k+1,aB ⟨by omega,by omega⟩,by omega,rfl,fL ha hx hc,s15.au [1,2,3]⟩
    ·refine⟨x.a,s14.ag 0 rfl 0,?_⟩;have cu:CP 164 #[.slice S.a1 S.ps.length S.c1,iv x.b,.agg u.vs.toArray] w13.drew (λ r w'=>r=iv (LD S.ps x.b u)/\aA w13.drew w' []):=NT (h.av s14.av).ps h.h1 hs.ps hu x.b
     by_cases g1:x.a=-1
     ·refine cT (by simpa using g1) ⟨_,_,_,s14.ag 2 rfl 0,x.b,s14.ag 0 rfl 1,u,s14.cellsIn 1 rfl,x.c,s14.ag 0 rfl 2,aj cu ?_⟩;rintro v w15 ⟨rfl,c15⟩;have s15:=s14.quiet c15;exact⟨_,rfl,s15.ag 0 rfl 2,by rw[rD,dT g1,Bool.true_or,Bool.true_and],s15⟩
     refine cF (by simpa using g1) ⟨x.a,s14.ag 0 rfl 0,?_⟩
     by_cases g2:x.a=(n:Int)
     ·refine cT (by simpa using g2) ⟨_,_,_,s14.ag 2 rfl 0,x.b,s14.ag 0 rfl 1,u,s14.cellsIn 1 rfl,x.c,s14.ag 0 rfl 2,aj cu ?_⟩;rintro v w15 ⟨rfl,c15⟩;have s15:=s14.quiet c15;exact⟨_,rfl,s15.ag 0 rfl 2,by rw[rD,dT g2,Bool.or_true,Bool.true_and],s15⟩
     ·exact cF (by simpa using g2) ⟨by rw[rD,dF g1,dF g2]; rfl,s14⟩
   ·obtain rfl:S.cp.length=k:=by omega
    rw[List.take_length] at ha;exact cF (dF hlt) ⟨by rw[cD,if_pos hq,hw,ha]; rfl,s11.av⟩
 ·have s10:=s9.quiet (aA.drew w9 []);refine⟨_,s10.cellsIn 2 rfl,_,_,_,s10.ag 3 rfl 0,aj (jd (h.av s10.av).ps (by omega)) ?_⟩;rintro v w17 ⟨rfl,c17⟩;have s17:=s10.quiet c17;refine⟨_,rfl,s17.cellsIn 2 rfl,aj (uh _ u _) ?_⟩;rintro v w18 ⟨rfl,c18⟩;have s18:=s17.quiet c18;refine⟨_,rfl,?_⟩
  cases hw:within u (aQ S.ps) with
  | false=>exact cT rfl ⟨rfl,s18.au [2,3,4]⟩
  | true =>
   refine cF rfl ⟨_,_,_,_,_,_,_,_,_,_,_,_,s18.cellsIn 3 rfl,_,s18.cellsIn 0 rfl,_,s18.cellsIn 2 rfl,_,s18.cellsIn 1 rfl,aj (Ip (h.av s18.av) hb _ _) ?_⟩;rintro v w19 ⟨rfl,c19⟩;have s19:=s18.quiet c19;refine⟨_,rfl,s19.cellsIn 1 rfl,aj (uh _ _ _) ?_⟩;rintro v w20 ⟨rfl,c20⟩;exact⟨_,rfl,by rw[Bool.true_and],(s19.quiet c20).au [2,3,4]⟩
theorem pK{w:World}{S:Se}(h:S.In w)(hs:S.Ok){n:Nat}{b:Br}(hb:S.bd[n]?=some b)(u:I6) :
  CP 75 #[.agg S.arr,iv n,.agg u.vs.toArray] w (λ r w'=>r=iv (cD S n b u)/\aA w w' []):=by
 refine vq ?_;unfold qY;refine(St.start w).one.ax S.arr λ r1 w1 s1=>s1.ax u.vs.toArray λ r2 w2 s2=>⟨_,_,_,_,_,_,_,_,_,_,_,_,s2.cellsIn 1 rfl,aj (oZ (h.av s2.av)) ?_⟩;rintro v w3 ⟨⟨e,rfl,he⟩,c3⟩;obtain rfl:=he.2 hs;have s3:=s2.quiet c3;refine⟨_,rfl,cF rfl ⟨_,_,_,_,_,_,_,_,_,_,_,_,s3.cellsIn 1 rfl,_,s3.cellsIn 0 rfl,aj (HD (h.av s3.av) hs hb u) ?_⟩⟩;rintro v w4 ⟨rfl,c4⟩;exact⟨_,rfl,rfl,(s3.quiet c4).av⟩
section
variable {b:Nat} {C:Ck} {w0 w:World} {B:aD}
theorem G8{p:I6}(h:nF p=true):I6.Le p 1000000:=tH.1 h
theorem Jy(hk:C.Ok){n:Nat}:∀ c∈qL C n,c.Ok:=λ c hc=>by
 obtain⟨x,hx,rfl⟩:=List.mem_map.1 hc;exact⟨G8 (hk.cp x hx),xy (hk.ca x hx) (by omega) n⟩
def kj(C:Ck)(n:Nat)(y:Br)(u:I6):Int :=
 if C.ov||C.dp.getD n false then 10 else if cD C.s n y u≠0 then cD C.s n y u else if CS y ⟨C.p,u⟩≠0 then CS y ⟨C.p,u⟩ else EM C.o.rule C.s y (qL C n) ⟨C.p,u⟩
def rA(C:Ck)(n:Nat)(u:I6):Ck:={ C with ask:=C.ask.set n u,bd:=C.bd.set n true }
theorem PC(s:St w0 w (Sep (dI b C++[B])))(hk:C.Ok){n:Nat}{y:Br}(hy:C.s.bd[n]?=some y)(u:I6) :
  CP 89 #[.pointer (some ⟨b,0,none⟩),iv n,.agg u.vs.toArray] w (λ r w'=>r=iv (kj C n y u)/\(if kj C n y u=0 then St w0 w' (Sep (dI b (rA C n u)++[B])) else St w0 w' (Sep (dI b C++[B])))):=by
 refine rH ?_;unfold mJ;have hn:=(List.getElem?_eq_some_iff.1 hy).1;have z:=hk.s.bd.l2; have z1:=hk.dp; have z2:=hk.ask; have z3:=hk.bd; have z4:=hk.cl;have bad:∀ {e:Int} {w' : World},e≠0->kj C n y u=e->St w0 w' (Sep (dI b C++[B]))->(iv e=iv (kj C n y u)/\(if kj C n y u=0 then St w0 w' (Sep (dI b (rA C n u)++[B])) else St w0 w' (Sep (dI b C++[B])))):=λ he hb hc=>by
  rw[hb,if_neg he]; exact⟨rfl,hc⟩
 refine s.ax u.vs.toArray λ r1 w1 s1=>?_;refine⟨_,s1.ag 1 rfl 18,?_⟩
 cases hov:C.ov with
 | true=>exact cT rfl (bad (by decide) (by rw[kj,hov]; rfl) s1.second)
 | false =>
 have rdO:∀ {w' : World} {L:List aD},St w0 w' (Sep (L++(dI b C++[B])))->C.Rd b w':=λ s=>((s.split _).second.split (dI b C)).first.imp yj;have rd1:C.Rd b w1:=rdO (L:=[_]) s1;refine cF rfl (aj (E7 rd1 n) ?_);rintro v w2 ⟨rfl,rfl⟩;refine⟨_,rfl,cF (by simp; omega) ?_⟩;have hx:C.dp[n]?=some (C.dp[n]'(by omega)):=gE (by omega);generalize C.dp[n]'(by omega)=x at hx;have hgx:C.dp.getD n false=x:=by rw[List.getD_eq_getElem?_getD,hx]; rfl
 obtain⟨q,hq,hcl⟩:=rd1.dp.at hx;refine⟨_,_,_,rd1.cell 17 rfl,ak hq ⟨by omega,by omega,x,hcl.1,?_⟩⟩
 cases x with
 | true=>exact cT rfl (bad (by decide) (by rw[kj,hgx]; simp) s1.second)
 | false =>
 have e0:kj C n y u=if cD C.s n y u≠0 then cD C.s n y u else if CS y ⟨C.p,u⟩≠0 then CS y ⟨C.p,u⟩ else EM C.o.rule C.s y (qL C n) ⟨C.p,u⟩:=by rw[kj,hov,hgx]; rfl
 have s2:=s1.quiet (aA.drew w2 []);refine cF rfl ⟨C.p,s2.aF 1 9 rfl rfl,u,s2.cellsIn 0 rfl,s2.ax Ai.cells.toArray λ r2 w3 s3=>⟨s3.cellsIn 1 rfl,s3.aF 2 9 rfl rfl,s3.ay 0 rfl (Ch.mk C.p u).cells rfl (Ch.one _) λ w4 s4=>?_⟩⟩;have s5:=s4.quiet (aA.drew w4 []);have inC:∀ {w' : World} {L:List aD} {i:Nat},St w0 w' (Sep L)->L[i]?=some (held C.In)->C.In w':=λ s e=>s.bK _ e;have i5:=(inC s5 (i:=7) rfl).s;refine⟨_,_,_,_,_,_,_,_,_,_,_,_,s5.aF 2 0 rfl rfl,u,s5.cellsIn 1 rfl,aj (pK i5 hk.s hy u) ?_⟩;rintro v w5 ⟨rfl,c5⟩;have s6:=(s5.quiet c5);refine⟨_,rfl,?_⟩
 by_cases h1:cD C.s n y u=0
 ·rw[if_neg (by simpa using h1)] at e0;have hu:I6.Le u 4:=by
   unfold cD at h1
   split at h1
   ·rename_i h; exact It h
   ·cases h1
  have hc:(Ch.mk C.p u).Ok:=⟨G8 hk.p,hu⟩;have s7:=s6.quiet (aA.drew w5 []);have i7:Jb w5.drew C.s:=⟨(inC s7 (i:=7) rfl).s,hk.s⟩;have a7:=s7.aF (vs:=C.s.arr.toList) 2 0 rfl rfl;have b7:af w5.drew ⟨r2,0,none⟩ 0 (C.p.on u.vs):=s7.cellsIn 0 rfl;refine cF (by rw[h1]; rfl) ⟨_,_,_,_,_,_,_,_,_,_,_,_,a7,C.p,u,b7,?_⟩;have h7:=Je i7 hy hc;refine aj h7 ?_;rintro v w6 ⟨rfl,c6⟩;have s8:=(s7.quiet c6).quiet (aA.drew w6 []);refine⟨_,rfl,?_⟩
  by_cases h2:CS y ⟨C.p,u⟩=0
  ·rw[if_neg (by simpa using h2)] at e0;have rd8:C.Rd b w6.drew:=rdO (L:=[_,_]) s8;refine cF (by rw[h2]; rfl) ⟨_,_,_,_,_,_,_,_,_,_,_,_,s8.aF 2 0 rfl rfl,_,s8.ag 2 rfl 7,C.p,u,s8.cellsIn 0 rfl,aj (uI rd8 hk hn) ?_⟩;rintro v w7 ⟨a',c',rfl,k7⟩;have s9:St w0 w7 (Sep (_ :: _)):=s8.and k7;have hcap:(qL C n).length<=c':=(St.mU s9).1;have hlen:(qL C n).length=C.cl.length:=by simp[qL]
   have i9:Jb w7 C.s:=⟨(inC s9 (i:=8) rfl).s,hk.s⟩;refine⟨_,_,_,rfl,s9.cellsIn 1 rfl,s9.ag 3 rfl 7,s9.aF 3 0 rfl rfl,aj (Jc i9 hy (St.rd Ch.len s9) hcap (by omega) (Jy hk) hc C.o.rule) ?_⟩;rintro v w8 ⟨rfl,c8⟩;have s10:=(s9.quiet c8);refine⟨_,rfl,?_⟩
   by_cases h3:EM C.o.rule C.s y (qL C n) ⟨C.p,u⟩=0
   ·have s11:=s10.quiet (aA.drew w8 []);obtain⟨g1,e1⟩:=(s11.out 4 rfl).mg (by omega);obtain⟨g2,e2⟩:=(s11.out 5 rfl).mg (by omega);refine cF (by rw[h3]; rfl) ⟨_,_,_,s11.ag 3 rfl 15,_,_,_,s11.ag 3 rfl 16,u,s11.cellsIn 2 rfl,ak e1 ⟨by omega,by omega,?_⟩⟩;rw[Int.toNat_natCast];have t1:=s11.out 4 rfl;rw[e1] at t1;refine St.Bi cG (x:=u) u.one t1 (i:=n) (by omega) λ w9 s12=>ak e2 ⟨by omega,by omega,?_⟩;have t2:=(s12.back (show 4<10 by decide)).out 5 rfl;rw[e2] at t2;refine St.iV (v:=.bool) (x:=true) rfl t2 (i:=n) (by omega) λ w10 s13=>?_;have s14:=s13.back (show 5<10 by decide);rw[<- e1,<- e2] at s14;have eb:kj C n y u=0:=by rw[e0,h3]
    rw[eb];refine⟨rfl,?_⟩;rw[if_pos rfl];have eC:(rA C n u).cells=C.cells:=by simp[rA,Ck.cells]
    show St w0 w10 (Sep [ai b (rA C n u).cells.toArray 98,_,_,_,_,_,B]);rw[eC]; exact s14.au [3,4,5,6,7,8,9]
   ·exact cT (by simpa using h3) (bad h3 e0 (s10.au [3,4,5,6,7,8,9]))
  ·rw[if_pos (by simpa using h2)] at e0;exact cT (by simpa using h2) (bad h2 e0 ((s7.quiet c6).au [2,3,4,5,6,7,8]))
 ·rw[if_pos (by simpa using h1)] at e0;exact cT (by simpa using h1) (bad h1 e0 (s6.au [2,3,4,5,6,7,8]))
end
structure Bd where
 x:Xv
 has:Bool
 out:Bool
def Bd.cells(b:Bd):List Value:=b.x.cells++[.bool b.has,.bool b.out]
theorem Bd.len(b:Bd):b.cells.length=11:=rfl
def bF:Bd:=⟨cI,false,false⟩
structure Sx where
 o:Po
 ph:Int
 s:Se
 k:Option Addr
 bd:List Bd
 dec:Int
 cnt:Int
 dig:Int
def Sx.cells(S:Sx):List Value:=S.o.cells++(iv S.ph :: (S.s.arr.toList++(.pointer S.k :: (S.bd.flatMap Bd.cells++[.int .u64 S.dec,iv S.cnt,.int .u64 S.dig]))))
theorem Sx.len{S:Sx}(h:S.bd.length=8):S.cells.length=101:=by
 unfold Sx.cells;simp only[List.length_append,List.length_cons,List.length_nil,bx Bd.len,h];rfl
theorem bB{l:List Bd}(h:l.length=8):∃ a b c d e f g i,l=[a,b,c,d,e,f,g,i]:=by
 match l,h with
 | [a,b,c,d,e,f,g,i],_=>exact⟨a,b,c,d,e,f,g,i,rfl⟩
theorem Ht{S:Sx}(h:S.bd.length=8){i:Nat}(hi:i<8){y:Bd}(hy:S.bd[i]?=some y)(x:Xv) :
  S.cells.take (10+i*11)++x.cells++S.cells.drop (10+i*11+9)=({ S with bd:=S.bd.set i { y with x:=x } }:Sx).cells:=by
 obtain⟨o,ph,s,k,bd,dec,cnt,dig⟩:=S;obtain⟨b0,b1,b2,b3,b4,b5,b6,b7,rfl⟩:=bB h
 match i,hi with
 | 0,_|1,_|2,_|3,_|4,_|5,_|6,_|7,_=>cases hy; rfl
theorem Hs{S:Sx}(h:S.bd.length=8){i:Nat}(hi:i<8){y:Bd}(hy:S.bd[i]?=some y)(v:Bool) :
  S.cells.toArray.setIfInBounds (10+i*11+9) (.bool v)=({ S with bd:=S.bd.set i { y with has:=v } }:Sx).cells.toArray:=by
 obtain⟨o,ph,s,k,bd,dec,cnt,dig⟩:=S;obtain⟨b0,b1,b2,b3,b4,b5,b6,b7,rfl⟩:=bB h
 match i,hi with
 | 0,_|1,_|2,_|3,_|4,_|5,_|6,_|7,_=>cases hy; rfl
theorem NO{S:Sx}(h:S.bd.length=8){i:Nat}(hi:i<8){y:Bd}(hy:S.bd[i]?=some y)(v:Bool) :
  S.cells.toArray.setIfInBounds (10+i*11+10) (.bool v)=({ S with bd:=S.bd.set i { y with out:=v } }:Sx).cells.toArray:=by
 obtain⟨o,ph,s,k,bd,dec,cnt,dig⟩:=S;obtain⟨b0,b1,b2,b3,b4,b5,b6,b7,rfl⟩:=bB h
 match i,hi with
 | 0,_|1,_|2,_|3,_|4,_|5,_|6,_|7,_=>cases hy; rfl
theorem N2(b i:Nat):Addr.add ⟨b,10,none⟩ (((i:Nat):Int).toNat*11)=⟨b,10+i*11,none⟩:=by rw[bw,Int.toNat_natCast]
def vN(y:Bd):Bd:={ y with x:=cI,has:=false }
def aX(S:Sx)(i:Nat):Sx:={ S with bd:=S.bd.set i (vN (S.bd.getD i bF)) }
theorem Cs{w0 w:World}{b:Nat}{S:Sx}{m:List aD}(s:St w0 w (Sep (ai b S.cells.toArray 80 :: m)))(h:S.bd.length=8){i:Nat}(hi:i<8) :
  CP 93 #[.pointer (some ⟨b,0,none⟩),iv i] w (λ r w'=>r=.tuple #[]/\St w0 w' (Sep (ai b (aX S i).cells.toArray 80 :: m))):=by
 refine qD ?_;unfold lu;have hy:S.bd[i]?=some (S.bd[i]'(by omega)):=gE (by omega);have hd:S.bd.getD i bF=S.bd[i]'(by omega):=by rw[List.getD_eq_getElem?_getD,hy]; rfl
 generalize S.bd[i]'(by omega)=y at hy hd;have s1:=s.quiet (aA.drew w []);have hsz:S.cells.toArray.size=101:=by simpa using Sx.len h
 refine⟨by omega,by omega,?_⟩;rw[N2];refine s1.j7 0 (10+i*11) rfl (vs:=cI.cells) ({ S with bd:=S.bd.set i { y with x:=cI } }:Sx).cells.toArray (by rw[hsz,Xv.len]; omega) (Xv.one _) (by rw[Xv.len]; exact congrArg List.toArray (Ht h hi hy cI)) λ w1 s2=>⟨by omega,by omega,?_⟩;rw[bw];let S1:Sx:={ S with bd:=S.bd.set i { y with x:=cI } };have h1:S1.bd.length=8:=by simpa[S1] using h
 have hy1:S1.bd[i]?=some { y with x:=cI }:=by
  show(S.bd.set i _)[i]?=_;rw[List.getElem?_set_self (by omega)]
 have hsz1:S1.cells.toArray.size=101:=by simpa using Sx.len h1
 refine s2.aJ 0 rfl (j:=10+i*11+9) (by show _<S1.cells.toArray.size; rw[hsz1]; omega) rfl λ w2 s3=>⟨rfl,?_⟩;have e:=Hs h1 hi hy1 false;have e2:({ S1 with bd:=S1.bd.set i { ({ y with x:=cI }:Bd) with has:=false } }:Sx)=aX S i:=by
  unfold aX;rw[hd];show({ S with bd:=(S.bd.set i _).set i _ }:Sx)=_;rw[List.set_set]; rfl
 rw[e2] at e;rw[<- e];exact s3
def vO(a b c:Int)(d:I6)(e:ByteArray)(f:Int)(w:World)(K:KP):=an w (.cells (iv a :: iv b :: iv c :: d.on [.string e,.int .u64 f]:List Value).toArray 36) λ a b=>∃ c:Bool->qW,(∀ d e,c e d->∀ f:qv,cond e (K (iv 2) d) (∃ e:Bool->qW,(∀ f g,e g f->∀ h:qv,cond g (K (iv 4) f) (∃ g:Bool->qW,(∀ h i,g i h->∀ j:qv,cond i (K (iv 3) h) (K qz h))/\∃ h,f.cell? (qd a 9)=some (.string h)/\cond (decide (((h.size:Nat):Int)>(4000:Int))) (g true f) (∃ h i j,∃ k:I6,∃ l m,af f (qd a 0) 0 (iv h :: iv i :: iv j :: k.on [.string l,.int .u64 m])/\CC 30 #[.agg (iv h :: iv i :: iv j :: k.on [.string l,.int .u64 m]:List Value).toArray] f λ f h=>∃ i,f=.returned (.string i)/\g (decide (((i.size:Nat):Int)>(4000:Int))) h)))/\∃ f,d.cell? (qd a 1)=some (iv f)/\cond (decide (f<0)) (e true d) (∃ f,d.cell? (qd a 1)=some (iv f)/\cond (decide (f>=8)) (e true d) (∃ f,d.cell? (qd a 2)=some (iv f)/\cond (decide (f<0)) (e true d) (∃ f,d.cell? (qd a 2)=some (iv f)/\cond (decide (f>=30)) (e true d) (∃ f:I6,af d (qd a 3) 0 f.vs/\CC 47 #[.agg f.vs.toArray] d λ d f=>∃ g,d=.returned (iv g)/\e (g !=0) f))))))/\∃ d,b.drew.cell? (qd a 0)=some (iv d)/\CC 45 #[iv d] b.drew λ b d=>∃ e,b=.returned (.string e)/\cond (e.toList==(bs []).toList) (c true d) (∃ b e f,∃ g:I6,∃ h i,af d (qd a 0) 0 (iv b :: iv e :: iv f :: g.on [.string h,.int .u64 i])/\∃ j k l,∃ m:I6,∃ n o,af d (qd a 0) 0 (iv j :: iv k :: iv l :: m.on [.string n,.int .u64 o])/\CC 46 #[.agg (iv j :: iv k :: iv l :: m.on [.string n,.int .u64 o]:List Value).toArray] d λ d j=>∃ k l m,∃ n:I6,∃ o p,d=.returned (.agg (iv k :: iv l :: iv m :: n.on [.string o,.int .u64 p]:List Value).toArray)/\af j (qd a 0) 0 (iv b :: iv e :: iv f :: g.on [.string h,.int .u64 i])/\c (!((b==k)&&((e==l)&&((f==m)&&((I6.beq g n)&&((h==o)&&((i==p)&&true))))))) j)
theorem yw{n1 n2 n3 u1 s1 n4 w K}(h:vO n1 n2 n3 u1 s1 n4 w K):CP 24 #[.agg (iv n1 :: iv n2 :: iv n3 :: u1.on [.string s1,.int .u64 n4]:List Value).toArray] w K:=ah (az [(12,[(3,.s .bool)]),(51,[(14,.s .bool)]),(207,[(39,.s .bool)])]) func24 (by kernel_rfl) (by kernel_rfl) h
def sV(a b c:Int)(d:I6)(e:ByteArray)(f:Int)(w:World)(K:KP):=an w (.cells (iv a :: iv b :: iv c :: d.on [.string e,.int .u64 f]:List Value).toArray 36) λ a b=>∃ c d e,∃ f:I6,∃ g h,af b (qd a 0) 0 (iv c :: iv d :: iv e :: f.on [.string g,.int .u64 h])/\CC 24 #[.agg (iv c :: iv d :: iv e :: f.on [.string g,.int .u64 h]:List Value).toArray] b λ b c=>∃ d,b=.returned (iv d)/\cond (d !=0) (K (.tuple #[.string (bs []),iv d]) c) (∃ b d e,∃ f:I6,∃ g h,af c (qd a 0) 0 (iv b :: iv d :: iv e :: f.on [.string g,.int .u64 h])/\CC 30 #[.agg (iv b :: iv d :: iv e :: f.on [.string g,.int .u64 h]:List Value).toArray] c λ a b=>∃ c,a=.returned (.string c)/\K (.tuple #[.string c,qz]) b)
theorem wN{n1 n2 n3 u1 s1 n4 w K}(h:sV n1 n2 n3 u1 s1 n4 w K):CP 11 #[.agg (iv n1 :: iv n2 :: iv n3 :: u1.on [.string s1,.int .u64 n4]:List Value).toArray] w K:=ah (az []) func11 (by kernel_rfl) (by kernel_rfl) h
def oa(a:Int)(b:ByteArray)(w:World)(K:KP):=CC 32 #[.int .u64 a,iv 8] w λ a c=>∃ d,a=.returned (.string d)/\CC 32 #[.int .u64 (IntKind.u64.wrap ((b.size:Nat):Int)),iv 8] c λ a c=>∃ e,a=.returned (.string e)/\((d.size+e.size:Nat):Int)<=IntKind.i64.max/\(((d++e).size+b.size:Nat):Int)<=IntKind.i64.max/\CC 31 #[.string ((d++e)++b)] c λ a b=>∃ c,a=.returned (.int .u64 c)/\K (.int .u64 c) b
theorem sP{n1 s1 w K}(h:oa n1 s1 w K):CP 12 #[.int .u64 n1,.string s1] w K:=ah (az []) func12 (by kernel_rfl) (by kernel_rfl) h
def yx(a:Int)(w:World)(K:KP):=an w (.cells #[.string (bs []),.string (bs []),.string (bs []),.string (bs []),.string (bs []),.string (bs []),.string (bs []),.string (bs []),.string (bs []),.string (bs []),.string (bs [])] 148) λ b c=>aK (qd b 0) 0 [.string (bs []),.string (bs [115,97,108,101]),.string (bs [100,101,109,97,110,100]),.string (bs [114,111,117,110,100]),.string (bs [115,116,111,112]),.string (bs [98,105,100]),.string (bs [119,105,116,104,100,114,97,119]),.string (bs [100,105,115,113,117,97,108,105,102,121]),.string (bs [114,101,114,117,110]),.string (bs [99,108,111,115,101]),.string (bs [100,101,99,105,100,101])] c λ c=>∃ d:Bool->qW,(∀ e f,d f e->∀ g:qv,cond f (K (.string (bs [])) e) (0<=a/\a<11/\∃ f,e.cell? (Addr.add (qd b 0) ((a).toNat*1))=some (.string f)/\K (.string f) e))/\cond (decide (a<1)) (d true c) (d (decide (a>10)) c)
theorem z7{n1 w K}(h:yx n1 w K):CP 45 #[iv n1] w K:=ah (az [(14,[(10,.s .bool)])]) func45 (by kernel_rfl) (by kernel_rfl) h
def yy(a b c:Int)(d:I6)(e:ByteArray)(f:Int)(w:World)(K:KP):=an w (.cells (iv a :: iv b :: iv c :: d.on [.string e,.int .u64 f]:List Value).toArray 36) λ a b=>an b (.cells #[qz,qz,qz,qz,qz,qz,qz,qz,qz,.string (bs []),.int .u64 0] 36) λ b c=>∃ d,c.cell? (qd a 0)=some (iv d)/\CC 59 #[iv d] c λ c d=>∃ e,c=.returned (iv e)/\∃ c,d.cell? (qd a 0)=some (iv c)/\an d (.cells #[qz,qz,qz,qz,qz,qz,qz,qz,qz,.string (bs []),.int .u64 0] 36) λ d f=>aK (qd d 0) 0 [iv c,qz,qz,qz,qz,qz,qz,qz,qz,.string (bs []),.int .u64 0] f λ c=>∃ f:qW,(∀ g,f g->∀ h:qv,∃ h:qW,(∀ i,h i->∀ j:qv,∃ j:qW,(∀ k,j k->∀ l:qv,∃ l:qW,(∀ m,l m->∀ n:qv,∃ n:qW,(∀ o,n o->∀ p:qv,∃ p q r,∃ s:I6,∃ t u,af o (qd d 0) 0 (iv p :: iv q :: iv r :: s.on [.string t,.int .u64 u])/\aK (qd b 0) 0 (iv p :: iv q :: iv r :: s.on [.string t,.int .u64 u]) o λ o=>∃ p q r,∃ s:I6,∃ t u,af o (qd b 0) 0 (iv p :: iv q :: iv r :: s.on [.string t,.int .u64 u])/\K (.agg (iv p :: iv q :: iv r :: s.on [.string t,.int .u64 u]:List Value).toArray) o)/\cond ((ry .i64 e 16) !=(0:Int)) (∃ b,m.cell? (qd a 10)=some (.int .u64 b)/\aM m (qd d 10) (.int .u64 b) λ b=>n b) (n m))/\cond ((ry .i64 e 8) !=(0:Int)) (∃ b,k.cell? (qd a 2)=some (iv b)/\aM k (qd d 2) (iv b) λ b=>l b) (l k))/\cond ((ry .i64 e 4) !=(0:Int)) (∃ b,i.cell? (qd a 9)=some (.string b)/\aM i (qd d 9) (.string b) λ b=>j b) (j i))/\cond ((ry .i64 e 2) !=(0:Int)) (∃ b:I6,af g (qd a 3) 0 b.vs/\aK (qd d 3) 0 b.vs g λ b=>h b) (h g))/\cond ((ry .i64 e 1) !=(0:Int)) (∃ b,c.cell? (qd a 1)=some (iv b)/\aM c (qd d 1) (iv b) λ a=>f a) (f c)
theorem z8{n1 n2 n3 u1 s1 n4 w K}(h:yy n1 n2 n3 u1 s1 n4 w K):CP 46 #[.agg (iv n1 :: iv n2 :: iv n3 :: u1.on [.string s1,.int .u64 n4]:List Value).toArray] w K:=ah (az [(15,[]),(31,[]),(63,[]),(127,[]),(255,[])]) func46 (by kernel_rfl) (by kernel_rfl) h
def vP(a b c:Int)(d:I6)(e:ByteArray)(f:Int)(w:World)(K:KP):=an w (.cells (iv a :: iv b :: iv c :: d.on [.string e,.int .u64 f]:List Value).toArray 36) λ a b=>∃ c,b.cell? (qd a 0)=some (iv c)/\CC 59 #[iv c] b λ b c=>∃ d,b=.returned (iv d)/\∃ b,c.cell? (qd a 0)=some (iv b)/\CC 60 #[.int .u64 (IntKind.u64.wrap b)] c λ b c=>∃ e,b=.returned (.string e)/\∃ b:ByteArray->qW,(∀ f g,b g f->∀ h:qv,∃ h:ByteArray->qW,(∀ i j,h j i->∀ k:qv,∃ k:ByteArray->qW,(∀ l m,k m l->∀ n:qv,∃ n:ByteArray->qW,(∀ o p,n p o->∀ q:qv,∃ q:ByteArray->qW,(∀ r s,q s r->∀ t:qv,K (.string s) r)/\cond ((ry .i64 d 16) !=(0:Int)) (∃ r,o.cell? (qd a 10)=some (.int .u64 r)/\CC 60 #[.int .u64 r] o λ r s=>∃ t,r=.returned (.string t)/\((p.size+t.size:Nat):Int)<=IntKind.i64.max/\q (p++t) s) (q p o))/\cond ((ry .i64 d 4) !=(0:Int)) (∃ o,l.cell? (qd a 9)=some (.string o)/\CC 61 #[.string o] l λ o p=>∃ q,o=.returned (.string q)/\((m.size+q.size:Nat):Int)<=IntKind.i64.max/\n (m++q) p) (n m l))/\cond ((ry .i64 d 2) !=(0:Int)) (∃ l:I6,af i (qd a 3) 0 l.vs/\∃ m:ByteArray->Int->qN,(∃ n,m j 0 i n)/\∀ o n p q,m p q o n->∀ r:qv,cond (decide (q<6)) (0<=q/\q<6/\∃ r,(l.vs.toArray:Array Value)[(q).toNat*1]?=some (iv r)/\CC 60 #[.int .u64 (IntKind.u64.wrap r)] o λ l r=>∃ s,l=.returned (.string s)/\((p.size+s.size:Nat):Int)<=IntKind.i64.max/\∃ l,l<n/\m (p++s) (IntKind.i64.wrap (q+1)) r l) (k p o)) (k j i))/\cond ((ry .i64 d 8) !=(0:Int)) (∃ i,f.cell? (qd a 2)=some (iv i)/\CC 60 #[.int .u64 (IntKind.u64.wrap i)] f λ i j=>∃ k,i=.returned (.string k)/\((g.size+k.size:Nat):Int)<=IntKind.i64.max/\h (g++k) j) (h g f))/\cond ((ry .i64 d 1) !=(0:Int)) (∃ d,c.cell? (qd a 1)=some (iv d)/\CC 60 #[.int .u64 (IntKind.u64.wrap d)] c λ a d=>∃ f,a=.returned (.string f)/\((e.size+f.size:Nat):Int)<=IntKind.i64.max/\b (e++f) d) (b e c)
theorem yz{n1 n2 n3 u1 s1 n4 w K}(h:vP n1 n2 n3 u1 s1 n4 w K):CP 30 #[.agg (iv n1 :: iv n2 :: iv n3 :: u1.on [.string s1,.int .u64 n4]:List Value).toArray] w K:=ah (az [(15,[(4,.s .str)]),(31,[(4,.s .str)]),(63,[(4,.s .str)]),(127,[(4,.s .str)]),(255,[(4,.s .str)]),(2026,[(4,.s .str),(37,.s (.int .i64))])]) func30 (by kernel_rfl) (by kernel_rfl) h
def qM(a:ByteArray)(w:World)(K:KP):=∃ b:Int->Int->qN,(∃ c,b 14695981039346656037 (0:Int) w c)/\∀ d c e f,b e f d c->∀ g:qv,cond (decide (f<((a.size:Nat):Int))) (0<=f/\aq a[(f).toNat]? λ a=>∃ g,g<c/\b (IntKind.u64.wrap ((QD .u64 e (IntKind.u64.wrap (a.toNat:Int)))*(1099511628211:Int))) (IntKind.i64.wrap (f+1)) d g) (K (.int .u64 e) d)
theorem uH{s1 w K}(h:qM s1 w K):CP 31 #[.string s1] w K:=ah (az [(58,[(3,.s (.int .u64)),(4,.s (.int .i64))])]) func31 (by kernel_rfl) (by kernel_rfl) h
def sQ(a b:Int)(w:World)(K:KP):=aP prog (Instr.makeSlice 113 (iv b) (iv b)) w λ b c=>∃ d e f,b=(.slice d e f)/\∃ b:Int->qN,(∃ g,b 0 c g)/\∀ c g h,b h c g->∀ i:qv,cond (decide (h<(e:Int))) (0<=(IntKind.i64.wrap ((8:Int)*h))/\aq d λ i=>0<=h/\h<(e:Int)/\aM c (Addr.add i ((h).toNat*1)) (.int .u8 (IntKind.u8.wrap (Int.fdiv a (2 ^ (min ((IntKind.i64.wrap ((8:Int)*h))).toNat IntKind.u64.bits))))) λ a=>∃ i,i<g/\b (IntKind.i64.wrap (h+1)) a i) (aP prog (convert 113 9 (.slice d e f)) c λ a b=>∃ c,a=(.string c)/\K (.string c) b)
theorem wJ{n1 n2 w K}(h:sQ n1 n2 w K):CP 32 #[.int .u64 n1,iv n2] w K:=ah (az [(58,[(11,.s (.int .i64))])]) func32 (by kernel_rfl) (by kernel_rfl) h
def sW(a:Int)(w:World)(K:KP):=cond (a==1) (K (iv 4) w) (cond (a==2) (K (iv 3) w) (cond (a==5) (K (iv 5) w) (∃ b:Bool->qW,(∀ c d,b d c->∀ e:qv,cond d (K (iv 1) c) (cond (a==8) (K (iv 8) c) (cond (a==10) (K (iv 16) c) (K qz c))))/\cond (a==6) (b (a==6) w) (b (a==7) w))))
theorem wO{n1 w K}(h:sW n1 w K):CP 59 #[iv n1] w K:=ah (az [(1727,[(10,.s .bool)])]) func59 (by kernel_rfl) (by kernel_rfl) h
def Bp(a:Int)(w:World)(K:KP):=∃ b:Int->OA->Nat->Nat->qN,(∃ c,b a none 0 0 w c)/\∀ a c d e f g,b d e f g a c->∀ h:qv,cond (decide (d>=128)) (an a (.cells #[.int .u8 (Sa .u8 (IntKind.u8.wrap d) (128:Int))] 5) λ h i=>aP prog (Builtin.append_ #[113,113] 113 #[.slice e f g,.slice (some (qd h 0)) 1 1]) i λ h i=>∃ j k l,h=(.slice j k l)/\0<=(7:Int)/\∃ h,h<c/\b (Int.fdiv d (2 ^ (min ((7:Int)).toNat IntKind.u64.bits))) j k l i h) (an a (.cells #[.int .u8 (IntKind.u8.wrap d)] 5) λ a b=>aP prog (Builtin.append_ #[113,113] 113 #[.slice e f g,.slice (some (qd a 0)) 1 1]) b λ a b=>∃ c d e,a=(.slice c d e)/\aP prog (convert 113 9 (.slice c d e)) b λ a b=>∃ c,a=(.string c)/\K (.string c) b)
theorem CK{n1 w K}(h:Bp n1 w K):CP 60 #[.int .u64 n1] w K:=ah (az [(28,[(0,.s (.int .u64)),(3,.s .slice)])]) func60 (by kernel_rfl) (by kernel_rfl) h
def Bo(a:ByteArray)(w:World)(K:KP):=CC 60 #[.int .u64 (IntKind.u64.wrap ((a.size:Nat):Int))] w λ b c=>∃ d,b=.returned (.string d)/\((d.size+a.size:Nat):Int)<=IntKind.i64.max/\K (.string (d++a)) c
theorem CJ{s1 w K}(h:Bo s1 w K):CP 61 #[.string s1] w K:=ah (az []) func61 (by kernel_rfl) (by kernel_rfl) h
theorem Si:hU prog 113 5 (.int .u8 0) 1 1:=hU.mk' underlying113 (by kernel_rfl) rfl (by decide)
theorem QB(n:Nat):IntKind.u8.wrap (n:Int)=((UInt8.ofNat (n%256)).toNat:Int):=by
 rw[IntKind.wrap_u8,ofNat_toNat]; omega
def jY(prev:Nat)(l:List UInt8):Nat:=GA (Fb 8 prev++Fb 8 l.length++l)
theorem J7(l:List UInt8):GA l<18446744073709551616:=by
 unfold GA;have h:∀ (l:List UInt8) (h:Nat),h<18446744073709551616->l.foldl iF h<18446744073709551616:=by
  intro l
  induction l with
  | nil=>exact λ h hh=>hh
  | cons b l ih=>exact λ h _=>ih _ (vS h b)
 exact h l _ (by decide)
theorem QA{n:Nat}(hs:n<=9223372036854775807):IntKind.u64.wrap (n:Int)=(n:Int):=IntWalk.u64_in _ (by omega)
theorem On(w:World)(x k:Nat)(hk:k<=8):CP 32 #[.int .u64 (x:Int),iv k] w (λ r w'=>r=sv (Fb k x)/\aA w w' []):=by
 refine wJ ?_;unfold sQ;refine Kl Si rfl x k hk (A:=λ a1 l1 c1 w2=>aP prog (convert 113 9 (.slice a1 l1 c1)) w2 λ e2 w4=>∃ (s1:ByteArray),e2=(.string s1)/\_) ?_;intro w2 g hc hg _;have own:=Iq hg (by rw[aV]; omega);rw[aV] at own;exact Hw (l:=Fb k x) underlying113 underlying5 underlying9 (by rw[aV]; exact own) ⟨_,rfl,rfl,hc⟩
theorem Py(w:World)(l:List UInt8)(hs:l.length<=9223372036854775807):CP 31 #[sv l] w (λ r w'=>r=.int .u64 (GA l:Nat)/\w' = w):=by
 refine uH ?_;unfold qM;refine⟨λ n1 n2 w1 m=>∃ i:Nat,n2=(i:Int)/\i<=l.length/\m=l.length-i/\w1=w/\n1=(((l.take i).foldl iF 14695981039346656037:Nat):Int)/\(l.take i).foldl iF 14695981039346656037<18446744073709551616,⟨l.length,0,rfl,by omega,by omega,rfl,by rw[List.take_zero,List.foldl_nil]; rfl,by rw[List.take_zero,List.foldl_nil]; omega⟩,?_⟩
 rintro w1 m n1 n2 ⟨i,rfl,hi,rfl,rfl,rfl,hlt'⟩ -;rw[gC]
 by_cases hlt:i<l.length
 ·refine cT (dT (by omega)) ⟨by omega,?_⟩;rw[Int.toNat_natCast,lR,gE hlt];refine⟨l.length-(i+1),by omega,i+1,inc hs hlt,by omega,rfl,rfl,?_,?_⟩
  ·rw[DA _ hlt',List.take_succ_eq_append_getElem (by omega),List.foldl_append,List.foldl_cons,List.foldl_nil]
  ·rw[List.take_succ_eq_append_getElem (by omega),List.foldl_append,List.foldl_cons,List.foldl_nil]; exact vS _ _
 ·refine cF (dF (by omega)) ⟨?_,rfl⟩;rw[List.take_of_length_le (by omega)]; rfl
theorem Gn(w:World)(x:Nat)(l:List UInt8)(hs:l.length<=4611686018427387904):CP 12 #[.int .u64 (x:Int),sv l] w (λ r w'=>r=.int .u64 (jY x l:Nat)/\aA w w' []):=by
 refine sP ?_;unfold oa;have hm:IntKind.i64.max=9223372036854775807:=rfl;refine aj (On w x 8 (by decide)) ?_;rintro v w1 ⟨rfl,c1⟩;refine⟨_,rfl,?_⟩;rw[gC,QA (by omega)];refine aj (On w1 _ 8 (by decide)) ?_;rintro v w2 ⟨rfl,c2⟩;refine⟨_,rfl,by rw[gC,gC,aV,aV,hm]; omega,?_⟩;rw[nU,nU,gC,List.length_append,aV,aV];refine⟨by rw[hm]; omega,aj (Py w2 _ (by simp only[List.length_append,aV]; omega)) ?_⟩;rintro v w3 ⟨rfl,rfl⟩;exact⟨_,rfl,rfl,c1.trans c2 (by simp)⟩
def wz:Nat->Nat->List UInt8
 | 0,x=>[UInt8.ofNat (x%256)]
 | k+1,x=>if x<128 then [UInt8.ofNat (x%256)] else UInt8.ofNat (x%128+128) :: wz k (x / 128)
def wA(x:Nat):List UInt8:=wz 9 x
theorem Bn:∀ (k x:Nat),(wz k x).length<=k+1
 | 0,_=>Nat.le_refl _
 | k+1,x=>by
  have:=Bn k (x / 128);unfold wz
  split<;>simp<;>omega
theorem lD(x:Nat):(wA x).length<=10:=Bn 9 x
def Bl(l:List UInt8):List UInt8:=wA l.length++l
theorem Ro:∀ a:Fin 256,Sa .u8 ((a.val:Nat):Int) 128=((UInt8.ofNat (a.val%128+128)).toNat:Int):=by decide +kernel
theorem M8(x:Nat):Sa .u8 (IntKind.u8.wrap (x:Int)) 128=((UInt8.ofNat (x%128+128)).toNat:Int):=by
 have h:=Ro ⟨x%256,Nat.mod_lt _ (by decide)⟩;simp only at h;rw[IntKind.wrap_u8,show(x:Int)%256=((x%256:Nat):Int) by omega,h,Nat.mod_mod_of_dvd _ (by decide)]
theorem Da{n:Int}{b:UInt8}(h:n=(b.toNat:Int)):(Value.int .u8 n)=fO b:=by rw[h]; rfl
theorem LC(w:World)(x:Nat)(hx:x<18446744073709551616):CP 60 #[.int .u64 (x:Int)] w (λ r w'=>r=sv (wA x)/\aA w w' []):=by
 refine CK ?_;unfold Bp;refine⟨λ n a l c w1 m=>∃ (y:Nat) (xs:List UInt8),n=(y:Int)/\y<128 ^ (m+1)/\m<=9/\xs.length+m=9/\l=xs.length/\xs++wz m y=wA x/\St w w1 (star (nI 5 1 (.slice a l c) xs.length (xs.map fO)) emp),⟨9,x,[],rfl,by omega,by omega,rfl,rfl,rfl,(((St.start w).Kv 5 1).swap)⟩,?_⟩
 rintro w1 m n a l c ⟨y,xs,rfl,hy,hm,hlen,rfl,he,hst⟩ -
 by_cases h128:128<=y
 ·refine cT (dT (by omega)) ?_;obtain⟨m',rfl⟩:∃ m',m=m' + 1:=by
   cases m with
   | zero=>simp at hy; omega
   | succ m'=>exact⟨m',rfl⟩
  refine By Si hst (news:=[fO (UInt8.ofNat (y%128+128))]) rfl (by simp[fO,Value.oneCell']) (by omega) (by omega) (λ a2 c2 w3 h3=>?_) (by rw[Da (M8 y)]);refine⟨by decide,m',by omega,y / 128,xs++[UInt8.ofNat (y%128+128)],?_,?_,by omega,by simp; omega,by simp,?_,by simpa using h3⟩
  ·rw[show(2:Int) ^ (min (7:Int).toNat IntKind.u64.bits)=128 from rfl,Int.fdiv_eq_ediv_of_nonneg _ (by omega)]; omega
  ·rw[Nat.pow_succ] at hy; omega
  ·rw[<- he]
   conv=>rhs; unfold wz
   rw[if_neg (by omega)]
   simp
 ·refine cF (dF (by omega)) ?_;have hu:wz m y=[UInt8.ofNat (y%256)]:=by
   cases m with
   | zero=>rfl
   | succ m'=>unfold wz; rw[if_pos (by omega)]
  refine By Si hst (news:=[fO (UInt8.ofNat (y%256))]) rfl (by simp[fO,Value.oneCell']) (by omega) (by omega) (λ a2 c2 w3 h3=>?_) (by rw[Da (QB y)]);have h4:St w w3 (star (nI 5 1 (.slice a2 (xs.length+1) c2) (wA x).length ((wA x).map fO)) emp):=by
   rw[<- he,hu]; simpa using h3
  exact Lx underlying113 underlying5 underlying9 h4 ⟨_,rfl,rfl,h4.av⟩
theorem ua(w:World)(n:Int)(h:0<=n/\n<=9223372036854775807):CP 60 #[.int .u64 (IntKind.u64.wrap n)] w (λ r w'=>r=sv (wA n.toNat)/\aA w w' []):=by
 have e:IntKind.u64.wrap n=((n.toNat:Nat):Int):=by rw[IntWalk.u64_in _ (by omega)]; omega
 rw[e];exact LC w _ (by omega)
theorem Qx(w:World)(l:List UInt8)(hs:l.length<=4611686018427387904):CP 61 #[sv l] w (λ r w'=>r=sv (Bl l)/\aA w w' []):=by
 refine CJ ?_;unfold Bo;have hm:IntKind.i64.max=9223372036854775807:=rfl;rw[gC];refine aj (ua w _ (by omega)) ?_;rintro v w1 ⟨rfl,c1⟩;have:=lD l.length;refine⟨_,rfl,?_,?_,c1⟩
 ·rw[gC,hm,Int.toNat_natCast]; omega
 ·rw[nU]; rfl
structure Ev where
 kind:Int
 bidder:Int
 round:Int
 want:I6
 text:List UInt8
 digest:Int
def Ev.cells(e:Ev):List Value:=iv e.kind :: (iv e.bidder :: (iv e.round :: (e.want.on [sv e.text,.int .u64 e.digest])))
def Ev.v(e:Ev):Value:=.agg e.cells.toArray
structure Ev.In (e:Ev):Prop where
 d:0<=e.digest/\e.digest<18446744073709551616
theorem Ev.one(e:Ev):∀ v∈e.cells,v.oneCell' = true:=by
 intro v hv;simp only[Ev.cells,I6.on,List.mem_cons,List.mem_nil_iff,or_false] at hv;rcases hv with rfl|rfl|rfl|rfl|rfl|rfl|rfl|rfl|rfl|rfl|rfl<;>rfl
def rO(k:Int):Int:=if k=1 then 4 else if k=2 then 3 else if k=5 then 5 else if k=6\/k=7 then 1 else if k=8 then 8 else if k=10 then 16 else 0
theorem Dv(w:World)(n:Int):CP 59 #[iv n] w (λ r w'=>r=iv (rO n)/\w' = w):=by
 refine wO ?_;unfold sW
 by_cases h1:n=1
 ·exact cT (by simpa using h1) ⟨by simp[rO,h1],rfl⟩
 refine cF (by simpa using h1) ?_
 by_cases h2:n=2
 ·exact cT (by simpa using h2) ⟨by simp[rO,h2],rfl⟩
 refine cF (by simpa using h2) ?_
 by_cases h5:n=5
 ·exact cT (by simpa using h5) ⟨by simp[rO,h5],rfl⟩
 refine cF (by simpa using h5) ⟨λ b w1=>w1=w/\b=decide (n=6\/n=7),?_,?_⟩
 ·rintro w1 b ⟨rfl,rfl⟩ -
  by_cases h67:n=6\/n=7
  ·exact cT (by simpa using h67) ⟨by simp[rO,h1,h2,h5,h67],rfl⟩
  refine cF (dF h67) ?_
  by_cases h8:n=8
  ·exact cT (by simpa using h8) ⟨by simp[rO,h8],rfl⟩
  refine cF (by simpa using h8) ?_
  by_cases h10:n=10
  ·exact cT (by simpa using h10) ⟨by simp[rO,h10],rfl⟩
  ·exact cF (by simpa using h10) ⟨by simp[rO,h1,h2,h5,h67,h8,h10],rfl⟩
 ·by_cases h6:n=6
  ·exact cT (by simpa using h6) ⟨rfl,by simp[h6]⟩
  ·refine cF (by simpa using h6) ⟨rfl,?_⟩
   by_cases h7:n=7
   ·simp[h7]
   ·simp[h6,h7]
def fB(k:Int):Bool:=decide (k=2\/k=5\/k=6\/k=7)
def fW(k:Int):Bool:=decide (k=2)
def fT(k:Int):Bool:=decide (k=1\/k=5)
def fR(k:Int):Bool:=decide (k=8)
def fD(k:Int):Bool:=decide (k=10)
theorem Dy(k:Int):(ry .i64 (rO k) 1 !=0)=fB k/\(ry .i64 (rO k) 2 !=0)=fW k/\(ry .i64 (rO k) 4 !=0)=fT k/\(ry .i64 (rO k) 8 !=0)=fR k/\(ry .i64 (rO k) 16 !=0)=fD k:=by
 by_cases h1:k=1
 ·subst h1; decide +kernel
 by_cases h2:k=2
 ·subst h2; decide +kernel
 by_cases h5:k=5
 ·subst h5; decide +kernel
 by_cases h6:k=6
 ·subst h6; decide +kernel
 by_cases h7:k=7
 ·subst h7; decide +kernel
 by_cases h8:k=8
 ·subst h8; decide +kernel
 by_cases h10:k=10
 ·subst h10; decide +kernel
 have e:rO k=0:=by simp[rO,h1,h2,h5,h6,h7,h8,h10]
 rw[e];simp only[fB,fW,fT,fR,fD,h1,h2,h5,h6,h7,h8,h10,or_self,decide_false]
 decide +kernel
def dO(e:Ev):Ev:=⟨e.kind,if fB e.kind then e.bidder else 0,if fR e.kind then e.round else 0,if fW e.kind then e.want else z6,if fT e.kind then e.text else [],if fD e.kind then e.digest else 0⟩
theorem OW(w:World)(e:Ev):CP 46 #[e.v] w (λ r w'=>r=(dO e).v/\aA w w' []):=by
 refine z8 ?_;unfold yy;let z:Ev:=⟨0,0,0,z6,[],0⟩;refine(St.start w).one.ax e.cells.toArray λ r1 w1 s1=>s1.ax z.cells.toArray λ r2 w2 s2=>?_;refine⟨_,s2.ag 1 rfl 0,aj (Dv w2 e.kind) ?_⟩;rintro v w3 ⟨rfl,rfl⟩;refine⟨_,rfl,_,s2.ag 1 rfl 0,s2.ax z.cells.toArray λ r3 w4 s3=>?_⟩;refine s3.ay 0 rfl ({ z with kind:=e.kind }:Ev).cells rfl (Ev.one _) λ w5 s5=>?_;obtain⟨g1,g2,g3,g4,g5⟩:=Dy e.kind;rw[g1,g2,g3,g4,g5];let P:Ev->World->Prop:=λ x w'=>St w w' (Sep [ai r3 x.cells.toArray 36,ai r2 z.cells.toArray 36,ai r1 e.cells.toArray 36,emp]);let b1:Ev:={ z with kind:=e.kind,bidder:=if fB e.kind then e.bidder else 0 };let b2:Ev:={ b1 with want:=if fW e.kind then e.want else z6 };let b3:Ev:={ b2 with text:=if fT e.kind then e.text else [] };let b4:Ev:={ b3 with round:=if fR e.kind then e.round else 0 };refine⟨P b1,?_,?_⟩
 rotate_left
 ·cases h:fB e.kind with
  | true =>
   refine cT rfl ⟨_,s5.ag 2 rfl 1,s5.aJ 0 rfl (by show 1<11; decide) rfl λ w6 s6=>?_⟩;show P b1 w6;have:b1={ z with kind:=e.kind,bidder:=e.bidder }:=by simp[b1,h]
   rw[this]; exact s6
  | false =>
   refine cF rfl ?_;have:b1={ z with kind:=e.kind }:=by simp[b1,h,z]
   show P b1 w5;rw[this]; exact s5
 rintro w6 s6 -;refine⟨P b2,?_,?_⟩
 rotate_left
 ·cases h:fW e.kind with
  | true =>
   refine cT rfl ⟨e.want,?_,?_⟩
   ·exact aY _ 0 λ j v hj=>by
     have hj6:=(List.getElem?_eq_some_iff.1 hj).1;have h6:j<6:=hj6;rw[bw,Nat.zero_add,s6.ag 2 rfl]
     match j,h6,hj with
     | 0,_,hj|1,_,hj|2,_,hj|3,_,hj|4,_,hj|5,_,hj=>simpa[Ev.cells,I6.on,I6.vs] using hj
   ·have a3:∀ {w' : World} {R:World->Prop} {x:Ev},P x w'->(∀ w'',P { x with want:=e.want } w''->R w'')->aK ⟨r3,3,none⟩ 0 e.want.vs w' R:=λ {w' R x} hp k=>by
     refine St.aJ hp 0 rfl (by show 3<11; decide) rfl λ w1 t1=>t1.aJ 0 rfl (by show 4<11; decide) rfl λ w2 t2=>t2.aJ 0 rfl (by show 5<11; decide) rfl λ w3 t3=>t3.aJ 0 rfl (by show 6<11; decide) rfl λ w4 t4=>t4.aJ 0 rfl (by show 7<11; decide) rfl λ w5 t5=>t5.aJ 0 rfl (by show 8<11; decide) rfl λ w6 t6=>k w6 t6
    refine a3 s6 λ w7 s7=>?_;have:b2={ b1 with want:=e.want }:=by simp[b2,h]
    show P b2 w7;rw[this]; exact s7
  | false =>
   refine cF rfl ?_;have:b2=b1:=by simp[b2,h,b1,z]
   show P b2 w6;rw[this]; exact s6
 rintro w7 s7 -;refine⟨P b3,?_,?_⟩
 rotate_left
 ·cases h:fT e.kind with
  | true =>
   refine cT rfl ⟨_,St.ag s7 2 rfl 9,St.aJ s7 0 rfl (by show 9<11; decide) rfl λ w6 s6=>?_⟩;have:b3={ b2 with text:=e.text }:=by simp[b3,h]
   show P b3 w6;rw[this]; exact s6
  | false =>
   refine cF rfl ?_;have:b3=b2:=by simp[b3,h,b2,b1,z]
   show P b3 w7;rw[this]; exact s7
 rintro w8 s8 -;refine⟨P b4,?_,?_⟩
 rotate_left
 ·cases h:fR e.kind with
  | true =>
   refine cT rfl ⟨_,St.ag s8 2 rfl 2,St.aJ s8 0 rfl (by show 2<11; decide) rfl λ w6 s6=>?_⟩;have:b4={ b3 with round:=e.round }:=by simp[b4,h]
   show P b4 w6;rw[this]; exact s6
  | false =>
   refine cF rfl ?_;have:b4=b3:=by simp[b4,h,b3,b2,b1,z]
   show P b4 w8;rw[this]; exact s8
 rintro w9 s9 -;refine⟨P (dO e),?_,?_⟩
 rotate_left
 ·cases h:fD e.kind with
  | true =>
   refine cT rfl ⟨_,St.ag s9 2 rfl 10,St.aJ s9 0 rfl (by show 10<11; decide) rfl λ w6 s6=>?_⟩;have:dO e={ b4 with digest:=e.digest }:=by simp[dO,h,b4,b3,b2,b1]
   show P (dO e) w6;rw[this]; exact s6
  | false =>
   refine cF rfl ?_;have:dO e=b4:=by simp[dO,h,b4,b3,b2,b1,z]
   show P (dO e) w9;rw[this]; exact s9
 rintro w10 s10 -;refine⟨_,_,_,(dO e).want,_,_,St.cellsIn s10 0 rfl,St.ay s10 1 rfl (dO e).cells rfl (Ev.one _) λ w11 s11=>?_⟩;exact⟨_,_,_,(dO e).want,_,_,s11.cellsIn 1 rfl,rfl,s11.av⟩
