import Derived.Test.YtjcfdidmajodiaaGreatDoorH16
set_option linter.unusedVariables false
set_option linter.defProp false
set_option maxRecDepth 100000
namespace Go.Proofs.YtjcfdidmajodiaaGreatDoor
open Go Go.Vc _root_.Go.Proofs.Tryz
def Rs.Bh(R:Rs)(i:Nat):Bd:=if i<R.out.length then ⟨R.ex.getD i cI,R.has.getD i false,R.out.getD i false⟩ else dG
def Rs.cL(R:Rs):Sx:={ o:=R.o,ph:=R.ph,s:=R.s,k:=none,bd:=(List.range 8).map R.Bh,dec:=R.dec,cnt:=R.cnt,dig:=R.dig }
structure QY (R:Rs):Prop where
 so:BL R.cL R.C
 n:R.ph≠0->R.out.length=R.s.bd.length
 n0:R.ph=0->R.out.length=0
 h:R.has.length=R.out.length
 e:R.ex.length=R.out.length
 cs:R.ph≠0->R.C.s=R.s
 ov:R.ph=1->R.C.ov=false
 dp:R.ph≠0->∀ i,i<R.out.length->R.C.dp.getD i false=R.out.getD i false
def Y5(w0:af)(R:Rs)(v:Ev)(M:List aI):KP:=λ r w'=>∃ R':Rs,r=.tuple #[.agg R'.cells.toArray,iv (cN R.cL R.C v)]/\St w0 w' (Sep (held R'.C.bF :: held R'.dR :: M))/\(cN R.cL R.C v=0->R'.cL.er=(bA R.cL R.C v).er/\R'.C.er=(cw R.cL R.C v).er/\R'.has.length=R'.out.length/\R'.ex.length=R'.out.length/\((v.kind=1/\R'.out.length=R'.s.bd.length/\R'.C.s=R'.s)\/(v.kind≠1/\R'.out.length=R.out.length/\R'.s=R.s/\R'.C.s=R.C.s)))/\(cN R.cL R.C v≠0->R'=R)
def oe{R:Rs}{i:Nat}(hi:i<8):R.cL.bd.getD i dG=R.Bh i:=by
 rw[aJ];show((((List.range 8).map R.Bh)[i]?).getD dG)=_;rw[gM _ hi]; rfl
def St.in3{w0 w:af}{A B D H M:aI}(s:St w0 w (star A (star B (star D (star H M))))):St w0 w (star H (star A (star B (star D M)))):=((s.eqv (bX.right (bX.right bX.pY))).eqv (bX.right bX.pY)).pY
def St.X4{w0 w:af}{A B D H M:aI}(s:St w0 w (star H (star A (star B (star D M))))):St w0 w (star A (star B (star D (star H M)))):=(s.pY.eqv (bX.right bX.pY)).eqv (bX.right (bX.right bX.pY))
def JZ{w0 w:af}{l:List aI}{r1:Nat}{R:Rs}{T:TypeId}(s:St w0 w (Sep l))(i:Nat)(e:l[i]?=some (aj r1 R.cells.toArray T)):aA w ⟨r1,9,none⟩ 0 R.C.cells:=bM _ 0 λ j v b=>by
 rw[bY,aL,s.ag i e];have a:j<19:=(aR.1 b).1
 match j,a with
 | 0,_|1,_|2,_|3,_|4,_|5,_|6,_|7,_|8,_|9,_|10,_|11,_|12,_|13,_|14,_|15,_|16,_|17,_|18,_=>exact b
def jd{α:Type}{T:List α}{i k:Nat}{v d:α}(b:k<T.length):(T.set k v).getD i d=if i=k then v else T.getD i d:=by
 rw[aJ,iW]
 by_cases h:k=i
 ·subst h; rw[ak rfl,ak rfl,ak b]; rfl
 ·rw[ah h,ah (λ a=>h a.symm),aJ]
def A6{R:Rs}{n:Nat}{x:Xv}{b:Bool}{ha:OA}{hc:Nat}{ea:OA}{ec:Nat}(h:R.has.length=R.out.length)(e:R.ex.length=R.out.length)(a:n<R.out.length):(R.AY n x b ha hc ea ec).cL={ R.cL with bd:=R.cL.bd.set n ⟨x,b,R.out.getD n false⟩ }:=by
 show({ o:=R.o,ph:=R.ph,s:=R.s,k:=none,bd:=(List.range 8).map (R.AY n x b ha hc ea ec).Bh,dec:=R.dec,cnt:=R.cnt,dig:=R.dig }:Sx)=_;unfold Rs.cL
 congr 1
 show _=((List.range 8).map R.Bh).set n _;rw[oU];refine dz λ i _=>?_;unfold Rs.Bh Rs.AY;show(if i<R.out.length then (⟨(R.ex.set n x).getD i cI,(R.has.set n b).getD i false,R.out.getD i false⟩:Bd) else dG)=_;rw[jd (by omega),jd (by omega)]
 by_cases hi:i=n
 ·subst hi; rw[ak a,ak rfl,ak rfl,ak rfl]
 ·rw[ah hi,ah hi,ah hi]
def TN{R:Rs}{n:Nat}{oa:OA}{oc:Nat}(a:n<R.out.length):({ R with out:=R.out.set n true,oa:=oa,oc:=oc }:Rs).cL={ R.cL with bd:=R.cL.bd.set n ⟨R.ex.getD n cI,R.has.getD n false,true⟩ }:=by
 unfold Rs.cL
 congr 1
 show _=((List.range 8).map R.Bh).set n _;rw[oU];refine dz λ i _=>?_;unfold Rs.Bh;show(if i<(R.out.set n true).length then (⟨R.ex.getD i cI,R.has.getD i false,(R.out.set n true).getD i false⟩:Bd) else dG)=_;rw[dN,jd a]
 by_cases hi:i=n
 ·subst hi; rw[ak a,ak rfl,ak rfl]
 ·rw[ah hi,ah hi]
def St.VY{w0 w:af}{A B D E H M:aI}(s:St w0 w (star H (star A (star B (star D (star E M)))))):St w0 w (star A (star B (star D (star E (star H M))))):=((s.pY.eqv (bX.right bX.pY)).eqv (bX.right (bX.right bX.pY))).eqv (bX.right (bX.right (bX.right bX.pY)))
def XE{w0 w:af}{A:aI}{L:List aI}(h:St w0 w (Sep (A :: L))):St w0 w (Sep (A :: emp :: emp :: emp :: L)):=by
 have s:St w0 w (Sep (emp :: emp :: emp :: A :: L)):=LI (LI (LI h));exact s.out 3 rfl
def St.rR{w0 w:af}{m:List aI}(l:List aI)(is:List Nat)(h:St w0 w (Sep (l++m))):St w0 w (Sep (Vc.ay is l++m)):=St.cat ((h.split l).weak (bz.left (bz.pick is l)))
def We{w0 w:af}{n:Nat}{R:Rs}{a:Se}{L:List aI}{g1 g2 g3:Nat}(s:St w0 w (Sep ([gO (qs g1) n (List.replicate n false),uX (qs g2) n (List.replicate n cI),gO (qs g3) n (List.replicate n false),held a.In]++L)))(c:R.s=a)(d:R.has=List.replicate n false)(b:R.ex=List.replicate n cI)(e:R.out=List.replicate n false)(f:R.ha=qs g1)(g:R.ea=qs g2)(h:R.oa=qs g3) :
  St w0 w (Sep (held R.dR :: L)) :=
 (s.split _).weak (bz.left (((bn dj).cons ((bn Xv.len).cons ((bn dj).cons ((aW _).cons js.nil)))).mono λ w ⟨h1,h2,h3,h4,_⟩=>(⟨by rw[c]; exact h4,by rw[d,f]; exact h1,by rw[b,g]; exact h2,by rw[b]; intro x i; rw[vl i]; exact sO w,by rw[e,h]; exact h3⟩:R.dR w)).weak)
def Th{w0 w:af}{n:Nat}{R R0:Rs}{L:List aI}{g1 g2:Nat}(s:St w0 w (Sep ([gO (qs g1) n (List.replicate n false),uX (qs g2) n (List.replicate n cI),held R0.dR]++L)))(b:R.s=R0.s)(c:R.has=List.replicate n false)(a:R.ex=List.replicate n cI)(d:R.out=R0.out)(e:R.ha=qs g1)(f:R.ea=qs g2)(g:R.oa=R0.oa) :
  St w0 w (Sep (held R.dR :: L)) :=
 (s.split _).weak (bz.left (((bn dj).cons ((bn Xv.len).cons ((aW _).cons js.nil))).mono λ w ⟨h1,h2,h3,_⟩=>(⟨by rw[b]; exact h3.s,by rw[c,e]; exact h1,by rw[a,f]; exact h2,by rw[a]; intro x h; rw[vl h]; exact sO w,by rw[d,g]; exact h3.out⟩:R.dR w)).weak)
def PL{α:Type}{n i:Nat}{x:α}:(List.replicate n x).getD i x=x:=by
 rw[aJ,mg]; split<;>rfl
def Ra{R:Rs}{n:Nat}(h1:R.ex=List.replicate n cI)(h2:R.has=List.replicate n false)(h3:R.out=List.replicate n false)(i:Nat):R.Bh i=dG:=by
 unfold Rs.Bh
 split
 ·rw[h1,h2,h3,PL,PL]; rfl
 ·rfl
def Fe{R:Rs}(h:R.out.length=0)(i:Nat):R.Bh i=dG:=ah (by omega)
def OU{S a:Se}{o:Po}(e:a.er=S.er):(kg a o).er=(kg S o).er:=by
 have:∀ S:Se,(kg S o).er=(kg S.er o).er:=λ _=>rfl;rw[this a,e,<- this]
def Tu(R:Rs):(dr R.cL 8).bd=(List.range 8).map λ i=>B8 (R.Bh i):=rfl
def GF{w0 w:af}{R:Rs}{v:Ev}{M:List aI}(s:St w0 w (Sep (held R.C.bF :: held R.dR :: M)))(f:QY R)(hv:jV R.cL v=0)(hi:v.In)(htx:v.text.length<=80000) :
  CP 57 #[.agg R.cells.toArray,v.v] w ((Y5 w0 R v M)):=by
 refine @Ei _ _ _ _ _ _ _ _ _ _ _ _ _ _ _ _ _ _ _ _ _ _ _ _ _ _ _ _ _ _ _ _ _ _ _ _ R.C.p _ _ _ _ _ _ _ _ _ _ _ _ _ _ _ _ _ _ _ _ _ _ _ _ _ v.want _ _ _ _ ?_;refine s.aB R.cells.toArray λ r1 w1 s1=>s1.aB v.cells.toArray λ r2 w2 s2=>s2.aB _ λ r3 w3 F=>?_;obtain⟨Z,hZ,F⟩:∃ Z:Array Value,Z.size=34/\St w0 w3 (Sep (aj r3 Z 90 :: aj r2 v.cells.toArray 45 :: aj r1 R.cells.toArray 90 :: held R.C.bF :: held R.dR :: M)):=⟨_,rfl,F⟩;refine⟨λ e w4=>∃ (R':Rs) (cs:Array Value),cs.size=34/\St w0 w4 (Sep (aj r3 cs 90 :: aj r2 v.cells.toArray 45 :: aj r1 R'.cells.toArray 90 :: held R'.C.bF :: held R'.dR :: M))/\e=cN R.cL R.C v /\
   (e=0->R'.cL.er=(bA R.cL R.C v).er/\R'.C.er=(cw R.cL R.C v).er/\R'.has.length=R'.out.length/\R'.ex.length=R'.out.length/\((v.kind=1/\R'.out.length=R'.s.bd.length/\R'.C.s=R'.s)\/(v.kind≠1/\R'.out.length=R.out.length/\R'.s=R.s/\R'.C.s=R.C.s)))/\(e≠0->R'=R),?_,_,F.ag 1 rfl 0,?_⟩
 ·rintro w4 e ⟨R',cs,J,s4,he,h0,h1⟩ -;exact Ex8<|Ex8<|Ex8<|Ex8<|Ex4<|⟨R'.C.p,Ex8<|Ex8<|Ex4<|⟨_,_,s4.cellsIn 2 rfl,s4.az 0 rfl R'.cells (by rw[J]; rfl) R'.one λ w5 s5=>(Ex8<|Ex8<|Ex8<|Ex8<|Ex4<|⟨R'.C.p,Ex8<|Ex8<|Ex4<|⟨_,_,St.cellsIn (cs:=R'.cells.toArray) s5 0 rfl,R',by rw[he]; rfl,s5.second.second.second,by rw[<- he]; exact h0,by rw[<- he]; exact h1⟩⟩)⟩⟩
 have hkd:v.kind=1\/v.kind=2\/v.kind=3\/v.kind=4\/v.kind=5\/v.kind=6\/v.kind=7\/v.kind=8\/v.kind=9\/v.kind=10:=by
  obtain⟨h1,_⟩:=jP hv;have a:=tf h1; have b:=(eH h1 hi.d).k; omega
 obtain⟨z1,z2,z3,z4,z5⟩:=jP hv;let A:aI:=aj r2 v.cells.toArray 45;have put:∀ {w':af} {t:Ck} {cs:Array Value} {e:Int} {K:af->Prop},St w0 w' (Sep (held t.bF :: aj r3 cs 90 :: A :: aj r1 R.cells.toArray 90 :: held R.dR :: M))->(∀ S,St w0 S (Sep (aj r3 cs 90 :: A :: aj r1 ({ R with C:=t }:Rs).cells.toArray 90 :: held t.bF :: held ({ R with C:=t }:Rs).dR :: M))->K S) ->
   uP ⟨r1,9,none⟩ 0 t.cells w' K:=λ {w' t cs e K} s k=>by
  refine s.jO 3 9 rfl ({ R with C:=t }:Rs).cells.toArray (show 28<=34 by decide) t.one rfl λ S s''=>k S ?_;exact St.weak (St.X4 s'') (bz.right (bz.right (bz.right (bz.right (bz.left (eI λ w h=>(⟨h.s,h.has,h.ex,h.ei,h.out⟩:({ R with C:=t }:Rs).dR w)))))))
 by_cases B:v.kind=1
 ·refine cT (by simpa using B) ?_;have e0':cN R.cL R.C v=lN R.o v.text:=by rw[cN,ak B]; rfl
  have T:cw R.cL R.C v=kg (pX v.text) R.o:=by rw[cw,ak B]; rfl
  have U:bA R.cL R.C v={ R.cL with ph:=1,s:=pX v.text }:=by rw[bA,ak B]
  refine⟨_,_,_,_,F.aQ (vs:=R.o.cells) 2 0 rfl rfl,au (uH w3 R.o) ?_⟩;rintro _ w6 ⟨rfl,c6⟩;have s6:St w0 w6 (Sep (aj r3 Z 90 :: A :: aj r1 R.cells.toArray 90 :: held R.C.bF :: held R.dR :: M)):=F.quiet c6;refine⟨_,rfl,?_⟩
  by_cases h1:ki R.o=0
  rotate_left
  ·have G:cN R.cL R.C v=ki R.o:=by rw[e0',lN,ak h1]
   exact cT (by simpa using h1) (Ex8<|Ex8<|Ex8<|Ex8<|Ex4<|⟨R.C.p,Ex8<|Ex8<|Ex4<|⟨_,_,s6.cellsIn 2 rfl,s6.az 0 rfl R.cells (by rw[hZ]; rfl) R.one λ w5 s5=>(Ex8<|Ex8<|Ex8<|Ex8<|Ex4<|⟨R.C.p,Ex8<|Ex8<|Ex4<|⟨_,_,St.cellsIn (cs:=R.cells.toArray) s5 0 rfl,R,by rw[G]; rfl,s5.second.second.second,λ h=>absurd (G.symm.trans h) h1,λ _=>rfl⟩⟩)⟩⟩)
  have e1:lN R.o v.text=lI v.text:=by rw[lN,ah (λ h=>h h1)]
  refine cF (by simpa using h1) ⟨_,s6.ag 1 rfl 9,au (IM w6 v.text htx) ?_⟩;rintro _ w8 ⟨r,i,rfl,k8,hok8⟩;have s8:St w0 w8 (Sep (held r.In :: aj r3 Z 90 :: A :: aj r1 R.cells.toArray 90 :: held R.C.bF :: held R.dR :: M)):=s6.and k8;refine Ex8<|Ex4<|⟨_,_,rfl,s8.aB dL.arr λ r4 w9 s9=>s9.az 0 rfl r.arr.toList rfl (by simp[Se.arr,Value.oneCell']) λ w10 s10=>?_⟩;have s10:St w0 w10 (Sep (aj r4 r.arr 73 :: held r.In :: aj r3 Z 90 :: A :: aj r1 R.cells.toArray 90 :: held R.C.bF :: held R.dR :: M)):=s10
  by_cases h2:lI v.text=0
  rotate_left
  ·have G:cN R.cL R.C v=lI v.text:=by rw[e0',e1]
   have t10:St w0 w10 (Sep (aj r3 Z 90 :: A :: aj r1 R.cells.toArray 90 :: held R.C.bF :: held R.dR :: M)):=s10.second.second;exact cT (by simpa using h2) (Ex8<|Ex8<|Ex8<|Ex8<|Ex4<|⟨R.C.p,Ex8<|Ex8<|Ex4<|⟨_,_,t10.cellsIn 2 rfl,t10.az 0 rfl R.cells (by rw[hZ]; rfl) R.one λ w5 s5=>(Ex8<|Ex8<|Ex8<|Ex8<|Ex4<|⟨R.C.p,Ex8<|Ex8<|Ex4<|⟨_,_,St.cellsIn (cs:=R.cells.toArray) s5 0 rfl,R,by rw[G]; rfl,s5.second.second.second,λ h=>absurd (G.symm.trans h) h2,λ _=>rfl⟩⟩)⟩⟩)
  obtain⟨eS',hS⟩:=hok8 h2;have G:cN R.cL R.C v=0:=by rw[e0',e1,h2]
  have hnE:Am r R.o=0:=by
   have a:tv r=0:=by
    rw[I7 eS'];have h2':=h2;unfold lI at h2'
    split at h2'
    ·exact absurd h2' (by decide)
    ·split at h2'
     ·rename_i g; exact absurd h2' g
     ·exact h2'
   rw[Am,a,ah (λ h=>h rfl)]; exact h1
  have h8:r.bd.length<=8:=hS.bd.l2;refine cF (by simpa using h2) ⟨_,_,_,s10.ag 0 rfl 1,Ex8<|Ex4<|⟨s10.cellsIn (cs:=r.arr) 0 rfl,?_⟩⟩;let R1:Rs:={ R with s:=r };refine s10.jO 4 5 rfl (vs:=r.arr.toList) R1.cells.toArray (show 9<=34 by decide) (by simp[Se.arr,Value.oneCell']) rfl λ w12 s12=>?_;have s12:St w0 w12 (Sep (aj r4 r.arr 73 :: held r.In :: aj r3 Z 90 :: A :: aj r1 R1.cells.toArray 90 :: held R.C.bF :: held R.dR :: M)):=s12;refine Ex8<|Ex4<|⟨s12.cellsIn (cs:=r.arr) 0 rfl,_,_,_,_,s12.aQ (vs:=R.o.cells) 4 0 rfl rfl,au (Py (s12.bC 1 rfl) R.o) ?_⟩;rintro _ w13 (⟨h0,_⟩|⟨_,_,ho,t,hC,hCs,rfl,k13⟩)
  ·exact absurd hnE h0
  have s13:St w0 w13 (Sep (held t.bF :: aj r4 r.arr 73 :: held r.In :: aj r3 Z 90 :: A :: aj r1 R1.cells.toArray 90 :: held R.C.bF :: held R.dR :: M)):=s12.and k13;let R2:Rs:={ R with s:=r,C:=t };refine Ex8<|Ex8<|⟨_,_,_,t.p,Ex8 ⟨_,_,_,rfl,s13.jO 5 9 rfl R2.cells.toArray (show 28<=34 by decide) t.one rfl λ w14 s14=>?_⟩⟩;have s14:St w0 w14 (Sep (held t.bF :: aj r4 r.arr 73 :: held r.In :: aj r3 Z 90 :: A :: aj r1 R2.cells.toArray 90 :: held R.C.bF :: held R.dR :: M)):=s14;have t14:St w0 w14.drew (Sep (held t.bF :: aj r4 r.arr 73 :: held r.In :: aj r3 Z 90 :: A :: aj r1 R2.cells.toArray 90 :: held R.C.bF :: held R.dR :: M)):=s14.quiet (aC.drew w14 []);have u14:St w0 w14.drew (Sep (aj r1 R2.cells.toArray 90 :: held t.bF :: aj r4 r.arr 73 :: held r.In :: aj r3 Z 90 :: A :: held R.C.bF :: held R.dR :: M)):=t14.out 5 rfl;let N1:List aI:=held t.bF :: aj r4 r.arr 73 :: held r.In :: aj r3 Z 90 :: A :: held R.C.bF :: held R.dR :: M;have s:C4 w0 r1 R2 r.bd.length N1 none none none false false false w14.drew:=XE u14;have y:r.bd.length<=1000:=by omega
  refine⟨λ w=>∃ g1 g2 g3,C4 w0 r1 R2 r.bd.length N1 (some g1) (some g2) (some g3) true true true w,?_,⟨It y s λ g w s=>⟨yq y s λ g w s=>⟨yu y s λ g w s=>wq s λ w s=>qB s λ w s=>uO s λ w s=>⟨_,_,_,s⟩,wq s λ w s=>⟨yu y s λ g w s=>qB s λ w s=>uO s λ w s=>⟨_,_,_,s⟩,qB s λ w s=>yu y s λ g w s=>uO s λ w s=>⟨_,_,_,s⟩⟩⟩,⟨yu y s λ g w s=>⟨yq y s λ g w s=>wq s λ w s=>qB s λ w s=>uO s λ w s=>⟨_,_,_,s⟩,wq s λ w s=>yq y s λ g w s=>qB s λ w s=>uO s λ w s=>⟨_,_,_,s⟩⟩,wq s λ w s=>⟨yq y s λ g w s=>⟨yu y s λ g w s=>qB s λ w s=>uO s λ w s=>⟨_,_,_,s⟩,qB s λ w s=>yu y s λ g w s=>uO s λ w s=>⟨_,_,_,s⟩⟩,yu y s λ g w s=>yq y s λ g w s=>qB s λ w s=>uO s λ w s=>⟨_,_,_,s⟩⟩⟩⟩,⟨yq y s λ g w s=>⟨It y s λ g w s=>⟨yu y s λ g w s=>wq s λ w s=>qB s λ w s=>uO s λ w s=>⟨_,_,_,s⟩,wq s λ w s=>⟨yu y s λ g w s=>qB s λ w s=>uO s λ w s=>⟨_,_,_,s⟩,qB s λ w s=>yu y s λ g w s=>uO s λ w s=>⟨_,_,_,s⟩⟩⟩,yu y s λ g w s=>It y s λ g w s=>wq s λ w s=>qB s λ w s=>uO s λ w s=>⟨_,_,_,s⟩⟩,yu y s λ g w s=>⟨It y s λ g w s=>⟨yq y s λ g w s=>wq s λ w s=>qB s λ w s=>uO s λ w s=>⟨_,_,_,s⟩,wq s λ w s=>yq y s λ g w s=>qB s λ w s=>uO s λ w s=>⟨_,_,_,s⟩⟩,yq y s λ g w s=>It y s λ g w s=>wq s λ w s=>qB s λ w s=>uO s λ w s=>⟨_,_,_,s⟩⟩⟩⟩⟩;rintro w15 ⟨g1,g2,g3,s15⟩ -;let E:Rs:={ R2 with has:=List.replicate r.bd.length false,ex:=List.replicate r.bd.length cI,out:=List.replicate r.bd.length false,ha:=qs g1,hc:=r.bd.length,ea:=qs g2,ec:=r.bd.length,oa:=qs g3,oc:=r.bd.length };have s15:St w0 w15 (Sep (aj r1 E.cells.toArray 90 :: gO (qs g1) r.bd.length (List.replicate r.bd.length false) :: uX (qs g2) r.bd.length (List.replicate r.bd.length cI) :: gO (qs g3) r.bd.length (List.replicate r.bd.length false) :: held t.bF :: aj r4 r.arr 73 :: held r.In :: aj r3 Z 90 :: A :: held R.C.bF :: held R.dR :: M)):=s15;refine s15.aN 0 rfl (j:=4) (by show 4<34; decide) rfl λ w16 s16=>?_;let D:Rs:={ E with ph:=1 };have s16:St w0 w16 (Sep (aj r1 D.cells.toArray 90 :: gO (qs g1) r.bd.length (List.replicate r.bd.length false) :: uX (qs g2) r.bd.length (List.replicate r.bd.length cI) :: gO (qs g3) r.bd.length (List.replicate r.bd.length false) :: held t.bF :: aj r4 r.arr 73 :: held r.In :: aj r3 Z 90 :: A :: held R.C.bF :: held R.dR :: M)):=s16;have s17:=St.rR (m:=M) [aj r1 D.cells.toArray 90,gO (qs g1) r.bd.length (List.replicate r.bd.length false),uX (qs g2) r.bd.length (List.replicate r.bd.length cI),gO (qs g3) r.bd.length (List.replicate r.bd.length false),held t.bF,aj r4 r.arr 73,held r.In,aj r3 Z 90,A] [1,2,3,6,7,8,0,4] (St.rR (m:=M) [aj r1 D.cells.toArray 90,gO (qs g1) r.bd.length (List.replicate r.bd.length false),uX (qs g2) r.bd.length (List.replicate r.bd.length cI),gO (qs g3) r.bd.length (List.replicate r.bd.length false),held t.bF,aj r4 r.arr 73,held r.In,aj r3 Z 90,A,held R.C.bF,held R.dR] [0,1,2,3,4,5,6,7,8] s16);have s17:St w0 w16 (Sep (held D.dR :: aj r3 Z 90 :: A :: aj r1 D.cells.toArray 90 :: held t.bF :: M)):=We s17 rfl rfl rfl rfl rfl rfl rfl;have s18:St w0 w16 (Sep (aj r3 Z 90 :: A :: aj r1 D.cells.toArray 90 :: held t.bF :: held D.dR :: M)):=St.rR (m:=M) [held D.dR,aj r3 Z 90,A,aj r1 D.cells.toArray 90,held t.bF] [1,2,3,4,0] s17;refine⟨D,Z,hZ,s18,by rw[h1]; exact G.symm,λ _=>⟨?_,?_,?_,?_,.inl ⟨B,?_,hCs⟩⟩,λ h=>absurd h1 h⟩
  ·rw[U];have a1:D.cL.bd=R.cL.bd:=dz λ i _=>by
    rw[Ra (R:=D) (n:=r.bd.length) rfl rfl rfl i,Fe (R:=R)];exact f.n0 (by
     rw[B] at z3;have:dx 1 R.ph=true:=z3;simpa[dx] using this)
   show({ D.cL with s:=r.er,k:=none,bd:=D.cL.bd.map Bd.er }:Sx)=_;rw[a1,eS']; rfl
  ·rw[T]; show t.er=_; rw[hC]; exact OU eS'
  ·show(List.replicate r.bd.length false).length=(List.replicate r.bd.length false).length; rfl
  ·show(List.replicate r.bd.length cI).length=(List.replicate r.bd.length false).length; rw[j6,j6]
  ·show(List.replicate r.bd.length false).length=r.bd.length; rw[j6]
 refine cF (by simpa using B) ?_
 by_cases H:v.kind=2
 ·have W:cE v.kind=true:=by rw[H]; rfl
  have z:R.ph≠0:=λ h=>by
   rw[H] at z3;have:R.cL.ph=0:=h;rw[this] at z3; cases z3
  have V:=z4 W;have hb0:=(eH z1 hi.d).b;obtain⟨n,y⟩:∃ n:Nat,v.bidder=n:=⟨v.bidder.toNat,by omega⟩;have J:=f.cs z;have hnl:n<R.C.s.bd.length:=by
   rw[J]; rw[y] at V;have V:(n:Int)<(R.s.bd.length:Int):=V;omega
  have hy:R.C.s.bd[n]?=some (R.C.s.bd.getD n Hw):=by rw[aJ,gE hnl]; rfl
  have G:cN R.cL R.C v=gX R.C n (R.C.s.bd.getD n Hw) v.want:=by rw[cN,ah B,ak H,y,aD]
  refine cT (by simpa using H) (Ex8<|Ex8<|⟨_,_,_,R.C.p,Ex8 ⟨_,_,JZ F 2 rfl,_,F.ag 1 rfl 1,v.want,?_,?_⟩⟩)
  ·exact bM _ 0 λ j x hj=>by
    have h6:j<6:=(aR.1 hj).1;rw[bY,aL,F.ag 1 rfl]
    match j,h6,hj with
    | 0,_,hj|1,_,hj|2,_,hj|3,_,hj|4,_,hj|5,_,hj=>simpa[Ev.cells,I6.on,I6.vs] using hj
  ·rw[y];have t3:St w0 w3 (Sep (held R.C.bF :: aj r3 Z 90 :: A :: aj r1 R.cells.toArray 90 :: held R.dR :: M)):=St.in3 F;refine au (P1 t3 (f.so.c z).ok (λ h=>by rw[J]; exact(St.bC (Q:=R.dR) h 3 rfl).s) hy v.want) ?_;rintro _ w84 ⟨t,h1,h2,h3,rfl,s84⟩;refine Ex8<|Ex8<|⟨_,_,_,t.p,Ex8 ⟨_,_,_,rfl,put (e:=0) s84 λ w85 s85=>⟨{ R with C:=t },Z,hZ,s85,G.symm,λ h=>⟨?_,?_,f.h,f.e,.inr ⟨B,rfl,rfl,h2⟩⟩,λ h=>by rw[h3 h]⟩⟩⟩
   ·show R.cL.er=_; rw[bA,ah B,ak H]
   ·show t.er=_; rw[h1,ak h,cw,ah B,ak H,y,aD]
 refine cF (by simpa using H) ?_;have phs:∀ {w':af} {R1:Rs} {p:Int} {K:af->Prop},St w0 w' (Sep (aj r3 Z 90 :: A :: aj r1 R1.cells.toArray 90 :: held R1.C.bF :: held R1.dR :: M))->(∀ S,St w0 S (Sep (aj r3 Z 90 :: A :: aj r1 ({ R1 with ph:=p }:Rs).cells.toArray 90 :: held R1.C.bF :: held ({ R1 with ph:=p }:Rs).dR :: M))->K S)->fL w' ⟨r1,4,none⟩ (iv p) K:=λ {w' R1 p K} s k =>
  s.aN 2 rfl (j:=4) (by show 4<34; decide) rfl λ S s''=>k S (St.weak s'' (bz.right (bz.right (bz.right (bz.right (bz.left (eI λ w h=>(⟨h.s,h.has,h.ex,h.ei,h.out⟩:({ R1 with ph:=p }:Rs).dR w))))))))
 have t3:St w0 w3 (Sep (held R.C.bF :: aj r3 Z 90 :: A :: aj r1 R.cells.toArray 90 :: held R.dR :: M)):=St.in3 F
 by_cases I:v.kind=3
 ·have hph1:R.ph=1:=by
   rw[I] at z3;have:dx 3 R.ph=true:=z3;simpa[dx] using this
  have z:R.ph≠0:=by omega
  have hov:=f.ov hph1;have J:=f.cs z;have G:cN R.cL R.C v=0:=by rw[cN,ah B,ah H,ak (.inl I),hov]; rfl
  refine cT (by simpa using I) (Ex8<|Ex8<|⟨_,_,_,R.C.p,Ex8 ⟨_,_,JZ F 2 rfl,au (I4 t3 (f.so.c z).ok (λ h=>by rw[J]; exact(St.bC (Q:=R.dR) h 3 rfl).s) hov) ?_⟩⟩);rintro _ w86 ⟨t,h1,h2,rfl,s86⟩;have hov':t.ov=eJ R.C:=by
   have h:=congrArg Ck.ov h1;have h:t.ov=(gZ R.C).ov:=h;rw[h]; rfl
  have T:cw R.cL R.C v=gZ R.C:=by rw[cw,ah B,ah H,ak I]
  have U:bA R.cL R.C v=if eJ R.C then { R.cL with ph:=2 } else R.cL:=by rw[bA,ah B,ah H,ak I]
  refine Ex8<|Ex8<|⟨_,_,_,t.p,Ex8 ⟨_,_,_,rfl,put (e:=0) s86 λ w87 s87=>⟨_,s87.ag 2 rfl 27,?_⟩⟩⟩
  cases hl:eJ R.C with
  | true =>
   refine cT (by rw[hov',hl]) (phs (R1:={ R with C:=t }) (p:=2) s87 λ w88 s88=>⟨{ R with C:=t,ph:=2 },Z,hZ,s88,G.symm,λ _=>⟨?_,?_,f.h,f.e,.inr ⟨B,rfl,rfl,h2⟩⟩,λ h=>absurd rfl h⟩)
   ·rw[U,hl,ak rfl]; rfl
   ·rw[T]; exact h1
  | false =>
   refine cF (by rw[hov',hl]) ⟨{ R with C:=t },Z,hZ,s87,G.symm,λ _=>⟨?_,?_,f.h,f.e,.inr ⟨B,rfl,rfl,h2⟩⟩,λ h=>absurd rfl h⟩
   ·rw[U,hl,ah (by decide)]; rfl
   ·rw[T]; exact h1
 refine cF (by simpa using I) ?_
 by_cases O:v.kind=4
 ·have hph1:R.ph=1:=by
   rw[O] at z3;have:dx 4 R.ph=true:=z3;simpa[dx] using this
  have z:R.ph≠0:=by omega
  have hov:=f.ov hph1;have G:cN R.cL R.C v=0:=by rw[cN,ah B,ah H,ak (.inr O),hov]; rfl
  refine cT (by simpa using O) (Ex8<|Ex8<|⟨_,_,_,R.C.p,Ex8 ⟨_,_,JZ F 2 rfl,au (Mw t3 (f.so.c z).ok) ?_⟩⟩);rintro _ w89 ⟨t,h1,h2,h3,rfl,s89⟩;have T:cw R.cL R.C v=sC R.C:=by rw[cw,ah B,ah H,ah I,ak O]
  have U:bA R.cL R.C v={ R.cL with ph:=2 }:=by rw[bA,ah B,ah H,ah I,ak O]
  refine Ex8<|Ex8<|⟨_,_,_,t.p,Ex8 ⟨_,_,_,rfl,put (e:=0) s89 λ w90 s90=>phs (R1:={ R with C:=t }) (p:=2) s90 λ w91 s91=>⟨{ R with C:=t,ph:=2 },Z,hZ,s91,G.symm,λ _=>⟨?_,?_,f.h,f.e,.inr ⟨B,rfl,rfl,h2⟩⟩,λ h=>absurd rfl h⟩⟩⟩
  ·rw[U]; rfl
  ·rw[T]; show t.er=_; rw[h1,hov]; rfl
 refine cF (by simpa using O) ?_
 by_cases k5:v.kind=5
 ·have W:cE v.kind=true:=by rw[k5]; rfl
  have z:R.ph≠0:=λ h=>by
   rw[k5] at z3;have:R.cL.ph=0:=h;rw[this] at z3; cases z3
  have V:=z4 W;have hb0:=(eH z1 hi.d).b;obtain⟨n,y⟩:∃ n:Nat,v.bidder=n:=⟨v.bidder.toNat,by omega⟩;have hnl:=f.n z;have L:n<R.out.length:=by
   rw[hnl]; rw[y] at V;have V:(n:Int)<(R.s.bd.length:Int):=V;omega
  have hl:=f.h; have hle:=f.e;have h8:R.s.bd.length<=8:=(f.so.so z).bd.l2;have J:=f.cs z;have hg:R.cL.bd.getD n dG=⟨R.ex.getD n cI,R.has.getD n false,R.out.getD n false⟩:=by rw[oe (by omega),Rs.Bh,ak L]
  have hy:R.s.bd[n]?=some (R.s.bd.getD n Hw):=by rw[aJ,gE (by omega)]; rfl
  have G:cN R.cL R.C v=fY R.s R.C n (R.s.bd.getD n Hw) v.text:=by rw[cN,ah B,ah H,ah (by rintro(h|h); exact I h; exact O h),ak k5,y,aD]; rfl
  have T:cw R.cL R.C v=R.C:=by rw[cw,ah B,ah H,ah I,ah O,ah (by omega),ah (by omega)]
  have U:bA R.cL R.C v=qy R.cL n (bW R.s.ps v.text).1:=by rw[bA,ah B,ah H,ah I,ah O,ak k5,y,aD]; rfl
  have hR:R.T4 w3:=Rs.T4.of (F.bC 3 rfl) (F.bC 4 rfl);refine cT (by simpa using k5) (Ex8<|Ex8<|Ex8<|Ex8<|Ex4<|⟨R.C.p,Ex8<|Ex8<|Ex4<|⟨_,_,F.cellsIn 2 rfl,v.bidder,F.ag 1 rfl 1,_,F.ag 1 rfl 9,?_⟩⟩);rw[y];refine au (GL hR (f.so.c z).ok (f.so.so z) (by rw[J]; omega) hy v.text) ?_;rintro _ w92 ⟨x,ex,rfl,k92⟩;have s92:St w0 w92 (Sep (held x.In :: aj r3 Z 90 :: A :: aj r1 R.cells.toArray 90 :: held R.C.bF :: held R.dR :: M)):=F.and k92;refine⟨_,x.u,Ex4 ⟨_,rfl,s92.aB cI.cells.toArray λ r5 w93 s93=>s93.az 0 rfl x.cells rfl x.one λ w94 s94=>?_⟩⟩;have s94:St w0 w94 (Sep (aj r5 x.cells.toArray 120 :: held x.In :: aj r3 Z 90 :: A :: aj r1 R.cells.toArray 90 :: held R.C.bF :: held R.dR :: M)):=s94;rw[<- G] at ex;rw[<- G]
  by_cases he:cN R.cL R.C v=0
  rotate_left
  ·exact cT (by simpa using he) (Ex8<|Ex8<|Ex8<|Ex8<|Ex4<|⟨R.C.p,Ex8<|Ex8<|Ex4<|⟨_,_,s94.cellsIn 4 rfl,s94.az 2 rfl R.cells (by rw[hZ]; rfl) R.one λ w5 s5=>(Ex8<|Ex8<|Ex8<|Ex8<|Ex4<|⟨R.C.p,Ex8<|Ex8<|Ex4<|⟨_,_,St.cellsIn (cs:=R.cells.toArray) s5 2 rfl,R,rfl,s5.second.second.second.second.second,λ h=>absurd h he,λ _=>rfl⟩⟩)⟩⟩)
  have t5:St w0 w94 (Sep (held R.dR :: held x.In :: aj r5 x.cells.toArray 120 :: aj r3 Z 90 :: A :: aj r1 R.cells.toArray 90 :: held R.C.bF :: M)):=(s94.out 6 rfl).eqv (bX.right bX.pY);refine cF (by simpa using he) (Ex8<|Ex8<|Ex8<|Ex8<|Ex4<|⟨R.C.p,Ex8<|Ex8<|Ex4<|⟨_,_,s94.cellsIn 4 rfl,v.bidder,s94.ag 3 rfl 1,_,x.u,_,_,_,_,s94.cellsIn 0 rfl,?_⟩⟩);rw[y];refine au (Ay (x:=x) t5 (n:=n) (b:=true) (by omega) (by omega) (by omega) (by omega)) ?_;rintro _ w99 ⟨ha,hc',ea,ec,rfl,s99⟩;let E:Rs:=R.AY n x true ha hc' ea ec;refine Ex8<|Ex8<|Ex8<|Ex8<|Ex4<|⟨R.C.p,Ex8<|Ex8<|Ex4<|⟨_,_,rfl,s99.az 4 rfl E.cells rfl E.one λ w100 X=>⟨E,Z,hZ,St.VY (St.second (St.pY X)),he.symm,λ _=>⟨?_,?_,?_,?_,.inr ⟨B,rfl,rfl,rfl⟩⟩,λ h=>absurd rfl h⟩⟩⟩
  ·have hx:(bW R.s.ps v.text).1.er=x.er:=by rw[<- ex he,Jp]
   rw[U,A6 hl hle L,qy,hg];have V:Bd.er ⟨x,true,R.out.getD n false⟩=Bd.er ⟨(bW R.s.ps v.text).1,true,R.out.getD n false⟩:=by
    show(⟨x.er,true,R.out.getD n false⟩:Bd)=⟨(bW R.s.ps v.text).1.er,true,R.out.getD n false⟩;rw[hx]
   unfold Sx.er;simp only[lX,V]
  ·rw[T]; rfl
  ·show(R.has.set n true).length=_; rw[dN]; exact hl
  ·show(R.ex.set n x).length=_; rw[dN]; exact hle
 refine cF (by simpa using k5) ?_
 by_cases k6:v.kind=6
 ·have W:cE v.kind=true:=by rw[k6]; rfl
  have z:R.ph≠0:=λ h=>by
   rw[k6] at z3;have:R.cL.ph=0:=h;rw[this] at z3; cases z3
  have V:=z4 W;have hb0:=(eH z1 hi.d).b;obtain⟨n,y⟩:∃ n:Nat,v.bidder=n:=⟨v.bidder.toNat,by omega⟩;have L:n<R.out.length:=by
   rw[f.n z]; rw[y] at V;have V:(n:Int)<(R.s.bd.length:Int):=V;omega
  have hl:=f.h; have hle:=f.e;have hS:=(f.so.so z).bd.l2;have h8:R.s.bd.length<=8:=hS;have hnl:=f.n z;have hg:R.cL.bd.getD n dG=⟨R.ex.getD n cI,R.has.getD n false,R.out.getD n false⟩:=by rw[oe (by omega),Rs.Bh,ak L]
  have G:cN R.cL R.C v=if R.has.getD n false then 0 else 6:=by rw[cN,ah B,ah H,ah (by rintro(h|h); exact I h; exact O h),ah k5,ak k6,y,aD,hg]
  have T:cw R.cL R.C v=R.C:=by rw[cw,ah B,ah H,ah I,ah O,ah (by omega),ah (by omega)]
  have U:bA R.cL R.C v=cG R.cL n:=by rw[bA,ah B,ah H,ah I,ah O,ah k5,ak k6,y,aD]
  have hr:R.dR w3:=F.bC 4 rfl;obtain⟨q,hq,hc⟩:=hr.has.at (i:=n) (x:=R.has.getD n false) (by rw[aJ,gE (by omega)]; rfl);have hc0:w3.cell? (Addr.add q (((n:Nat):Int).toNat*1))=some (.bool (R.has.getD n false)):=by
   have:=aM hc 0 _ rfl;rw[Addr.add_add] at this; rw[aD]; exact this
  refine cT (by simpa using k6) ⟨_,_,_,F.ag 2 rfl 28,v.bidder,F.ag 1 rfl 1,?_⟩;rw[y];refine aq hq ⟨by omega,by omega,_,hc0,?_⟩
  cases hh:R.has.getD n false with
  | false =>
   rw[hh] at G;exact cT rfl (Ex8<|Ex8<|Ex8<|Ex8<|Ex4<|⟨R.C.p,Ex8<|Ex8<|Ex4<|⟨_,_,F.cellsIn 2 rfl,F.az 0 rfl R.cells (by rw[hZ]; rfl) R.one λ w5 s5=>(Ex8<|Ex8<|Ex8<|Ex8<|Ex4<|⟨R.C.p,Ex8<|Ex8<|Ex4<|⟨_,_,St.cellsIn (cs:=R.cells.toArray) s5 0 rfl,R,by rw[G]; rfl,s5.second.second.second,λ h=>absurd (G.symm.trans h) (by decide),λ _=>rfl⟩⟩)⟩⟩)
  | true =>
   rw[hh,ak rfl] at G;have tz:=F.jx (Q:=cI.In) sO;have t5:St w0 w3 (Sep (held R.dR :: held cI.In :: aj r3 Z 90 :: A :: aj r1 R.cells.toArray 90 :: held R.C.bF :: M)):=tz.out 5 rfl;refine cF rfl (Ex8<|Ex8<|Ex8<|Ex8<|Ex4<|⟨R.C.p,Ex8<|Ex8<|Ex4<|⟨_,_,F.cellsIn 2 rfl,v.bidder,F.ag 1 rfl 1,?_⟩⟩);rw[y];refine au (Ay (x:=cI) t5 (n:=n) (b:=false) (by omega) (by omega) (by omega) (by omega)) ?_;rintro _ w99 ⟨ha,hc',ea,ec,rfl,s99⟩;let E:Rs:=R.AY n cI false ha hc' ea ec;refine Ex8<|Ex8<|Ex8<|Ex8<|Ex4<|⟨R.C.p,Ex8<|Ex8<|Ex4<|⟨_,_,rfl,s99.az 3 rfl E.cells rfl E.one λ w100 X=>⟨E,Z,hZ,St.VY X,G.symm,λ _=>⟨?_,?_,?_,?_,.inr ⟨B,rfl,rfl,rfl⟩⟩,λ h=>absurd rfl h⟩⟩⟩
   ·rw[U,A6 hl hle L,cG,hg]; rfl
   ·rw[T]; rfl
   ·show(R.has.set n false).length=_; rw[dN]; exact hl
   ·show(R.ex.set n cI).length=_; rw[dN]; exact hle
 refine cF (by simpa using k6) ?_
 by_cases k7:v.kind=7
 ·have W:cE v.kind=true:=by rw[k7]; rfl
  have z:R.ph≠0:=λ h=>by
   rw[k7] at z3;have:R.cL.ph=0:=h;rw[this] at z3; cases z3
  have V:=z4 W;have hb0:=(eH z1 hi.d).b;obtain⟨n,y⟩:∃ n:Nat,v.bidder=n:=⟨v.bidder.toNat,by omega⟩;have hnl:=f.n z;have L:n<R.out.length:=by
   rw[hnl]; rw[y] at V;have V:(n:Int)<(R.s.bd.length:Int):=V;omega
  have hl:=f.h; have hle:=f.e;have h8:R.s.bd.length<=8:=(f.so.so z).bd.l2;have J:=f.cs z;have hg:R.cL.bd.getD n dG=⟨R.ex.getD n cI,R.has.getD n false,R.out.getD n false⟩:=by rw[oe (by omega),Rs.Bh,ak L]
  have hout:R.out.getD n false=false:=by
   have:=z5 W;rw[y,aD,hg] at this;exact this
  have hdp:R.C.dp.getD n false=false:=by rw[f.dp z n L]; exact hout
  have G:cN R.cL R.C v=0:=by rw[cN,ah B,ah H,ah (by rintro(h|h); exact I h; exact O h),ah k5,ah k6,ak k7,y,aD,hdp]; rfl
  have T:cw R.cL R.C v=jS R.C n:=by rw[cw,ah B,ah H,ah I,ah O,ak k7,y,aD]
  have U:bA R.cL R.C v=cG (jj R.cL n) n:=by rw[bA,ah B,ah H,ah I,ah O,ah k5,ah k6,ak k7,y,aD]
  have t5:St w0 w3 (Sep (held R.dR :: held cI.In :: aj r3 Z 90 :: A :: aj r1 R.cells.toArray 90 :: held R.C.bF :: M)):=(F.jx (Q:=cI.In) sO).out 5 rfl;refine cT (by simpa using k7) (Ex8<|Ex8<|Ex8<|Ex8<|Ex4<|⟨R.C.p,Ex8<|Ex8<|Ex4<|⟨_,_,F.cellsIn 2 rfl,v.bidder,F.ag 1 rfl 1,?_⟩⟩);rw[y];refine au (Ay (x:=cI) t5 (n:=n) (b:=false) (by omega) (by omega) (by omega) (by omega)) ?_;rintro _ w99 ⟨ha,hc',ea,ec,rfl,s99⟩;let E:Rs:=R.AY n cI false ha hc' ea ec;refine Ex8<|Ex8<|Ex8<|Ex8<|Ex4<|⟨R.C.p,Ex8<|Ex8<|Ex4<|⟨_,_,rfl,s99.az 3 rfl E.cells rfl E.one λ w100 X=>X.aB #[] λ r6 w103 Y=>⟨_,_,_,Y.ag 4 rfl 30,?_⟩⟩⟩;have Y:St w0 w103 (Sep (aj r6 #[] 4 :: held E.dR :: aj r3 Z 90 :: A :: aj r1 E.cells.toArray 90 :: held R.C.bF :: M)):=Y;have t103:St w0 w103 (star (gO (qs r6) 0 []) (Sep (held E.dR :: aj r3 Z 90 :: A :: aj r1 E.cells.toArray 90 :: held R.C.bF :: M))):=St.weak Y (bz.left (dO (n:=0) (sz:=1) rfl (by decide)));have hr3:E.dR w103:=Y.bC 1 rfl;refine bQ (l:=[]) (l2:=R.out) tS dj wO t103 hr3.out (by simp only[eY]; omega) (by simp only[eY]; omega) λ oa oc w104 s104=>?_;rw[lC] at s104 ⊢;have s104:St w0 w104 (Sep (gO oa oc R.out :: held E.dR :: aj r3 Z 90 :: A :: aj r1 E.cells.toArray 90 :: held R.C.bF :: M)):=s104;obtain⟨go,rfl⟩:=(s104.out 0 rfl).iS (by omega);let D:Rs:={ E with out:=R.out.set n true,oa:=qs go,oc:=oc };refine s104.aN 4 rfl (j:=30) (by show 30<34; decide) rfl λ w105 P=>?_;have eC4:E.cells.toArray.setIfInBounds 30 (.slice (qs go) R.out.length oc)=D.cells.toArray:=by
   simp[D,E,Rs.AY,Rs.cells,Po.cells,Se.arr,Ck.cells,I6.on]
  have P:St w0 w105 (Sep (gO (qs go) oc R.out :: held E.dR :: aj r3 Z 90 :: A :: aj r1 (E.cells.toArray.setIfInBounds 30 (.slice (qs go) R.out.length oc)) 90 :: held R.C.bF :: M)):=P;rw[eC4] at P;have c30:w105.cell? ⟨r1,30,none⟩=some (.slice (qs go) R.out.length oc):=(P.ag 4 rfl 30).trans (by rw[<- eC4]; rfl);refine⟨qs go,R.out.length,oc,c30,v.bidder,P.ag 3 rfl 1,?_⟩;rw[y];refine aq rfl ⟨by omega,by omega,?_⟩;rw[aD];refine St.gu (v:=.bool) (x:=true) rfl (P.out 0 rfl) (i:=n) (by omega) λ w106 s106=>?_;have s106:=s106.back (i:=0) (l:=gO (qs go) oc R.out :: held E.dR :: aj r3 Z 90 :: A :: aj r1 D.cells.toArray 90 :: held R.C.bF :: M) (by simp);have s106:St w0 w106 (Sep (gO (qs go) oc (R.out.set n true) :: held E.dR :: aj r3 Z 90 :: A :: aj r1 D.cells.toArray 90 :: held R.C.bF :: M)):=s106;have s107:=s106.fX (bn dj) (aW _) λ w h1 h2=>(⟨h2.s,h2.has,h2.ex,h2.ei,h1⟩:D.dR w);have t107:St w0 w106 (Sep (held R.C.bF :: held D.dR :: aj r3 Z 90 :: A :: aj r1 D.cells.toArray 90 :: M)):=s107.out 4 rfl;refine Ex8<|Ex8<|⟨_,_,_,R.C.p,Ex8 ⟨_,_,t107.aQ 4 9 rfl rfl,v.bidder,t107.ag 3 rfl 1,?_⟩⟩;rw[y];refine au (Ml t107 (f.so.c z).ok (n:=n) (by rw[J]; omega)) ?_;rintro _ w107 ⟨t,h1,h2,h3,rfl,s108⟩;let R5:Rs:={ D with C:=t };refine Ex8<|Ex8<|⟨_,_,_,t.p,Ex8 ⟨_,_,_,rfl,s108.jO 4 9 rfl R5.cells.toArray (show 28<=34 by decide) t.one rfl λ w108 s109=>?_⟩⟩;have s110:St w0 w108 (Sep (aj r3 Z 90 :: A :: aj r1 R5.cells.toArray 90 :: held t.bF :: held D.dR :: M)):=St.X4 (St.VY (St.pY s109));refine⟨R5,Z,hZ,St.weak s110 (bz.right (bz.right (bz.right (bz.right (bz.left (eI λ w h=>(⟨h.s,h.has,h.ex,h.ei,h.out⟩:R5.dR w))))))),G.symm,λ _=>⟨?_,?_,?_,?_,.inr ⟨B,?_,rfl,h2⟩⟩,λ h=>absurd rfl h⟩
  ·have e5:R5.cL=({ E with out:=E.out.set n true,oa:=qs go,oc:=oc }:Rs).cL:=rfl;have a1:E.ex.getD n cI=cI:=by show(R.ex.set n cI).getD n cI=_; rw[jd (by omega),ak rfl]
   have a2:E.has.getD n false=false:=by show(R.has.set n false).getD n false=_; rw[jd (by omega),ak rfl]
   have lb:n<R.cL.bd.length:=by show n<((List.range 8).map R.Bh).length; simp; omega
   have a3:(R.cL.bd.set n (⟨R.ex.getD n cI,R.has.getD n false,true⟩:Bd)).getD n dG=⟨R.ex.getD n cI,R.has.getD n false,true⟩:=by rw[jd lb,ak rfl]
   rw[e5,TN (R:=E) L,A6 hl hle L,U,cG,jj,hg,a1,a2];simp only[Dj];rw[a3]; rfl
  ·rw[T]; show t.er=_; rw[h1,hdp]; rfl
  ·show(R.has.set n false).length=(R.out.set n true).length; rw[dN,dN]; exact hl
  ·show(R.ex.set n cI).length=(R.out.set n true).length; rw[dN,dN]; exact hle
  ·show(R.out.set n true).length=_; rw[dN]
 refine cF (by simpa using k7) ?_
 by_cases k8:v.kind=8
 ·refine cT (by simpa using k8) ?_;have z:R.ph≠0:=λ h=>by
   rw[k8] at z3;have:R.cL.ph=0:=h;rw[this] at z3; cases z3
  have h8:R.s.bd.length<=8:=(f.so.so z).bd.l2;have hnl:=f.n z;have y:R.out.length<=1000:=by omega
  have G:cN R.cL R.C v=if cU R.C v.round then 4 else 0:=by rw[cN,ah B,ah H,ah (by rintro(h|h); exact I h; exact O h),ah k5,ah k6,ah k7,ak k8]
  have T:cw R.cL R.C v=e9 R.C v.round.toNat:=by rw[cw,ah B,ah H,ah I,ah O,ah k7,ak k8]
  have U:bA R.cL R.C v={ dr R.cL 8 with ph:=1 }:=by rw[bA,ah B,ah H,ah I,ah O,ah k5,ah k6,ah k7,ak k8]
  refine Ex8<|Ex8<|⟨_,_,_,R.C.p,Ex8 ⟨_,_,JZ F 2 rfl,v.round,F.ag 1 rfl 2,au (IP t3 (f.so.c z).ok v.round) ?_⟩⟩;rintro _ w109 ⟨t,h1,h2,h3,rfl,s109⟩;refine Ex8<|Ex8<|⟨_,_,_,t.p,Ex8 ⟨_,_,_,rfl,put (e:=0) s109 λ w110 s110=>?_⟩⟩;let R1:Rs:={ R with C:=t }
  cases he:cU R.C v.round with
  | true =>
   rw[he,ak rfl] at G;exact cF rfl ⟨R1,Z,hZ,s110,G.symm,λ h=>absurd h (by decide),λ _=>by show({ R with C:=t }:Rs)=R; rw[h3 he]⟩
  | false =>
  rw[he,ah (by decide)] at G;rw[he,ah (by decide)] at h1;let N:List aI:=aj r3 Z 90 :: A :: held t.bF :: held R1.dR :: M;have t110:St w0 w110.drew (Sep (aj r1 R1.cells.toArray 90 :: N)):=St.out (s110.quiet (aC.drew w110 [])) 2 rfl;have s:C4 w0 r1 R1 R.out.length N none none none false false false w110.drew:=XE t110;refine cT rfl ⟨λ w=>∃ g1 g2,C4 w0 r1 R1 R.out.length N (some g1) (some g2) none true true false w,?_,_,_,_,t110.ag 0 rfl 30,_,_,_,t110.ag 0 rfl 30,⟨It y s λ g w s=>⟨St.ag s 0 rfl 30,⟨yq y s λ g w s=>wq s λ w s=>qB s λ w s=>⟨_,_,s⟩,wq s λ w s=>yq y s λ g w s=>qB s λ w s=>⟨_,_,s⟩⟩⟩,yq y s λ g w s=>⟨St.ag s 0 rfl 30,It y s λ g w s=>wq s λ w s=>qB s λ w s=>⟨_,_,s⟩⟩⟩⟩;rintro w15 ⟨g1,g2,s15⟩ -;let E:Rs:={ R1 with has:=List.replicate R.out.length false,ex:=List.replicate R.out.length cI,ha:=qs g1,hc:=R.out.length,ea:=qs g2,ec:=R.out.length };have s15:St w0 w15 (Sep (aj r1 E.cells.toArray 90 :: gO (qs g1) R.out.length (List.replicate R.out.length false) :: uX (qs g2) R.out.length (List.replicate R.out.length cI) :: emp :: N)):=s15;refine s15.aN 0 rfl (j:=4) (by show 4<34; decide) rfl λ w16 s16=>?_;let D:Rs:={ E with ph:=1 };have s16:St w0 w16 (Sep ([aj r1 D.cells.toArray 90,gO (qs g1) R.out.length (List.replicate R.out.length false),uX (qs g2) R.out.length (List.replicate R.out.length cI),emp,aj r3 Z 90,A,held t.bF,held R1.dR]++M)):=s16;have s17:=St.rR (m:=M) [aj r1 D.cells.toArray 90,gO (qs g1) R.out.length (List.replicate R.out.length false),uX (qs g2) R.out.length (List.replicate R.out.length cI),emp,aj r3 Z 90,A,held t.bF,held R1.dR] [1,2,7,4,5,0,6] s16;have s17:St w0 w16 (Sep ([held D.dR,aj r3 Z 90,A,aj r1 D.cells.toArray 90,held t.bF]++M)):=Th s17 rfl rfl rfl rfl rfl rfl rfl;have s18:St w0 w16 (Sep (aj r3 Z 90 :: A :: aj r1 D.cells.toArray 90 :: held t.bF :: held D.dR :: M)):=St.rR (m:=M) [held D.dR,aj r3 Z 90,A,aj r1 D.cells.toArray 90,held t.bF] [1,2,3,4,0] s17;refine⟨D,Z,hZ,s18,G.symm,λ _=>⟨?_,?_,?_,?_,.inr ⟨B,rfl,rfl,h2⟩⟩,λ h=>absurd rfl h⟩
  ·rw[U];have a1:D.cL.bd=(dr R.cL 8).bd:=by
    rw[Tu];refine dz λ i _=>?_;unfold Rs.Bh;show(if i<R.out.length then (⟨(List.replicate R.out.length cI).getD i cI,(List.replicate R.out.length false).getD i false,R.out.getD i false⟩:Bd) else dG)=B8 (if i<R.out.length then _ else dG);rw[PL,PL]
    split<;>rfl
   show({ D.cL with s:=R.s.er,k:=none,bd:=D.cL.bd.map Bd.er }:Sx)=_;rw[a1]; rfl
  ·rw[T]; exact h1
  ·show(List.replicate R.out.length false).length=R.out.length; rw[j6]
  ·show(List.replicate R.out.length cI).length=R.out.length; rw[j6]
 refine cF (by simpa using k8) ?_;have G:cN R.cL R.C v=0:=by rw[cN,ah B,ah H,ah (by rintro(h|h); exact I h; exact O h),ah k5,ah k6,ah k7,ah k8]
 have T:cw R.cL R.C v=R.C:=by rw[cw,ah B,ah H,ah I,ah O,ah k7,ah k8]
 have U:bA R.cL R.C v=mA R.cL v:=by rw[bA,ah B,ah H,ah I,ah O,ah k5,ah k6,ah k7,ah k8]
 by_cases k9:v.kind=9
 ·refine cT (by simpa using k9) (phs (R1:=R) (p:=3) F λ w124 s124=>⟨{ R with ph:=3 },Z,hZ,s124,G.symm,λ _=>⟨?_,?_,f.h,f.e,.inr ⟨B,rfl,rfl,rfl⟩⟩,λ h=>absurd rfl h⟩)
  ·rw[U,mA,ah (by omega)]; rfl
  ·rw[T]
 refine cF (by simpa using k9) ⟨_,F.ag 1 rfl 10,F.aN 2 rfl (j:=31) (by show 31<34; decide) rfl λ w125 s125=>?_⟩;let R1:Rs:={ R with dec:=v.digest };have s125:St w0 w125 (Sep (aj r3 Z 90 :: A :: aj r1 R1.cells.toArray 90 :: held R1.C.bF :: held R1.dR :: M)) :=
  St.weak s125 (bz.right (bz.right (bz.right (bz.right (bz.left (eI λ w h=>(⟨h.s,h.has,h.ex,h.ei,h.out⟩:R1.dR w)))))))
 refine phs (R1:=R1) (p:=4) s125 λ w126 s126=>⟨{ R1 with ph:=4 },Z,hZ,s126,G.symm,λ _=>⟨?_,?_,f.h,f.e,.inr ⟨B,rfl,rfl,rfl⟩⟩,λ h=>absurd rfl h⟩
 ·rw[U,mA,ak (by omega)]; rfl
 ·rw[T]
def Y4(S:Sx)(C:Ck):Prop:=∀ i,i<8->C.dp.getD i false=(S.bd.getD i dG).out
def Wd{R:Rs}(h:QY R)(hp:R.ph≠0):Y4 R.cL R.C:=λ i hi=>by
 rw[oe hi,Rs.Bh]
 split
 ·rename_i g; exact h.dp hp i g
 ·rename_i g;have a:R.C.dp.length=R.C.s.bd.length:=(h.so.c hp).ok.dp;have b:=h.n hp;rw[h.cs hp] at a;rw[aJ,cr (by omega)]; rfl
def GM{l:List Bd}{n i:Nat}{y:Bd}(h:y.out=(l.getD n dG).out):((l.set n y).getD i dG).out=(l.getD i dG).out:=by
 by_cases a:n<l.length
 ·rw[jd a]
  split
  ·rename_i e; rw[e]; exact h
  ·rfl
 ·rw[Nj (by omega)]
def uJ(S:Sx)(n i:Nat):((cG S n).bd.getD i dG).out=(S.bd.getD i dG).out:=GM rfl
theorem xW(S:Sx)(i:Nat):∀ k,((dr S k).bd.getD i dG).out=(S.bd.getD i dG).out
 | 0=>rfl
 | k+1=>(uJ _ _ _).trans (xW S i k)
def AG(C:Ck)(r:Nat):(e9 C r).dp=C.dp/\(e9 C r).ov=false:=by
 unfold e9; split<;>exact⟨rfl,rfl⟩
def PD{S:Sx}{C:Ck}{e:Ev}(p:S.bd.length=8)(a:e.kind≠1)(h:Y4 S C)(n:e.kind=7->e.bidder.toNat<C.dp.length/\e.bidder.toNat<8):Y4 (bA S C e) (cw S C e):=λ i hi=>by
 have f:=h i hi
 by_cases b:e.kind=2
 ·rw[bA,cw,ah a,ah a,ak b,ak b]; exact f
 by_cases c:e.kind=3
 ·rw[bA,cw,ah a,ah a,ah b,ah b,ak c,ak c]
  split<;>exact f
 by_cases d:e.kind=4
 ·rw[bA,cw,ah a,ah a,ah b,ah b,ah c,ah c,ak d,ak d]; exact f
 by_cases j:e.kind=5
 ·rw[bA,cw,ah a,ah a,ah b,ah b,ah c,ah c,ah d,ah d,ak j,ah (by omega),ah (by omega)];exact f.trans (GM (y:={ S.bd.getD e.bidder.toNat dG with x:=(bW S.s.ps e.text).1,has:=true }) rfl).symm
 by_cases k:e.kind=6
 ·rw[bA,cw,ah a,ah a,ah b,ah b,ah c,ah c,ah d,ah d,ah j,ak k,ah (by omega),ah (by omega)];exact f.trans (uJ _ _ _).symm
 by_cases g:e.kind=7
 ·rw[bA,cw,ah a,ah a,ah b,ah b,ah c,ah c,ah d,ah d,ah j,ah k,ak g,ak g,uJ];obtain⟨m,o⟩:=n g;show(C.dp.set e.bidder.toNat true).getD i false=((S.bd.set e.bidder.toNat { S.bd.getD e.bidder.toNat dG with out:=true }).getD i dG).out;rw[jd m,jd (by omega)]
  split
  ·rfl
  ·exact f
 by_cases l:e.kind=8
 ·rw[bA,cw,ah a,ah a,ah b,ah b,ah c,ah c,ah d,ah d,ah j,ah k,ah g,ah g,ak l,ak l,(AG C _).1];exact f.trans (xW S i 8).symm
 ·rw[bA,cw,ah a,ah a,ah b,ah b,ah c,ah c,ah d,ah d,ah j,ah k,ah g,ah g,ah l,ah l];unfold mA
  split<;>exact f
def PE{S:Sx}{C:Ck}{e:Ev}(h:S.ph=1->C.ov=false)(hp:(bA S C e).ph=1):(cw S C e).ov=false:=by
 by_cases a:e.kind=1
 ·rw[cw,ak a]; rfl
 by_cases b:e.kind=2
 ·rw[bA,ah a,ak b] at hp; rw[cw,ah a,ak b]; exact h hp
 by_cases c:e.kind=3
 ·rw[bA,ah a,ah b,ak c] at hp;rw[cw,ah a,ah b,ak c];show eJ C=false
  cases g:eJ C with
  | false=>rfl
  | true=>rw[g,ak rfl] at hp; exact absurd (show(2:Int)=1 from hp) (by decide)
 by_cases d:e.kind=4
 ·rw[bA,ah a,ah b,ah c,ak d] at hp; exact absurd (show(2:Int)=1 from hp) (by decide)
 by_cases j:e.kind=8
 ·rw[cw,ah a,ah b,ah c,ah d,ah (by omega),ak j]; exact(AG C _).2
 by_cases f:e.kind=7
 ·rw[bA,ah a,ah b,ah c,ah d,ah (by omega),ah (by omega),ak f] at hp;rw[cw,ah a,ah b,ah c,ah d,ak f]; exact h hp
 rw[cw,ah a,ah b,ah c,ah d,ah f,ah j];refine h ?_
 by_cases i:e.kind=5
 ·rw[bA,ah a,ah b,ah c,ah d,ak i] at hp; exact hp
 by_cases k:e.kind=6
 ·rw[bA,ah a,ah b,ah c,ah d,ah i,ak k] at hp; exact hp
 rw[bA,ah a,ah b,ah c,ah d,ah i,ah k,ah f,ah j,mA] at hp
 split at hp
 ·exact absurd (show(4:Int)=1 from hp) (by decide)
 ·exact absurd (show(3:Int)=1 from hp) (by decide)
def PT{R R':Rs}{v:Ev}(e:QY R)(t:qx R.cL R.C v=0)(hi:v.In)(o:R'.cL.er=(kr R.cL R.C v).er)(hC:R'.C.er=(QM R.cL R.C v).er)(z:R'.has.length=R'.out.length)(he:R'.ex.length=R'.out.length)(hc:(v.kind=1/\R'.out.length=R'.s.bd.length/\R'.C.s=R'.s)\/(v.kind≠1/\R'.out.length=R.out.length/\R'.s=R.s/\R'.C.s=R.C.s)):QY R':=by
 obtain⟨D,I⟩:=qX t;obtain⟨u,z2,z3,z4,z5⟩:=jP D;obtain⟨G,H⟩:=JQ e.so t hi;have j:R'.ph=(bA R.cL R.C v).ph:=show R'.cL.er.ph=_ from(congrArg Sx.ph o).trans rfl;have k:R'.ph≠0:=by rw[j]; exact H
 have n0:v.kind≠1->R.ph≠0:=λ f h=>f (Gm (tf u) (by have:R.cL.ph=0:=h; rw[<- this]; exact z3));have m:=BL.er G o hC;have B:R'.out.length=R'.s.bd.length:=by
  rcases hc with⟨_,a,_⟩|⟨f,a,b,_⟩
  ·exact a
  ·rw[a,b]; exact e.n (n0 f)
 have q:R'.C.dp=(cw R.cL R.C v).dp:=show R'.C.er.dp=_ from(congrArg Ck.dp hC).trans rfl;have p:R'.cL.bd.map Bd.er=(bA R.cL R.C v).bd.map Bd.er:=show R'.cL.er.bd=_ from(congrArg Sx.bd o).trans rfl;have r:∀ i,i<8->(R'.Bh i).out=((bA R.cL R.C v).bd.getD i dG).out:=λ i x=>by
  have a:((R'.cL.bd.map Bd.er).getD i dG).out=(((bA R.cL R.C v).bd.map Bd.er).getD i dG).out:=by rw[p]
  have g:∀ l:List Bd,((l.map Bd.er).getD i dG).out=(l.getD i dG).out:=λ l=>by
   rw[aJ,aJ,dD]
   cases l[i]? <;> rfl
  rw[g,g,oe x] at a;exact a
 refine⟨m,λ _=>B,λ h=>absurd h k,z,he,λ _=>?_,λ h=>?_,λ _ i A=>?_⟩
 ·rcases hc with⟨_,_,a⟩|⟨f,_,b,c⟩
  ·exact a
  ·rw[c,b]; exact e.cs (n0 f)
 ·have a:R'.C.ov=(cw R.cL R.C v).ov:=show R'.C.er.ov=_ from(congrArg Ck.ov hC).trans rfl;rw[a]; exact PE (λ g=>e.ov g) (j ▸ h)
 ·have F:R'.s.bd.length<=8:=(m.so k).bd.l2;have i8:i<8:=by omega
  have a:=r i i8;rw[Rs.Bh,ak A] at a;have a:R'.out.getD i false=((bA R.cL R.C v).bd.getD i dG).out:=a;rw[q,a]
  by_cases f:v.kind=1
  ·rw[cw,bA,ak f,ak f];have w:R.ph=0:=by
    rw[f] at z3;have:dx 1 R.ph=true:=z3;simpa[dx] using this
   show(List.replicate (pX v.text).bd.length false).getD i false=(R.cL.bd.getD i dG).out;rw[PL,oe i8,Fe (e.n0 w)]; rfl
  ·refine PD e.so.b8 f (Wd e (n0 f)) (λ E=>?_) i i8;have J:v.bidder<(R.s.bd.length:Int):=z4 (by rw[E]; rfl);have y:=(eH u hi.d).b;have a:R.C.dp.length=R.C.s.bd.length:=(e.so.c (n0 f)).ok.dp;rw[e.cs (n0 f)] at a;have F:R.s.bd.length<=8:=(e.so.so (n0 f)).bd.l2;omega
def Y3(w0:af)(R:Rs)(v:Ev)(M:List aI):KP:=λ r w'=>∃ R':Rs,r=.tuple #[.agg R'.cells.toArray,iv (qx R.cL R.C v)]/\St w0 w' (Sep (held R'.C.bF :: held R'.dR :: M))/\QY R'/\(qx R.cL R.C v=0->R'.cL.er=(kr R.cL R.C v).er/\R'.C.er=(QM R.cL R.C v).er)/\(qx R.cL R.C v≠0->R'=R)
set_option maxHeartbeats 2000000 in
theorem Ax{w0 w:af}{R:Rs}{v:Ev}{M:List aI}(s:St w0 w (Sep (held R.C.bF :: held R.dR :: M)))(hok:QY R)(hi:v.In)(htx:v.text.length<=80000) :
  CP 25 #[.agg R.cells.toArray,v.v] w ((Y3 w0 R v M)):=by
 have u:v.text.length<=1000000000000:=by omega
 refine @Gr _ _ _ _ _ _ _ _ _ _ _ _ _ _ _ _ _ _ _ _ _ _ _ _ _ _ _ _ _ _ _ _ _ _ _ _ R.C.p _ _ _ _ _ _ _ _ _ _ _ _ _ _ _ _ _ _ _ _ _ _ _ _ _ v.want _ _ _ _ ?_;refine s.aB R.cells.toArray λ r1 w1 s1=>s1.aB v.cells.toArray λ r2 w2 s2=>s2.aB _ λ r3 w3 T=>?_;let l:aI:=aj r2 v.cells.toArray 45;obtain⟨Z,y,T⟩:∃ Z:Array Value,Z.size=34/\St w0 w3 (Sep (aj r3 Z 90 :: l :: aj r1 R.cells.toArray 90 :: held R.C.bF :: held R.dR :: M)):=⟨_,rfl,T⟩;refine⟨_,_,_,v.want,_,_,T.cellsIn 1 rfl,au (AB w3 hi u) ?_⟩;rintro _ w4 ⟨rfl,c4⟩;have a:St w0 w4 (Sep (aj r3 Z 90 :: l :: aj r1 R.cells.toArray 90 :: held R.C.bF :: held R.dR :: M)):=T.quiet c4;refine⟨_,rfl,?_⟩
 by_cases he:fE v=0
 rotate_left
 ·have c:qx R.cL R.C v=fE v:=by
   have:jV R.cL v=fE v:=by rw[jV,ak he]
   rw[qx,this,ak he]
  exact cT (by simpa using he) (Ex8<|Ex8<|Ex8<|Ex8<|Ex4<|⟨R.C.p,Ex8<|Ex8<|Ex4<|⟨_,_,a.cellsIn 2 rfl,a.az 0 rfl R.cells (by rw[y]; rfl) R.one λ Q e=>(Ex8<|Ex8<|Ex8<|Ex8<|Ex4<|⟨R.C.p,Ex8<|Ex8<|Ex4<|⟨_,_,St.cellsIn (cs:=R.cells.toArray) e 0 rfl,R,by rw[c]; rfl,e.second.second.second,hok,λ h=>absurd (c.symm.trans h) he,λ _=>rfl⟩⟩)⟩⟩)
 have t:jV R.cL v=if 600<=R.cnt then 18 else if dx v.kind R.ph=false then 10 else if cE v.kind=true/\(R.s.bd.length:Int)<=v.bidder then 6 else if cE v.kind=true/\(R.cL.bd.getD v.bidder.toNat dG).out=true then 10 else 0:=by rw[jV,ah (λ h=>h he)]; rfl
 have S:∀ {x:Int},x≠0->jV R.cL v=x->qx R.cL R.C v=x:=λ {x} hx h=>by rw[qx,h,ak hx]
 have hR:=eH he hi.d;have hR1:1<=v.kind:=tf he;refine cF (by simpa using he) ⟨_,a.ag 2 rfl 32,?_⟩
 by_cases f:600<=R.cnt
 ·have c:=S (x:=18) (by decide) (by rw[t,ak f]);exact aP f (Ex8<|Ex8<|Ex8<|Ex8<|Ex4<|⟨R.C.p,Ex8<|Ex8<|Ex4<|⟨_,_,a.cellsIn 2 rfl,a.az 0 rfl R.cells (by rw[y]; rfl) R.one λ Q e=>(Ex8<|Ex8<|Ex8<|Ex8<|Ex4<|⟨R.C.p,Ex8<|Ex8<|Ex4<|⟨_,_,St.cellsIn (cs:=R.cells.toArray) e 0 rfl,R,by rw[c]; rfl,e.second.second.second,hok,λ h=>absurd (c.symm.trans h) (by decide),λ _=>rfl⟩⟩)⟩⟩)
 rw[ah f] at t;refine aU f ⟨_,a.ag 1 rfl 0,_,a.ag 2 rfl 4,au (BE w4 v.kind R.ph) ?_⟩;rintro _ w7 ⟨rfl,rfl⟩;refine⟨_,rfl,?_⟩
 cases hp:dx v.kind R.ph with
 | false =>
  have c:=S (x:=10) (by decide) (by rw[t,ak hp]);exact cT rfl (Ex8<|Ex8<|Ex8<|Ex8<|Ex4<|⟨R.C.p,Ex8<|Ex8<|Ex4<|⟨_,_,a.cellsIn 2 rfl,a.az 0 rfl R.cells (by rw[y]; rfl) R.one λ Q e=>(Ex8<|Ex8<|Ex8<|Ex8<|Ex4<|⟨R.C.p,Ex8<|Ex8<|Ex4<|⟨_,_,St.cellsIn (cs:=R.cells.toArray) e 0 rfl,R,by rw[c]; rfl,e.second.second.second,hok,λ h=>absurd (c.symm.trans h) (by decide),λ _=>rfl⟩⟩)⟩⟩)
 | true =>
 rw[ah (by rw[hp]; decide)] at t;refine cF rfl ⟨λ w9=>St w0 w9 (Sep (aj r3 Z 90 :: l :: aj r1 R.cells.toArray 90 :: held R.C.bF :: held R.dR :: M))/\jV R.cL v=0,?_,?_⟩
 ·rintro w9 ⟨s9,L⟩ -;have eE:qx R.cL R.C v=cN R.cL R.C v:=by rw[qx,L,ah (λ h=>h rfl)]
  have t9:St w0 w9 (Sep (held R.C.bF :: held R.dR :: aj r3 Z 90 :: l :: aj r1 R.cells.toArray 90 :: M)):=St.rR (m:=M) [aj r3 Z 90,l,aj r1 R.cells.toArray 90,held R.C.bF,held R.dR] [3,4,0,1,2] s9;refine Ex8<|Ex8<|Ex8<|Ex8<|Ex4<|⟨R.C.p,Ex8<|Ex8<|Ex4<|⟨_,_,s9.cellsIn 2 rfl,_,_,_,v.want,_,_,s9.cellsIn 1 rfl,au (GF t9 hok L hi htx) ?_⟩⟩;rintro _ w10 ⟨R',rfl,s10,h10,F⟩;refine Ex8<|Ex8<|Ex8<|Ex8<|Ex4<|⟨R'.C.p,Ex8<|Ex8<|Ex4<|⟨_,_,_,rfl,s10.aB _ λ r4 w11 z=>?_⟩⟩;obtain⟨U,hZ4,z⟩:∃ U:Array Value,U.size=34/\St w0 w11 (Sep (aj r4 U 90 :: held R'.C.bF :: held R'.dR :: aj r3 Z 90 :: l :: aj r1 R.cells.toArray 90 :: M)):=⟨_,rfl,z⟩;refine z.az 0 rfl R'.cells (by rw[hZ4]; rfl) R'.one λ A o=>?_;have o:St w0 A (Sep (aj r4 R'.cells.toArray 90 :: held R'.C.bF :: held R'.dR :: aj r3 Z 90 :: l :: aj r1 R.cells.toArray 90 :: M)):=o
  by_cases B:cN R.cL R.C v=0
  rotate_left
  ·have eR:R'=R:=F B;subst eR;have c:qx R'.cL R'.C v=cN R'.cL R'.C v:=eE;have t12:St w0 A (Sep (aj r3 Z 90 :: l :: aj r1 R'.cells.toArray 90 :: held R'.C.bF :: held R'.dR :: M)):=St.rR (m:=M) [aj r4 R'.cells.toArray 90,held R'.C.bF,held R'.dR,aj r3 Z 90,l,aj r1 R'.cells.toArray 90] [3,4,5,1,2] o;exact cT (by simpa using B) (Ex8<|Ex8<|Ex8<|Ex8<|Ex4<|⟨R'.C.p,Ex8<|Ex8<|Ex4<|⟨_,_,t12.cellsIn 2 rfl,t12.az 0 rfl R'.cells (by rw[y]; rfl) R'.one λ Q e=>(Ex8<|Ex8<|Ex8<|Ex8<|Ex4<|⟨R'.C.p,Ex8<|Ex8<|Ex4<|⟨_,_,St.cellsIn (cs:=R'.cells.toArray) e 0 rfl,R',by rw[c]; rfl,e.second.second.second,hok,λ h=>absurd (c.symm.trans h) B,λ _=>rfl⟩⟩)⟩⟩)
  obtain⟨f1,f2,f3,f4,f5⟩:=h10 B;have a0:qx R.cL R.C v=0:=by rw[eE,B]
  refine cF (by rw[B]; rfl) ⟨_,_,_,v.want,_,_,o.cellsIn 4 rfl,au (GG A hi u) ?_⟩;rintro _ w14 ⟨rfl,V⟩;rw[ak he];have N:=o.quiet V;have H:R'.cnt=R.cnt:=by
   have:R'.cL.er.cnt=(bA R.cL R.C v).er.cnt:=congrArg Sx.cnt f1;exact this.trans (z7 R.cL R.C v).1
  have G:=hok.so.cnt;have G:0<=R.cnt/\R.cnt<=600:=G;have hd0:0<=R.dig/\R.dig<18446744073709551616:=hok.so.dig;let D:Rs:={ R' with cnt:=R'.cnt+1 };refine⟨_,_,rfl,_,N.ag 0 rfl 32,N.aN 0 rfl (j:=32) (by show 32<34; decide) rfl λ P k=>?_⟩;rw[cW (n:=R'.cnt+1) ⟨by omega,by omega⟩] at k;have X:R'.cells.toArray.setIfInBounds 32 (iv (R'.cnt+1))=D.cells.toArray:=by simp[D,Rs.cells,Po.cells,Se.arr,Ck.cells,I6.on]
  have k:St w0 P (Sep (aj r4 (R'.cells.toArray.setIfInBounds 32 (iv (R'.cnt+1))) 90 :: held R'.C.bF :: held R'.dR :: aj r3 Z 90 :: l :: aj r1 R.cells.toArray 90 :: M)):=k;rw[X] at k;have hdn:(R.dig.toNat:Int)=R.dig:=j4 hd0.1;refine⟨R.dig,(k.ag 5 rfl 33).trans rfl,?_⟩;rw[<- hdn];refine au (IF P R.dig.toNat (by omega) (bZ v) (by have:=Ca he; omega)) ?_;rintro _ w16 ⟨rfl,W⟩;have s16:=k.quiet W;let g:Rs:={ R' with cnt:=R'.cnt+1,dig:=((jo R.dig.toNat (bZ v):Nat):Int) };refine⟨_,rfl,s16.aN 0 rfl (j:=33) (by show 33<34; decide) rfl λ w17 r=>?_⟩;have Y:D.cells.toArray.setIfInBounds 33 (.int .u64 ((jo R.dig.toNat (bZ v):Nat):Int))=g.cells.toArray:=by simp[g,D,Rs.cells,Po.cells,Se.arr,Ck.cells,I6.on]
  have r:St w0 w17 (Sep (aj r4 (D.cells.toArray.setIfInBounds 33 (.int .u64 ((jo R.dig.toNat (bZ v):Nat):Int))) 90 :: held R'.C.bF :: held R'.dR :: aj r3 Z 90 :: l :: aj r1 R.cells.toArray 90 :: M)):=r;rw[Y] at r;have E:g.cL.er=(kr R.cL R.C v).er:=by
   show({ R'.cL.er with cnt:=R'.cnt+1,dig:=((jo R.dig.toNat (bZ v):Nat):Int) }:Sx)={ (bA R.cL R.C v).er with cnt:=R.cnt+1,dig:=((jo R.dig.toNat (bZ v):Nat):Int) };rw[f1,H]
  refine Ex8<|Ex8<|Ex8<|Ex8<|Ex4<|⟨g.C.p,Ex8<|Ex8<|Ex4<|⟨_,_,r.cellsIn 0 rfl,r.az 3 rfl g.cells (by rw[y]; rfl) g.one λ w18 O=>(Ex8<|Ex8<|Ex8<|Ex8<|Ex4<|⟨g.C.p,Ex8<|Ex8<|Ex4<|⟨_,_,St.cellsIn (cs:=g.cells.toArray) O 3 rfl,g,by rw[a0]; rfl,?_,?_,λ _=>⟨?_,f2⟩,λ h=>absurd a0 h⟩⟩)⟩⟩
  ·have t18:St w0 w18 (Sep (held R'.C.bF :: held R'.dR :: M)):=St.rR (m:=M) [aj r4 g.cells.toArray 90,held R'.C.bF,held R'.dR,aj r3 g.cells.toArray 90,l,aj r1 R.cells.toArray 90] [1,2] O;exact St.weak t18 (bz.right (bz.left (eI λ w h=>(⟨h.s,h.has,h.ex,h.ei,h.out⟩:g.dR w))))
  ·exact PT (R':=g) hok a0 hi E f2 f3 f4 f5
  ·exact E
 ·refine⟨λ b w19=>b=cE v.kind/\w19=w7,?_,_,a.ag 1 rfl 0,?_⟩
  ·rintro w8 _ ⟨rfl,rfl⟩ -
   cases hn:cE v.kind with
   | false=>exact cF rfl ⟨a,by rw[t,ah (λ h=>by rw[hn] at h; cases h.1),ah (λ h=>by rw[hn] at h; cases h.1)]⟩
   | true =>
    have K:R.ph≠0:=λ h=>by
     rw[h] at hp;have:=Gm hR1 hp;rw[this] at hn; cases hn
    have J:=hok.n K;have hb0:0<=v.bidder:=hR.b.1;have h8:R.s.bd.length<=8:=(hok.so.so K).bd.l2;refine cT rfl ⟨_,a.ag 1 rfl 1,_,_,_,a.ag 2 rfl 30,?_⟩
    by_cases g1:v.bidder>=(R.out.length:Int)
    ·have c:=S (x:=6) (by decide) (by rw[t,ak ⟨hn,by rw[<- J]; exact g1⟩]);exact aP g1 (Ex8<|Ex8<|Ex8<|Ex8<|Ex4<|⟨R.C.p,Ex8<|Ex8<|Ex4<|⟨_,_,a.cellsIn 2 rfl,a.az 0 rfl R.cells (by rw[y]; rfl) R.one λ Q e=>(Ex8<|Ex8<|Ex8<|Ex8<|Ex4<|⟨R.C.p,Ex8<|Ex8<|Ex4<|⟨_,_,St.cellsIn (cs:=R.cells.toArray) e 0 rfl,R,by rw[c]; rfl,e.second.second.second,hok,λ h=>absurd (c.symm.trans h) (by decide),λ _=>rfl⟩⟩)⟩⟩)
    rw[ah (λ h=>g1 (by rw[J]; exact h.2))] at t;obtain⟨n,I⟩:∃ n:Nat,v.bidder=n:=⟨v.bidder.toNat,by omega⟩;have hg:(R.cL.bd.getD v.bidder.toNat dG).out=R.out.getD n false:=by rw[I,aD,oe (by omega),Rs.Bh,ak (by omega)]
    refine aU g1 ⟨_,_,_,a.ag 2 rfl 30,_,a.ag 1 rfl 1,?_⟩;rw[I] at g1 ⊢;have hr:R.dR w8:=a.bC 4 rfl;obtain⟨q,hq,hc⟩:=hr.out.at (i:=n) (x:=R.out.getD n false) (by rw[aJ,gE (by omega)]; rfl);have hcc:w8.cell? (Addr.add q (((n:Nat):Int).toNat*1))=some (.bool (R.out.getD n false)):=by
     have:=aM hc 0 _ rfl;rw[Addr.add_add] at this; rw[aD]; exact this
    refine aq hq ⟨by omega,by omega,_,hcc,?_⟩
    cases ho:R.out.getD n false with
    | true =>
     have c:=S (x:=10) (by decide) (by rw[t,ak ⟨hn,hg.trans ho⟩]);exact cT rfl (Ex8<|Ex8<|Ex8<|Ex8<|Ex4<|⟨R.C.p,Ex8<|Ex8<|Ex4<|⟨_,_,a.cellsIn 2 rfl,a.az 0 rfl R.cells (by rw[y]; rfl) R.one λ Q e=>(Ex8<|Ex8<|Ex8<|Ex8<|Ex4<|⟨R.C.p,Ex8<|Ex8<|Ex4<|⟨_,_,St.cellsIn (cs:=R.cells.toArray) e 0 rfl,R,by rw[c]; rfl,e.second.second.second,hok,λ h=>absurd (c.symm.trans h) (by decide),λ _=>rfl⟩⟩)⟩⟩)
    | false=>exact cF rfl ⟨a,by rw[t,ah (λ h=>by rw[hg,ho] at h; cases h.2)]⟩
  ·by_cases k2:v.kind=2
   ·exact cT (by simpa using k2) ⟨by rw[k2]; rfl,rfl⟩
   refine cF (by simpa using k2) ⟨_,a.ag 1 rfl 0,?_⟩
   by_cases k5:v.kind>=5
   ·refine aP k5 ⟨_,a.ag 1 rfl 0,?_,rfl⟩;show decide (v.kind<=7)=decide (v.kind=2\/v.kind=5\/v.kind=6\/v.kind=7);exact Dk.2 (by omega)
   ·refine aU k5 ⟨?_,rfl⟩;show false=decide (v.kind=2\/v.kind=5\/v.kind=6\/v.kind=7);exact(dF (by omega)).symm
def W0:Ck:={ s:=dL,o:=⟨0,0,0,0⟩,cl:=[],p:=z6,ask:=[],bd:=[],dp:=[],ov:=false,ka:=none,kc:=0,xa:=none,xc:=0,ya:=none,yc:=0,za:=none,zc:=0 }
def OW(o:Po):BL (rL o) W0:=⟨rfl,⟨by show(0:Int)<=0; decide,by show(0:Int)<=4; decide⟩,λ _=>rfl,λ h=>absurd rfl h,λ h=>absurd rfl h,λ h=>absurd rfl h,⟨by show(0:Int)<=0; decide,by show(0:Int)<=600; decide⟩,⟨by show(0:Int)<=0; decide,by show(0:Int)<18446744073709551616; decide⟩,λ y a b=>by
 simp only[rL,cJ,mb,mc] at a;rcases a with rfl|rfl|rfl|rfl|rfl|rfl|rfl|rfl<;>cases b⟩
def Kr(o:Po):(rL o).er=rL o:=by
 show({ rL o with bd:=[dG.er,dG.er,dG.er,dG.er,dG.er,dG.er,dG.er,dG.er] }:Sx)=_;rw[QJ]; rfl
def Ks(o:Po)(w:af):uq (rL o) W0 w:=⟨⟨Jr w,λ y a=>by
 simp only[rL,cJ,mb,mc] at a;rcases a with rfl|rfl|rfl|rfl|rfl|rfl|rfl|rfl<;>exact sO w⟩,λ q h=>by cases h⟩
def Qh(S:Sx)(e:Ev):jV S.er e=jV S e:=by
 have h:(S.er.bd.getD e.bidder.toNat dG).out=(S.bd.getD e.bidder.toNat dG).out:=by rw[sX]; rfl
 unfold jV;rw[h]; rfl
def Nw(S:Sx)(C:Ck)(e:Ev):qx S.er C.er e=qx S C e:=by
 unfold qx;rw[Qh,DL]
def Nx(S:Sx)(C:Ck)(e:Ev):(kr S.er C.er e).er=(kr S C e).er:=by
 show({ (bA S.er C.er e).er with cnt:=S.cnt+1,dig:=((jo S.dig.toNat (bZ e):Nat):Int) }:Sx)={ (bA S C e).er with cnt:=S.cnt+1,dig:=((jo S.dig.toNat (bZ e):Nat):Int) };rw[DM]
structure Cs where
 S:Sx
 C:Ck
 cn:Nat->Int
 rf:Int
 dm:Nat->Int
 bi:Nat->Int
 wd:Nat->Int
 rr:List Int
def dB(f:Nat->Int)(i:Nat):Nat->Int:=oC f i (f i+1)
def iU(σ:Cs)(e:Ev):Cs :=
 if qx σ.S σ.C e≠0 then { σ with rf:=σ.rf+1 } else
  { S:=(kr σ.S σ.C e).er,C:=(QM σ.S σ.C e).er,cn:=dB σ.cn e.kind.toNat,rf:=σ.rf,dm:=if e.kind=2 then dB σ.dm e.bidder.toNat else σ.dm,bi:=if e.kind=5 then dB σ.bi e.bidder.toNat else σ.bi,wd:=if e.kind=6 then dB σ.wd e.bidder.toNat else σ.wd,rr:=if e.kind=8 then σ.rr++[e.round] else σ.rr }
def ZX(o:Po):Cs:={ S:=rL o,C:=W0,cn:=λ _=>0,rf:=0,dm:=λ _=>0,bi:=λ _=>0,wd:=λ _=>0,rr:=[] }
def lO(o:Po)(l:List Ev):Cs:=l.foldl iU (ZX o)
def CQ(o:Po)(l:List Ev)(e:Ev):lO o (l++[e])=iU (lO o l) e:=by unfold lO; rw[iJ]; rfl
def kB(f:Nat->Int):Nat->Int
 | 0=>0
 | n+1=>kB f n+f n
theorem Qj(f:Nat->Int)(i:Nat)(x:Int):∀ n,n<=i->kB (oC f i x) n=kB f n
 | 0,_=>rfl
 | n+1,h=>by rw[kB,kB,Qj f i x n (by omega),iF _ _ (by omega)]
theorem tE(f:Nat->Int)(i:Nat):∀ n,i<n->kB (dB f i) n=kB f n+1
 | 0,h=>by omega
 | n+1,h=>by
  unfold dB
  by_cases e:i=n
  ·subst e; rw[kB,kB,Qj f i _ i (aO _),eB]; omega
  ·have:=tE f i n (by omega);unfold dB at this;rw[kB,kB,this,iF _ _ (Dq e)]; omega
theorem G9{f:Nat->Int}:∀ n,(∀ i,i<n->f i=0)->kB f n=0
 | 0,_=>rfl
 | n+1,h=>by rw[kB,G9 n λ i hi=>h i (by omega),h n (by omega)]; rfl
theorem EO{f g:Nat->Int}:∀ n,(∀ i,i<n->f i=g i)->kB f n=kB g n
 | 0,_=>rfl
 | n+1,h=>by rw[kB,kB,EO n λ i hi=>h i (by omega),h n (by omega)]
def iQ(f:Nat->Int)(i j:Nat):dB f i j=if j=i then f i+1 else f j:=rfl
def vU(S:Sx)(i:Nat):Int:=if (S.bd.getD i dG).out then 1 else 0
def wZ{l:List Bd}{n i:Nat}{y:Bd}(h:n<l.length):(l.set n y).getD i dG=if i=n then y else l.getD i dG:=by
 rw[aJ,aJ,iW]
 by_cases e:n=i
 ·subst e; rw[ak rfl,ak rfl,ak h]; rfl
 ·rw[ah e,ah (Dq e)]
def uN{S:Sx}{n:Nat}(h:n<S.bd.length)(i:Nat):((cG S n).bd.getD i dG).out=(S.bd.getD i dG).out:=by
 unfold cG;show((S.bd.set n _).getD i dG).out=_;rw[wZ h]
 split
 ·rename_i e; subst e; rfl
 ·rfl
theorem AV{S:Sx}(h:S.bd.length=8)(i:Nat):∀ k,k<=8->((dr S k).bd.getD i dG).out=(S.bd.getD i dG).out
 | 0,_=>rfl
 | k+1,a=>by rw[dr,uN (by rw[si h]; omega),AV h i k (by omega)]
def RH{S:Sx}{C:Ck}{e:Ev}(b:S.bd.length=8)(m:e.bidder.toNat<8)(i:Nat):((bA S C e).bd.getD i dG).out=if e.kind=7/\i=e.bidder.toNat then true else (S.bd.getD i dG).out:=by
 unfold bA
 by_cases c:e.kind=1
 ·rw[ak c,ah (by omega)]
 rw[ah c]
 by_cases d:e.kind=2
 ·rw[ak d,ah (by omega)]
 rw[ah d]
 by_cases f:e.kind=3
 ·rw[ak f,ah (show ¬ (e.kind=7/\i=e.bidder.toNat) from λ h=>by omega)]
  split<;>rfl
 rw[ah f]
 by_cases g:e.kind=4
 ·rw[ak g,ah (by omega)]
 rw[ah g]
 by_cases j:e.kind=5
 ·rw[ak j,ah (by omega)];unfold qy;show((S.bd.set _ _).getD i dG).out=_;rw[wZ (by omega)]
  split
  ·rename_i e; subst e; rfl
  ·rfl
 rw[ah j]
 by_cases k:e.kind=6
 ·rw[ak k,ah (by omega)];exact uN (by omega) i
 rw[ah k]
 by_cases a:e.kind=7
 ·have n:(jj S e.bidder.toNat).bd.length=8:=by rw[jj,dN]; exact b
  rw[ak a,uN (by omega)];unfold jj;show((S.bd.set _ _).getD i dG).out=_;rw[wZ (by omega)]
  by_cases ei:i=e.bidder.toNat
  ·rw[ak ei,ak ⟨a,ei⟩]
  ·rw[ah ei,ah λ h=>ei h.2]
 rw[ah a]
 by_cases l:e.kind=8
 ·rw[ak l,ah (by omega)];exact AV b i 8 (aO _)
 rw[ah l,ah (by omega)];unfold mA
 split<;>rfl
def H8(S:Sx)(i:Nat):(S.er.bd.getD i dG).out=(S.bd.getD i dG).out:=by rw[sX]; rfl
def RG{S:Sx}{C:Ck}{e:Ev}(c:e.kind≠1):(bA S C e).s.bd.length=S.s.bd.length:=by
 have a:∀ k,(dr S k).s=S.s:=λ k=>by
  induction k with
  | zero=>rfl
  | succ k b=>exact b
 unfold bA;rw[ah c]
 split
 ·rfl
 split
 ·split<;>rfl
 split
 ·rfl
 split
 ·rfl
 split
 ·rfl
 split
 ·rfl
 split
 ·show(dr S 8).s.bd.length=_;rw[a 8]
 ·unfold mA
  split<;>rfl
structure Iv (σ:Cs) (k:Nat):Prop where
 ok:BL σ.S σ.C
 all:σ.rf+kB σ.cn 11=k
 c0:σ.cn 0=0
 c1:σ.cn 1=if σ.S.ph=0 then 0 else 1
 z:σ.S.ph=0->(∀ i,σ.cn i=0)/\∀ i,i<8->σ.dm i=0/\σ.bi i=0/\σ.wd i=0/\vU σ.S i=0
 dm:kB σ.dm 8=σ.cn 2
 bi:kB σ.bi 8=σ.cn 5
 wd:kB σ.wd 8=σ.cn 6
 ou:kB (vU σ.S) 8=σ.cn 7
 hi:∀ i,i<8->σ.S.s.bd.length<=i->σ.dm i=0/\σ.bi i=0/\σ.wd i=0/\vU σ.S i=0
 rr:(σ.rr.length:Int)=σ.cn 8
 bd:(∀ i,0<=σ.cn i/\σ.cn i<=k)/\0<=σ.rf/\σ.rf<=k/\∀ i,(0<=σ.dm i/\σ.dm i<=k)/\(0<=σ.bi i/\σ.bi i<=k)/\0<=σ.wd i/\σ.wd i<=k
def W1(o:Po):Iv (ZX o) 0:=by
 have a:∀ i,vU (rL o) i=0:=λ i=>by
  unfold vU
  match i with
  | 0|1|2|3|4|5|6|7=>rfl
  | n+8=>rfl
 exact⟨OW o,rfl,rfl,rfl,λ _=>⟨λ _=>rfl,λ i _=>⟨rfl,rfl,rfl,a i⟩⟩,rfl,rfl,rfl,G9 8 λ i _=>a i,λ i _ _=>⟨rfl,rfl,rfl,a i⟩,rfl,⟨λ _=>⟨cq _,cq _⟩,cq _,cq _,λ _=>⟨⟨cq _,cq _⟩,⟨cq _,cq _⟩,cq _,cq _⟩⟩⟩
def TD{σ:Cs}{k:Nat}(h:Iv σ k){e:Ev}(hi:e.In):Iv (iU σ e) (k+1):=by
 obtain⟨ok,all,c0,c1,z,dm,bi,wd,ou,r,rr,⟨y,L,U,x⟩⟩:=h;unfold iU
 by_cases ha:qx σ.S σ.C e≠0
 ·rw[ak ha];exact⟨ok,by show σ.rf+1+kB σ.cn 11=((k+1:Nat):Int); omega,c0,c1,z,dm,bi,wd,ou,r,rr,⟨λ i=>by have:=y i; show 0<=σ.cn i/\σ.cn i<=((k+1:Nat):Int); omega,by show 0<=σ.rf+1; omega,by show σ.rf+1<=((k+1:Nat):Int); omega,λ i=>by have:=x i; show(0<=σ.dm i/\σ.dm i<=((k+1:Nat):Int))/\(0<=σ.bi i/\σ.bi i<=((k+1:Nat):Int))/\0<=σ.wd i/\σ.wd i<=((k+1:Nat):Int); omega⟩⟩
 rw[ah ha];have ha:qx σ.S σ.C e=0:=by simpa using ha
 obtain⟨T,V⟩:=qX ha;obtain⟨h1,h2,h3,h4,O⟩:=jP T;have A:=eH h1 hi.d;have B:=tf h1;obtain⟨Ky,v⟩:=JQ ok ha hi;have P:=ok.b8;obtain⟨kk,D⟩:∃ kk:Nat,e.kind=kk:=⟨e.kind.toNat,(j4 (by omega)).symm⟩;obtain⟨n,W⟩:∃ n:Nat,e.bidder=n:=⟨e.bidder.toNat,(j4 A.b.1).symm⟩;have M:e.kind.toNat=kk:=by omega
 have G:e.bidder.toNat=n:=by omega
 have Q:1<=kk/\kk<=10:=by have:=A.k; omega
 have l:n<8:=by have:=A.b; omega
 have a:∀ i,vU ((kr σ.S σ.C e).er) i=if kk=7/\i=n then 1 else vU σ.S i:=λ i=>by
  unfold vU;rw[H8];show(if ((bA σ.S σ.C e).bd.getD i dG).out=true then (1:Int) else 0)=_;have q:=RH (S:=σ.S) (C:=σ.C) (e:=e) P (by omega) i
  by_cases g:kk=7/\i=n
  ·rw[q.trans (ak ⟨by omega,by omega⟩),ak g]; rfl
  ·rw[q.trans (ah λ h=>g ⟨by omega,by omega⟩),ah g]
 have hlen:kk≠1->((kr σ.S σ.C e).er).s.bd.length=σ.S.s.bd.length:=λ h=>RG (by omega);have c:kk=1<->σ.S.ph=0:=by
  constructor
  ·intro h;rw[D,h] at h3;have:dx ((1:Nat):Int) σ.S.ph=(σ.S.ph==0):=by rw[dx,ak (by rfl)]
   rw[this] at h3; simpa using h3
  ·intro h;rw[h] at h3;have:=Gm B h3; omega
 have u:∀ j:Nat,(j=2\/j=5\/j=6\/j=7)->kk=j->(n:Int)<σ.S.s.bd.length/\(σ.S.bd.getD n dG).out=false:=λ j I h=>by
  have t:cE e.kind=true:=by rw[cE]; exact dT (by omega)
  have F:=h4 t;have w:=O t;rw[G] at w;exact⟨by omega,w⟩
 rw[M,G];have H:∀ (f:Nat->Int) (i j:Nat),(0<=f j/\f j<=k)->(0<=f i/\f i<=k)->0<=dB f i j/\dB f i j<=((k+1:Nat):Int):=λ f i j h1 h2=>by
  rw[iQ]
  split<;>omega
 have m:∀ (p:Prop) [Decidable p] (f:Nat->Int) (j:Nat),(∀ i,0<=f i/\f i<=k)->0<=(if p then dB f n else f) j/\(if p then dB f n else f) j<=((k+1:Nat):Int):=λ p _ f j h=>by
  split
  ·exact H f n j (h j) (h n)
  ·have:=h j; omega
 refine⟨Ky.er (kn _) (J6 _),?_,?_,?_,λ h=>absurd h v,?_,?_,?_,?_,λ i o R=>?_,?_,⟨λ i=>H σ.cn kk i (y i) (y kk),L,by show σ.rf<=((k+1:Nat):Int); omega,λ i=>⟨m _ σ.dm i λ i=>(x i).1,m _ σ.bi i λ i=>(x i).2.1,m _ σ.wd i λ i=>(x i).2.2⟩⟩⟩
 ·show σ.rf+kB (dB σ.cn kk) 11=_;rw[tE _ _ 11 (by omega)]; omega
 ·show dB σ.cn kk 0=0;rw[iQ,ah (by omega)]; exact c0
 ·show dB σ.cn kk 1=if ((kr σ.S σ.C e).er).ph=0 then 0 else 1
  rw[ah (show ¬ ((kr σ.S σ.C e).er).ph=0 from v),iQ]
  by_cases g:1=kk
  ·rw[ak g,<- g,c1,ak (c.1 g.symm)]; rfl
  ·rw[ah g,c1,ah λ h=>g (c.2 h).symm]
 ·show kB (if e.kind=2 then dB σ.dm n else σ.dm) 8=dB σ.cn kk 2
  by_cases g:e.kind=2
  ·rw[ak g,tE _ _ 8 l,iQ,ak (by omega),dm,show kk=2 by omega]
  ·rw[ah g,iQ,ah (by omega),dm]
 ·show kB (if e.kind=5 then dB σ.bi n else σ.bi) 8=dB σ.cn kk 5
  by_cases g:e.kind=5
  ·rw[ak g,tE _ _ 8 l,iQ,ak (by omega),bi,show kk=5 by omega]
  ·rw[ah g,iQ,ah (by omega),bi]
 ·show kB (if e.kind=6 then dB σ.wd n else σ.wd) 8=dB σ.cn kk 6
  by_cases g:e.kind=6
  ·rw[ak g,tE _ _ 8 l,iQ,ak (by omega),wd,show kk=6 by omega]
  ·rw[ah g,iQ,ah (by omega),wd]
 ·show kB (vU ((kr σ.S σ.C e).er)) 8=dB σ.cn kk 7
  by_cases g:kk=7
  ·have N:vU σ.S n=0:=by unfold vU; rw[(u 7 (by omega) g).2]; rfl
   rw[EO 8 (g:=dB (vU σ.S) n) λ i _=>by
    rw[a,iQ]
    by_cases ei:i=n
    ·rw[ak ⟨g,ei⟩,ak ei,N]; rfl
    ·rw[ah λ h=>ei h.2,ah ei]]
   rw[tE _ _ 8 l,ou,iQ,ak g.symm,g]
  ·rw[EO 8 (g:=vU σ.S) λ i _=>by rw[a,ah λ h=>g h.1],ou,iQ,ah λ h=>g h.symm]
 ·show(if e.kind=2 then dB σ.dm n else σ.dm) i=0/\(if e.kind=5 then dB σ.bi n else σ.bi) i=0/\(if e.kind=6 then dB σ.wd n else σ.wd) i=0/\vU ((kr σ.S σ.C e).er) i=0
  by_cases g:kk=1
  ·have:=(z (c.1 g)).2 i o;rw[ah (by omega),ah (by omega),ah (by omega),a,ah (by omega)];exact this
  ·have E:σ.S.s.bd.length<=i:=by have:=hlen g; exact this▸R
   obtain⟨F,w,J,K⟩:=r i o E;have ne:∀ j:Nat,(j=2\/j=5\/j=6\/j=7)->kk=j->i≠n:=λ j I h=>by have:=(u j I h).1; omega
   refine⟨?_,?_,?_,?_⟩
   ·split
    ·rw[iQ,ah (ne 2 (by omega) (by omega))]; exact F
    ·exact F
   ·split
    ·rw[iQ,ah (ne 5 (by omega) (by omega))]; exact w
    ·exact w
   ·split
    ·rw[iQ,ah (ne 6 (by omega) (by omega))]; exact J
    ·exact J
   ·rw[a]
    by_cases g7:kk=7
    ·rw[ah λ h=>ne 7 (by omega) g7 h.2]; exact K
    ·rw[ah λ h=>g7 h.1]; exact K
 ·show(((if e.kind=8 then σ.rr++[e.round] else σ.rr).length:Nat):Int)=dB σ.cn kk 8
  by_cases g:e.kind=8
  ·rw[ak g,iQ,ak (by omega),aY,bS,show kk=8 by omega]; omega
  ·rw[ah g,iQ,ah (by omega)]; exact rr
def I0(o:Po):∀ l:List Ev,(∀ e∈l,e.In)->Iv (lO o l) l.length:=λ l=>by
 suffices H:∀ (l:List Ev) (σ:Cs) (k:Nat),Iv σ k->(∀ e∈l,e.In)->Iv (l.foldl iU σ) (k+l.length) by
  intro a;have:=H l (ZX o) 0 (W1 o) a
  rwa [aL] at this
 intro l
 induction l with
 | nil=>intro σ k h _; exact h
 | cons e l b =>
  intro σ k h a;have:=b (iU σ e) (k+1) (TD h (a e (by simp))) λ e he=>a e (by simp[he]);rw[fM,gm,show k+(l.length+1)=k+1+l.length by omega];exact this
section
variable {w0 w:af} {b:Nat} {S:Sx} {C:Ck} {B:aI}
def YE(a:BL S C):S.s.Sz:=by
 by_cases b:S.ph=0
 ·have e:=a.z b;have h1:S.s.ps=[]:=show S.s.er.ps=dL.ps by rw[e]
  have h2:S.s.bd=[]:=show S.s.er.bd=dL.bd by rw[e]
  have h3:S.s.cp=[]:=show S.s.er.cp=dL.cp by rw[e]
  have h4:S.s.sa=[]:=show S.s.er.sa=dL.sa by rw[e]
  exact⟨by rw[h1]; decide,by rw[h2]; decide,by rw[h3]; decide,by rw[h4]; decide⟩
 ·exact(a.so b).sz
def KU(a:aA w ⟨b,0,none⟩ 0 S.cells){w':af}(hc:aC w w' [])(j:Nat){v:Value}(c:S.cells[j]?=some v):w'.cell? ⟨b,j,none⟩=some v:=by
 have:=aM (bB hc a) j v c
 rwa [aL,om] at this
def Yh(d:aA w ⟨b,0,none⟩ 0 S.cells){w':af}(hc:aC w w' []):aA w' ⟨b,5,none⟩ 0 S.s.arr.toList:=bM _ 0 λ j v c=>by
 rw[bY,aL];refine KU d hc (5+j) ?_;have a:j<4:=(aR.1 c).1
 match j,a with
 | 0,_|1,_|2,_|3,_=>exact c
def Qf(j:aA w ⟨b,0,none⟩ 0 S.cells)(h:S.s.In w)(k:S.s.Sz) :
  CP 20 #[pt b] w (λ r w'=>∃ c:Se,c.er=S.s.er/\r=.agg c.arr/\St w w' (held c.In)):=by
 refine lM.2.1 ?_;obtain⟨F,z2,z3,z4⟩:=k;refine aG dL.arr λ r1 C s1=>(Ex8<|Ex4<|⟨Yh j s1.av,s1.aB dL.arr λ r2 D s2=>s2.az 0 rfl S.s.arr.toList rfl (by simp[Se.arr,Value.oneCell']) λ i a=>?_⟩);have a:St w i (Sep [aj r2 S.s.arr 73,aj r1 dL.arr 73,emp]):=a;have a:=a.quiet (aC.drew i []);refine⟨_,_,_,a.ag 0 rfl 0,_,_,_,a.ag 0 rfl 1,_,_,_,a.ag 0 rfl 2,_,_,_,a.ag 0 rfl 3,au (B4 (h.av a.av).ps.fl (by omega)) ?_⟩;rintro v y ⟨a1,c1,rfl,l⟩;have e:St w y (Sep [_,_,_,_]):=a.and l;refine⟨_,_,_,rfl,e.ag 1 rfl 3,e.ag 1 rfl 2,e.ag 1 rfl 1,au (BY (h.av e.av).bd.fl (by omega)) ?_⟩;rintro v z ⟨a2,c2,rfl,m⟩;have f:St w z (Sep [_,_,_,_,_]):=e.and m;refine⟨_,_,_,rfl,f.ag 2 rfl 3,f.ag 2 rfl 2,au (BZ (h.av f.av).cp.fl (by omega)) ?_⟩;rintro v A ⟨a3,c3,rfl,n⟩;have g:St w A (Sep [_,_,_,_,_,_]):=f.and n;refine⟨_,_,_,rfl,g.ag 3 rfl 3,au (BX (h.av g.av).sa.fl (by omega)) ?_⟩;rintro v B ⟨a4,c4,rfl,o⟩;have x:St w B (Sep [_,_,_,_,_,_,_]):=g.and o;let c:Se:={ S.s with a1:=a1,c1:=c1,a2:=a2,c2:=c2,a3:=a3,c3:=c3,a4:=a4,c4:=c4 };refine⟨_,_,_,rfl,x.az 5 rfl c.arr.toList rfl (by simp[c,Se.arr,Value.oneCell']) λ E d=>(Ex8<|Ex4<|⟨d.cellsIn (cs:=c.arr) 5 rfl,c,rfl,rfl,?_⟩)⟩;have u:=St.lQ (d.out 0 rfl); have t:=St.lQ (d.out 1 rfl); have q:=St.lQ (d.out 2 rfl); have p:=St.lQ (d.out 3 rfl);exact((d.ay [0,1,2,3]).held ((bn T3.len).cons ((bn T3.len).cons ((bn Br.len).cons ((bn Pr.len).cons js.nil))))).weak (eI λ w' ⟨i4,i3,i2,i1,_⟩=>⟨fS.of i1 h.ps.in,mj.of i2 h.bd.in,Bp.of i3,Bp.of i4,p.1,q.1,t.1,u.1⟩)
def P2(f:aA w ⟨b,0,none⟩ 0 S.cells)(d:S.bd.length=8)(e:uq S C w)(c:BL S C)(g:QK S) :
  CP 19 #[pt b] w (λ r w'=>∃ (p:OA) (a:Ck),r=.pointer p/\a.er=C.er/\QK { S with k:=p }/\St w w' (W5 p a)):=by
 refine lM.2.2.1 ?_;refine⟨_,KU f (aC.refl w []) 9 ?_,au (J2 e c g) ?_⟩
 ·have:=pg d;simpa using this
 ·rintro v h ⟨p,a,rfl,h1,h2,h3⟩;exact⟨_,rfl,p,a,rfl,h1,h2,h3⟩
end
end Go.Proofs.YtjcfdidmajodiaaGreatDoor
set_option maxHeartbeats 4000000
namespace Go.Proofs.YtjcfdidmajodiaaGreatDoor
open Go Go.Vc Go.Vt _root_.Go.Proofs.Tryz
def ue:=many uj [en func8 [] [(250,[(24,.s (.int .i64))]),(2003,[]),(8186,[(72,.s (.int .i64))]),(16378,[(87,.s (.int .i64))]),(1048217,[(17,.s .blk)]),(16771482,[(112,.s (.int .i64))])],en func18 [] [],en func22 [(0,.k (.s .blk))] [],en func52 [(0,.k (.s .blk))] [],en func4 [] [(58,[(3,.s (.int .i64))])],en func7 [] [(58,[(4,.s (.int .i64))])],en func6 [] [(6,[(46,.s .bool)]),(58,[(5,.s (.int .i64))]),(122,[(6,.s (.int .i64))]),(1956,[(7,.s .blk),(8,.s .blk)]),(3913,[(122,.s .bool)])],en func15 [] [(58,[(5,.s (.int .i64))])],en func3 [] [],en func28 [] []] (by conv=>lhs;reduce) (by kernel_rfl) λ x=>by
 dsimp only[fj,fh,ff,fe,fk,fm,fq,tF,iP,en,sV,wrap,dc,dn,qA,gU,tW,U.I,U.B,U.S,U.N,U.A,U.O,U.W,U.V,U.L,U.U6,U.C,U.M,U.F,U.E,tP,tN,tI,oo,jU,gJ,kr,jq,TJ,Nat.reduceSub,Nat.reduceAdd,Int.reduceOfNat,Int.reduceNeg,UInt8.reduceOfNat] at x
 exact x
def xN:=many uj [en func12 [] [(58,[(17,.s (.int .i64))]),(250,[(42,.s (.int .i64))]),(256410,[(7,.s .slice),(48,.s (.int .i64))]),(506,[(64,.s (.int .i64))]),(1018,[(77,.s (.int .i64))]),(130355,[]),(2085690,[(14,.s .slice),(100,.s (.int .i64))])],en func33 [] [],en func34 [] [],en func13 [] [(58,[(23,.s (.int .i64))]),(15,[(7,.s .blk)]),(250,[(57,.s (.int .i64))]),(506,[(76,.s (.int .i64))]),(4051,[])],en func5 [] [],en func10 [] [],en func11 [] [],en func14 [(0,.c (.pointer none))] []] (by conv=>lhs;reduce) (by kernel_rfl) λ x=>by
 dsimp only[fj,fh,ff,fe,fk,fm,fq,tF,iP,en,sV,wrap,dc,dn,qA,gU,tW,U.I,U.B,U.S,U.N,U.A,U.O,U.W,U.V,U.L,U.U6,U.C,U.M,U.F,U.E,tP,tN,tI,oo,jU,gJ,kr,jq,TJ,Nat.reduceSub,Nat.reduceAdd,Int.reduceOfNat,Int.reduceNeg,UInt8.reduceOfNat] at x
 exact x
def qm:=xN.2.2.2.1
end Go.Proofs.YtjcfdidmajodiaaGreatDoor
namespace Go.Proofs.YtjcfdidmajodiaaGreatDoor
open Go Go.Vc _root_.Go.Proofs.Tryz
structure Bs where
 nm:List UInt8
 dm:Int
 bi:Int
 wd:Int
 out:Bool
 pts:List Int
 pa:Option Addr
 pc:Nat
def Bs.cells(x:Bs):List Value:=[sv x.nm,iv x.dm,iv x.bi,iv x.wd,.bool x.out,.slice x.pa x.pts.length x.pc]
def Bs.len(x:Bs):x.cells.length=6:=rfl
def Bs.one(x:Bs):∀ v∈x.cells,v.oneCell'=true:=by
 intro v a; simp[Bs.cells] at a; rcases a with rfl|rfl|rfl|rfl|rfl|rfl<;>rfl
def Bs.er(x:Bs):Bs:={ x with pa:=none,pc:=0 }
def M6:Bs:=⟨[],0,0,0,false,[],none,0⟩
abbrev Bs.In (x:Bs) (w:af):Prop:=cP 1 i1 w x.pa x.pts
abbrev mL (l:List Bs) (w:af):Prop:=∀ x∈l,x.In w
def Yr:j7 prog 35 54 (.agg M6.cells.toArray) 6 72:=j7.mk' underlying35 (by kernel_rfl) rfl (by decide)
def WA:j7 prog 29 57 (.agg z6.vs.toArray) 6 48:=j7.mk' underlying29 (by kernel_rfl) rfl (by decide)
abbrev Wi (a:OA) (c:Nat) (l:List I6):aI:=dK 57 6 I6.vs a c l
abbrev QU (a:OA) (c:Nat) (l:List Bs):aI:=dK 54 6 Bs.cells a c l
abbrev rY (a:OA) (c:Nat) (l:List Int):aI:=dK 3 1 i1 a c l
structure Sm where
 cn:Nat->Int
 rf:Int
 ps:List I6
 pa:Option Addr
 pc:Nat
 bs:List Bs
 ba:Option Addr
 bc:Nat
 rr:List Int
 ra:Option Addr
 rc:Nat
def Sm.cells(M:Sm):List Value:=[iv (M.cn 0),iv (M.cn 1),iv (M.cn 2),iv (M.cn 3),iv (M.cn 4),iv (M.cn 5),iv (M.cn 6),iv (M.cn 7),iv (M.cn 8),iv (M.cn 9),iv (M.cn 10),iv M.rf,.slice M.pa M.ps.length M.pc,.slice M.ba M.bs.length M.bc,.slice M.ra M.rr.length M.rc]
def Sm.one(M:Sm):∀ v∈M.cells,v.oneCell'=true:=by
 intro v a; simp[Sm.cells] at a;rcases a with rfl|rfl|rfl|rfl|rfl|rfl|rfl|rfl|rfl|rfl|rfl|rfl|rfl|rfl|rfl<;>rfl
def gz:Sm:=⟨λ _=>0,0,[],none,0,[],none,0,[],none,0⟩
def Sm.er(M:Sm):Sm:={ M with pa:=none,pc:=0,bs:=M.bs.map Bs.er,ba:=none,bc:=0,ra:=none,rc:=0 }
structure Sm.In (M:Sm) (w:af):Prop where
 ps:cP 6 I6.vs w M.pa M.ps
 bs:cP 6 Bs.cells w M.ba M.bs
 bi:mL M.bs w
 rr:cP 1 i1 w M.ra M.rr
def Sm.In.av{M:Sm}{w w':af}(h:M.In w)(hc:aC w w' []):M.In w':=⟨h.ps.av hc,h.bs.av hc,λ x a=>cP.av (h.bi x a) hc,h.rr.av hc⟩
def G6(M:Sm){i:Nat}(hi:i<11):M.cells.toArray[i]?=some (iv (M.cn i)):=by
 match i,hi with
 | 0,_|1,_|2,_|3,_|4,_|5,_|6,_|7,_|8,_|9,_|10,_=>rfl
def Qa(M:Sm){i:Nat}(hi:i<11):M.cells.toArray.setIfInBounds i (iv (M.cn i+1))=({ M with cn:=dB M.cn i }:Sm).cells.toArray:=by
 match i,hi with
 | 0,_|1,_|2,_|3,_|4,_|5,_|6,_|7,_|8,_|9,_|10,_=>rfl
def uh(d b w:Nat->Int):List Value:=[iv (d 0),iv (b 0),iv (w 0),iv (d 1),iv (b 1),iv (w 1),iv (d 2),iv (b 2),iv (w 2),iv (d 3),iv (b 3),iv (w 3),iv (d 4),iv (b 4),iv (w 4),iv (d 5),iv (b 5),iv (w 5),iv (d 6),iv (b 6),iv (w 6),iv (d 7),iv (b 7),iv (w 7)]
section
variable {d b wd:Nat->Int}
def MV{i:Nat}(hi:i<8):(uh d b wd).toArray[i*3]?=some (iv (d i)):=by
 match i,hi with
 | 0,_|1,_|2,_|3,_|4,_|5,_|6,_|7,_=>rfl
def MU{i:Nat}(hi:i<8):(uh d b wd).toArray[i*3+1]?=some (iv (b i)):=by
 match i,hi with
 | 0,_|1,_|2,_|3,_|4,_|5,_|6,_|7,_=>rfl
def MW{i:Nat}(hi:i<8):(uh d b wd).toArray[i*3+2]?=some (iv (wd i)):=by
 match i,hi with
 | 0,_|1,_|2,_|3,_|4,_|5,_|6,_|7,_=>rfl
def YG{i:Nat}(hi:i<8):(uh d b wd).toArray.setIfInBounds (i*3) (iv (d i+1))=(uh (dB d i) b wd).toArray:=by
 match i,hi with
 | 0,_|1,_|2,_|3,_|4,_|5,_|6,_|7,_=>rfl
def YF{i:Nat}(hi:i<8):(uh d b wd).toArray.setIfInBounds (i*3+1) (iv (b i+1))=(uh d (dB b i) wd).toArray:=by
 match i,hi with
 | 0,_|1,_|2,_|3,_|4,_|5,_|6,_|7,_=>rfl
def YH{i:Nat}(hi:i<8):(uh d b wd).toArray.setIfInBounds (i*3+2) (iv (wd i+1))=(uh d b (dB wd i)).toArray:=by
 match i,hi with
 | 0,_|1,_|2,_|3,_|4,_|5,_|6,_|7,_=>rfl
def Hs(r i:Nat):Addr.add ⟨r,0,none⟩ (((i:Nat):Int).toNat*3)=⟨r,i*3,none⟩:=by rw[om,aD]
def WR{w0 w:af}{m:List aI}{r i:Nat}{k:Int}(s:St w0 w (Sep (aj r (uh d b wd).toArray 61 :: m)))(hi:i<8)(h1:0<=d i/\d i<=1000)(h2:0<=b i/\b i<=1000)(h3:0<=wd i/\wd i<=1000) :
  CP 18 #[.pointer (some (Addr.add ⟨r,0,none⟩ (((i:Nat):Int).toNat*3))),iv k] w (λ v w'=>v=.tuple #[] /\
   St w0 w' (Sep (aj r (uh (if k=2 then dB d i else d) (if k=5 then dB b i else b) (if k=6 then dB wd i else wd)).toArray 61 :: m))):=by
 refine ue.2.1 ?_;rw[Hs]
 by_cases a:k=2
 ·subst a;refine cT rfl (aq rfl ⟨d i,?_,aq rfl ?_⟩)
  ·rw[s.ag 0 rfl]; exact MV hi
  rw[cA (by omega)];refine s.aN 0 rfl (by show i*3<24; omega) rfl λ f s1=>⟨rfl,?_⟩;rw[YG hi] at s1;exact s1
 refine cF (by simpa using a) ?_;rw[ah a]
 by_cases c:k=5
 ·subst c;refine cT rfl (aq rfl ⟨b i,?_,aq rfl ?_⟩)
  ·rw[bY,s.ag 0 rfl]; exact MU hi
  rw[cA (by omega),bY];refine s.aN 0 rfl (by show i*3+1<24; omega) rfl λ f s1=>⟨rfl,?_⟩;rw[YF hi] at s1;exact s1
 refine cF (by simpa using c) ?_;rw[ah c]
 by_cases e:k=6
 ·subst e;refine cT rfl (aq rfl ⟨wd i,?_,aq rfl ?_⟩)
  ·rw[bY,s.ag 0 rfl]; exact MW hi
  rw[cA (by omega),bY];refine s.aN 0 rfl (by show i*3+2<24; omega) rfl λ f s1=>⟨rfl,?_⟩;rw[YH hi] at s1;exact s1
 refine cF (by simpa using e) ⟨rfl,?_⟩;rw[ah e];exact s
end
def Uv{w0 w:af}{b:Nat}{S:Sx}{m:List aI}(s:St w0 w (Sep (aj b S.cells.toArray 125 :: m)))(a:S.bd.length=8){i:Nat}(hi:i<8)(c:i<S.s.bd.length) :
  CP 22 #[pt b,iv i] w (λ r w'=>r=.bool (S.bd.getD i dG).out/\w'=w):=by
 refine ue.2.2.1 ?_;refine au (K:=λ r w'=>r=.bool true/\w'=w) (ue.2.2.2.1 ?_) ?_
 ·skip
  refine aP (by omega) ⟨S.s.a2,S.s.bd.length,S.s.c2,?_,by rw[dT (by omega)],rfl⟩;rw[s.ag 0 rfl];rfl
 ·rintro v d ⟨rfl,rfl⟩;refine⟨_,rfl,cT rfl ⟨by omega,by omega,_,?_,rfl,rfl⟩⟩;rw[Xi,bY,s.ag 0 rfl];exact Qp a hi (getD_at (by omega))
def nr(σ:Cs)(a:OA)(c:Nat):Sm:={ gz with cn:=σ.cn,rf:=σ.rf,rr:=σ.rr,ra:=a,rc:=c }
def Z5(b r2 r3 r4:Nat)(σ:Cs)(S:Sx)(C:Ck)(a:OA)(c:Nat):List aI :=
 [aj b S.cells.toArray 125,held (uq S C),aj r3 (nr σ a c).cells.toArray 37,rY a c σ.rr,aj r4 (uh σ.dm σ.bi σ.wd).toArray 61,aj r2 gz.cells.toArray 37,emp]
def CI(w0 w':af)(b r2 r3 r4:Nat)(σ:Cs):Prop:=∃ (S:Sx) (C:Ck) (a:OA) (c:Nat),σ.S=S.er/\σ.C=C.er/\QK S/\St w0 w' (Sep (Z5 b r2 r3 r4 σ S C a c))
def zEv:Array Value:=#[iv 0,iv 0,iv 0,iv 0,iv 0,iv 0,iv 0,iv 0,iv 0,.string (bs []),.int .u64 0]
def Hr(r i:Nat):Addr.add ⟨r,0,none⟩ (((i:Nat):Int).toNat*1)=⟨r,i,none⟩:=by rw[om,aD,gG]
section
variable {w0 w:af} {b r2 r3 r4 r5:Nat} {σ:Cs} {k:Nat} {R:af->Prop} {e:Ev} {S:Sx} {C:Ck} {a:OA} {c:Nat}
def Rz(IV:Iv σ k)(hk:k<=100)(hi:e.In)(J:σ.S=S.er)(H:σ.C=C.er)(P:QK S)(s:St w0 w (Sep (aj r5 e.cells.toArray 45 :: Z5 b r2 r3 r4 σ S C a c)))(K:∀ w',CI w0 w' b r2 r3 r4 (iU σ e)->R w') :
  CC 17 #[pt b,e.v] w λ e2 f=>∃ Q:Int,e2=.returned (iv Q) /\
   cond (Q !=(0:Int)) (∃ T:Int,f.cell? ⟨r3,11,none⟩=some (iv T)/\fL f ⟨r3,11,none⟩ (iv (IntKind.i64.wrap (T+(1:Int)))) λ Y=>R Y)
   (∃ (p:Int),f.cell? ⟨r5,0,none⟩=some (iv p) /\
    0<=p/\p<((11:Nat):Int) /\
    ∃ (U:Int),f.cell? (Addr.add ⟨r3,0,none⟩ ((p).toNat*1))=some (iv U) /\
    0<=p/\p<((11:Nat):Int) /\
    fL f (Addr.add ⟨r3,0,none⟩ ((p).toNat*1)) (iv (IntKind.i64.wrap (U+(1:Int)))) λ o =>
    ∃ (A:Int),o.drew.cell? ⟨r5,1,none⟩=some (iv A) /\
    0<=A/\A<((8:Nat):Int) /\
    ∃ (V:Int),o.drew.cell? ⟨r5,0,none⟩=some (iv V) /\
    CC 18 #[(.pointer (some (Addr.add ⟨r4,0,none⟩ ((A).toNat*3)))),(iv V)] o.drew λ e3 l=>e3=.returned (.tuple #[]) /\
    ∃ (W:Int),l.cell? ⟨r5,0,none⟩=some (iv W) /\
    cond (W==(8:Int))
    (∃ (a2:OA) (l2 c2:Nat),l.cell? ⟨r3,14,none⟩=some (.slice a2 l2 c2) /\
    ∃ (X:Int),l.cell? ⟨r5,2,none⟩=some (iv X) /\
    cR l (.cells #[(iv X)] 3) λ r6 w14 =>
    gi prog (Builtin.append_ #[31,31] 31 #[(.slice a2 l2 c2),(.slice (qs r6) 1 1)]) w14 λ e4 w15=>∃ (a3:OA) (l3 c3:Nat),e4=(.slice a3 l3 c3) /\
    fL w15 ⟨r3,14,none⟩ (.slice a3 l3 c3) λ D =>
    R D) (R l)):=by
 have O:BL S C:=IV.ok.er (by rw[J,kn]) (by rw[H,J6]);have u:=IV.bd;have hrr:=IV.rr;have t:qx σ.S σ.C e=qx S C e:=by rw[J,H,Nw]
 have s9:St w0 w (Sep [aj b S.cells.toArray 125,held (uq S C),Sep [aj r5 e.cells.toArray 45,aj r3 (nr σ a c).cells.toArray 37,rY a c σ.rr,aj r4 (uh σ.dm σ.bi σ.wd).toArray 61,aj r2 gz.cells.toArray 37,emp]]):=(s.ay [1,2,0,3,4,5,6,7]).Qr;refine au (Q9 s9 O P hi) ?_;rintro v f ⟨rfl,k1,k2⟩;refine⟨_,rfl,?_⟩
 by_cases ha:qx S C e=0
 ·obtain⟨g,r,L,eC',hg,m⟩:=k2 ha;have m:St w0 f (Sep [aj b g.cells.toArray 125,held (uq g r),aj r5 e.cells.toArray 45,aj r3 (nr σ a c).cells.toArray 37,rY a c σ.rr,aj r4 (uh σ.dm σ.bi σ.wd).toArray 61,aj r2 gz.cells.toArray 37,emp]):=m.iE [_,_];obtain⟨hs,hE⟩:=qX ha;obtain⟨h1,h2,h3,h4,h5⟩:=jP hs;have Z:=eH h1 hi.d;obtain⟨Ky,phN⟩:=JQ O ha hi;obtain⟨kk,y⟩:∃ kk:Nat,e.kind=kk:=⟨e.kind.toNat,(j4 Z.k.1).symm⟩;obtain⟨n,hn⟩:∃ n:Nat,e.bidder=n:=⟨e.bidder.toNat,(j4 Z.b.1).symm⟩;have N:kk<11:=by have:=Z.k; omega
  have hn8:n<8:=by have:=Z.b; omega
  have hph:g.ph=(kr S C e).ph:=show g.er.ph=(kr S C e).er.ph by rw[L]
  have E:QK g:=⟨λ h=>absurd (hph.symm.trans h) phN,λ _=>hg⟩;have z:iU σ e={ S:=(kr σ.S σ.C e).er,C:=(QM σ.S σ.C e).er,cn:=dB σ.cn kk,rf:=σ.rf,dm:=if (kk:Int)=2 then dB σ.dm n else σ.dm,bi:=if (kk:Int)=5 then dB σ.bi n else σ.bi,wd:=if (kk:Int)=6 then dB σ.wd n else σ.wd,rr:=if (kk:Int)=8 then σ.rr++[e.round] else σ.rr }:=by
   unfold iU;rw[ah (by rw[t]; exact λ h=>h ha),y,hn,aD,aD]
  have M:(iU σ e).S=g.er:=by rw[z]; show(kr σ.S σ.C e).er=_; rw[J,H,Nx,L]
  have I:(iU σ e).C=r.er:=by rw[z]; show(QM σ.S σ.C e).er=_; rw[J,H,eC']; exact y5 S C e
  have ck:f.cell? ⟨r5,0,none⟩=some (iv (kk:Int)):=by rw[<- y]; exact m.ag 2 rfl 0
  have cc:f.cell? (Addr.add ⟨r3,0,none⟩ (((kk:Nat):Int).toNat*1))=some (iv (σ.cn kk)):=by rw[Hr,m.ag 3 rfl]; exact G6 (nr σ a c) N
  refine cF (by rw[ha]; rfl) ⟨_,ck,by omega,by omega,_,cc,by omega,by omega,?_⟩;have hc:=u.1 kk;rw[Hr,cA (by omega)];refine m.aN 3 rfl (by show kk<15; omega) rfl λ o B=>?_;have B:St w0 o (Sep [aj b g.cells.toArray 125,held (uq g r),aj r5 e.cells.toArray 45,aj r3 ((nr σ a c).cells.toArray.setIfInBounds kk (iv ((nr σ a c).cn kk+1))) 37,rY a c σ.rr,aj r4 (uh σ.dm σ.bi σ.wd).toArray 61,aj r2 gz.cells.toArray 37,emp]):=B;rw[Qa _ N] at B;have F:=B.quiet (aC.drew o []);have cb:o.drew.cell? ⟨r5,1,none⟩=some (iv (n:Int)):=by rw[<- hn]; exact F.ag 2 rfl 1
  have ck2:o.drew.cell? ⟨r5,0,none⟩=some (iv (kk:Int)):=by rw[<- y]; exact F.ag 2 rfl 0
  have ht:=u.2.2.2 n;refine⟨_,cb,by omega,by omega,_,ck2,au (WR (k:=(kk:Int)) (F.ay [5,0,1,2,3,4,6,7]) hn8 (by omega) (by omega) (by omega)) ?_⟩;rintro v l ⟨rfl,q⟩;have q:St w0 l (Sep [aj r4 (uh (if (kk:Int)=2 then dB σ.dm n else σ.dm) (if (kk:Int)=5 then dB σ.bi n else σ.bi) (if (kk:Int)=6 then dB σ.wd n else σ.wd)).toArray 61,aj b g.cells.toArray 125,held (uq g r),aj r5 e.cells.toArray 45,aj r3 ({ nr σ a c with cn:=dB σ.cn kk }:Sm).cells.toArray 37,rY a c σ.rr,aj r2 gz.cells.toArray 37,emp]):=q;have ck3:l.cell? ⟨r5,0,none⟩=some (iv (kk:Int)):=by rw[<- y]; exact q.ag 3 rfl 0
  refine⟨rfl,_,ck3,?_⟩
  by_cases g8:kk=8
  ·have c8:=u.1 8;refine cT (by rw[g8]; rfl) ⟨a,σ.rr.length,c,q.ag 4 rfl 14,_,q.ag 3 rfl 2,dw (x:=e.round) QV bV (pQ _) (q.out 5 rfl) (by omega) (by omega) (λ a' c' w' G=>?_) rfl⟩;have G:St w0 w' (Sep [aj r4 (uh (if (kk:Int)=2 then dB σ.dm n else σ.dm) (if (kk:Int)=5 then dB σ.bi n else σ.bi) (if (kk:Int)=6 then dB σ.wd n else σ.wd)).toArray 61,aj b g.cells.toArray 125,held (uq g r),aj r5 e.cells.toArray 45,aj r3 ({ nr σ a c with cn:=dB σ.cn kk }:Sm).cells.toArray 37,rY a' c' (σ.rr++[e.round]),aj r2 gz.cells.toArray 37,emp]):=G.back (i:=5) (by show 5<8; decide);refine G.aN 4 rfl (j:=14) (by show 14<15; decide) rfl λ D s16=>K _ ⟨g,r,a',c',M,I,E,?_⟩;have s17:St w0 D (Sep [aj r4 (uh (if (kk:Int)=2 then dB σ.dm n else σ.dm) (if (kk:Int)=5 then dB σ.bi n else σ.bi) (if (kk:Int)=6 then dB σ.wd n else σ.wd)).toArray 61,aj b g.cells.toArray 125,held (uq g r),aj r5 e.cells.toArray 45,aj r3 (nr { σ with cn:=dB σ.cn kk,rr:=σ.rr++[e.round] } a' c').cells.toArray 37,rY a' c' (σ.rr++[e.round]),aj r2 gz.cells.toArray 37,emp]):=s16;rw[z];show St w0 D (Sep [aj b g.cells.toArray 125,held (uq g r),aj r3 (nr { σ with cn:=dB σ.cn kk,rr:=if (kk:Int)=8 then σ.rr++[e.round] else σ.rr } a' c').cells.toArray 37,rY a' c' (if (kk:Int)=8 then σ.rr++[e.round] else σ.rr),aj r4 _ 61,aj r2 gz.cells.toArray 37,emp]);rw[ak (show(kk:Int)=8 by omega)];exact s17.ay [1,2,4,5,0,6,7]
  ·refine cF (by rw[aS]; omega) (K _ ⟨g,r,a,c,M,I,E,?_⟩);rw[z];show St w0 l (Sep [aj b g.cells.toArray 125,held (uq g r),aj r3 (nr { σ with cn:=dB σ.cn kk,rr:=if (kk:Int)=8 then σ.rr++[e.round] else σ.rr } a c).cells.toArray 37,rY a c (if (kk:Int)=8 then σ.rr++[e.round] else σ.rr),aj r4 _ 61,aj r2 gz.cells.toArray 37,emp]);rw[ah (show ¬ (kk:Int)=8 by omega)];exact q.ay [1,2,4,5,0,6,7]
 ·have m:St w0 f (Sep [aj b S.cells.toArray 125,held (uq S C),aj r5 e.cells.toArray 45,aj r3 (nr σ a c).cells.toArray 37,rY a c σ.rr,aj r4 (uh σ.dm σ.bi σ.wd).toArray 61,aj r2 gz.cells.toArray 37,emp]):=(k1 ha).iE [_,_];refine cT (by simpa using ha) ⟨σ.rf,m.ag 3 rfl 11,?_⟩;have hr:=u.2;rw[cA (by omega)];refine m.aN 3 rfl (j:=11) (by show 11<15; decide) rfl λ Y s11=>K _ ⟨S,C,a,c,?_,?_,P,?_⟩
  ·unfold iU; rw[ak (by rw[t]; exact ha)]; exact J
  ·unfold iU; rw[ak (by rw[t]; exact ha)]; exact H
  ·unfold iU; rw[ak (by rw[t]; exact ha)];exact s11.ay [0,1,3,4,5,6,7]
end
def Fg(σ:Cs)(i:Nat):Bs:=⟨(σ.S.s.bd.getD i Hw).nm,σ.dm i,σ.bi i,σ.wd i,(σ.S.bd.getD i dG).out,σ.C.cl.map λ x=>yw σ.S.s.ps (x.ask.getD i z6),none,0⟩
def T8(σ:Cs):List Bs:=(List.range σ.S.s.bd.length).map (Fg σ)
def UA(σ:Cs):Sm:={ cn:=σ.cn,rf:=σ.rf,ps:=if σ.S.ph=0 then [] else σ.C.cl.map Rn.p,pa:=none,pc:=0,bs:=T8 σ,ba:=none,bc:=0,rr:=σ.rr,ra:=none,rc:=0 }
def Zj(b r2 r3 r4 c:Nat)(σ:Cs)(S:Sx)(a:Se)(l:List Rn)(al:OA)(cl:Nat)(M:Sm):List aI :=
 [Wi M.pa M.pc M.ps,aj r3 M.cells.toArray 37,MG al cl l,held (oH l),aj c a.arr 73,held a.In,aj b S.cells.toArray 125,rY M.ra M.rc M.rr,aj r4 (uh σ.dm σ.bi σ.wd).toArray 61,aj r2 gz.cells.toArray 37,emp]
def T9(b r2 r3 r4 c:Nat)(σ:Cs)(S:Sx)(a:Se)(l:List Rn)(al:OA)(cl:Nat)(M:Sm):List aI :=
 [QU M.ba M.bc M.bs,held (mL M.bs),aj r3 M.cells.toArray 37,Wi M.pa M.pc M.ps,MG al cl l,held (oH l),aj c a.arr 73,held a.In,aj b S.cells.toArray 125,rY M.ra M.rc M.rr,aj r4 (uh σ.dm σ.bi σ.wd).toArray 61,aj r2 gz.cells.toArray 37,emp]
def An{w:af}{o:Obj}{A B:Nat->af->Prop}(h:cR w o A)(k:cR w o B):cR w o λ r w'=>A r w'/\B r w':=⟨h,k⟩
def m2(σ:Cs)(a:OA)(c:Nat)(ps:List I6)(pa:OA)(pc:Nat)(bs:List Bs)(ba:OA)(bc:Nat):Sm:={ nr σ a c with ps:=ps,pa:=pa,pc:=pc,bs:=bs,ba:=ba,bc:=bc }
section
variable {w0 w:af} {b r2 r3 r4:Nat} {σ:Cs} {S:Sx} {C:Ck} {a:OA} {c:Nat}
set_option maxHeartbeats 1000000 in
theorem B5{w:af}{a:OA}{c:Nat}{l:List Ev}(o:Po)(h:cP 11 Ev.cells w a l)(hi:∀ e∈l,e.In)(hl:l.length<=61) :
  CP 8 #[.slice a l.length c,o.v] w (λ r w'=>∃ M:Sm,r=.agg M.cells.toArray/\M.er=UA (lO o l)/\St w w' (held M.In)):=by
 refine ue.1 ?_;refine aG o.cells.toArray λ r1 w1 s1=>s1.aB gz.cells.toArray λ r2 w2 s2=>s2.aB gz.cells.toArray λ r3 w3 s3=>s3.aB (uh (λ _=>0) (λ _=>0) (λ _=>0)).toArray λ r4 w4 s4=>?_;have s4:St w w4 (Sep [aj r4 (uh (λ _=>0) (λ _=>0) (λ _=>0)).toArray 61,aj r3 gz.cells.toArray 37,aj r2 gz.cells.toArray 37,aj r1 o.cells.toArray 24,emp]):=s4;refine⟨_,_,_,_,s4.cellsIn 3 rfl,au (WD w4 o) ?_⟩;rintro v w5 ⟨b,rfl,k5⟩;have s5:St w w5 (Sep [Sep [aj b (rL o).cells.toArray 125],aj r4 (uh (λ _=>0) (λ _=>0) (λ _=>0)).toArray 61,aj r3 gz.cells.toArray 37,aj r2 gz.cells.toArray 37,aj r1 o.cells.toArray 24,emp]):=s4.and k5;refine⟨_,rfl,λ n w' m=>∃ k:Nat,n=k/\k<=l.length/\m=l.length-k/\CI w w' b r2 r3 r4 (lO o (l.take k)),⟨l.length,0,rfl,by omega,by omega,?_⟩,?_⟩
 ·have s6:St w w5 (Sep [aj b (rL o).cells.toArray 125,aj r4 (uh (λ _=>0) (λ _=>0) (λ _=>0)).toArray 61,aj r3 gz.cells.toArray 37,aj r2 gz.cells.toArray 37,aj r1 o.cells.toArray 24,emp]):=s4.and k5.single;have s7:St w w5 (Sep [held (uq (rL o) W0),rY none 0 [],aj b (rL o).cells.toArray 125,aj r4 (uh (λ _=>0) (λ _=>0) (λ _=>0)).toArray 61,aj r3 gz.cells.toArray 37,aj r2 gz.cells.toArray 37,aj r1 o.cells.toArray 24,emp]):=St.jx (s6.dy) λ w'=>Ks o w';exact⟨rL o,W0,none,0,(Kr o).symm,rfl,⟨λ _=>rfl,λ h=>absurd rfl h⟩,s7.ay [2,0,4,1,3,5,7]⟩
 rintro w6 m1 n9 ⟨k,rfl,hk,hm,S,C,a3,c3,eS,eC,kok,s6⟩ -;have IV:=I0 o (l.take k) λ e he=>hi e (eX he);have hlk:(l.take k).length=k:=by rw[di]; omega
 rw[hlk] at IV
 by_cases hlt:(k:Int)<(l.length:Int)
 ·obtain⟨e,H⟩:=bx l k (by omega);obtain⟨q,hq,T⟩:=(h.av s6.av).at H;refine aP hlt ⟨λ w'=>CI w w' b r2 r3 r4 (lO o (l.take (k+1))),λ w' hw _=>(jZ (by omega) hw),aq hq ⟨by omega,by omega,_,_,_,e.want,_,_,T,s6.aB zEv λ r5 w8 s8=>s8.az 0 rfl e.cells rfl e.one λ w9 s9=>⟨_,_,_,e.want,_,_,s9.cellsIn 0 rfl,Rz IV (by omega) (hi e (bf H)) eS eC kok s9 λ w' hw=>?_⟩⟩⟩;rw[aH H,CQ];exact hw
 obtain rfl:k=l.length:=by omega
 rw[br] at IV eS eC s6;generalize lO o l=σ at *;refine aU hlt ?_;have F:BL S C:=IV.ok.er (by rw[eS,kn]) (by rw[eC,J6]);have e1:σ.S.ph=S.ph:=by rw[eS]; rfl
 have e2:σ.S.s.bd=S.s.bd:=by rw[eS]; rfl
 have e3:σ.S.s.ps=S.s.ps:=by rw[eS]; rfl
 have e4:∀ i,(σ.S.bd.getD i dG).out=(S.bd.getD i dG).out:=λ i=>by rw[eS,H8]
 have e5:σ.C.cl=C.cl.map Rn.er:=by rw[eC]; rfl
 refine au (P2 (s6.cellsIn 0 rfl) F.b8 (s6.bC 1 rfl) F kok) ?_;rintro v w17 ⟨p,Q,rfl,eC',kok',k17⟩;have s17:St w w17 (Sep [W5 p Q,aj b S.cells.toArray 125,held (uq S C),aj r3 (nr σ a3 c3).cells.toArray 37,rY a3 c3 σ.rr,aj r4 (uh σ.dm σ.bi σ.wd).toArray 61,aj r2 gz.cells.toArray 37,emp]):=s6.and k17;refine⟨p,rfl,?_⟩
 by_cases X:S.ph=0
 ·obtain rfl:p=none:=kok'.1 X;refine cT rfl (Ex8<|Ex8<|Ex4<|⟨_,s17.cellsIn 3 rfl,s17.az 6 rfl (nr σ a3 c3).cells rfl (Sm.one _) λ w18 O=>(Ex8<|Ex8<|Ex4<|⟨_,O.cellsIn 6 rfl,nr σ a3 c3,rfl,?_,?_⟩)⟩)
  ·have hb:T8 σ=[]:=by
    unfold T8;rw[e2,show S.s.bd=[] from show S.s.er.bd=dL.bd by rw[F.z X]]; rfl
   unfold UA;rw[hb,ak (e1.trans X)]; rfl
  ·exact((O.ay [4]).qj ((bn bV).mono λ w' i=>(⟨λ i p h=>by simp[nr,gz] at h,λ i p h=>by simp[nr,gz] at h,λ x H=>by simp[nr,gz] at H,i⟩:(nr σ a3 c3).In w'))).single
 ·obtain⟨g,rfl⟩:∃ g,p=qs g:=kok'.2 X;have hok':BL S Q:=F.er rfl eC';have hI:=hok'.c X;have hso:=F.so X;have O:St w w17 (Sep [held (Q.Rd g),aj b S.cells.toArray 125,held (uq S C),aj r3 (nr σ a3 c3).cells.toArray 37,rY a3 c3 σ.rr,aj r4 (uh σ.dm σ.bi σ.wd).toArray 61,aj r2 gz.cells.toArray 37,emp]):=s17.qj zX;refine cF rfl (au (Qf (O.cellsIn 1 rfl) (O.bC 2 rfl).h.1 (YE F)) ?_);rintro v w19 ⟨t,eS2,rfl,k19⟩;have s19:St w w19 (Sep [held t.In,held (Q.Rd g),aj b S.cells.toArray 125,held (uq S C),aj r3 (nr σ a3 c3).cells.toArray 37,rY a3 c3 σ.rr,aj r4 (uh σ.dm σ.bi σ.wd).toArray 61,aj r2 gz.cells.toArray 37,emp]):=O.and k19;refine⟨t.a1,t.ps.length,t.c1,t.a2,t.bd.length,t.c2,t.a3,t.cp.length,t.c3,t.a4,t.sa.length,t.c4,rfl,s19.aB dL.arr λ N w20 s20=>s20.az 0 rfl t.arr.toList rfl (by simp[Se.arr,Value.oneCell']) λ w21 W=>?_⟩;have W:St w w21 (Sep [aj N t.arr 73,held t.In,held (Q.Rd g),aj b S.cells.toArray 125,held (uq S C),aj r3 (nr σ a3 c3).cells.toArray 37,rY a3 c3 σ.rr,aj r4 (uh σ.dm σ.bi σ.wd).toArray 61,aj r2 gz.cells.toArray 37,emp]):=W;refine au (Ci (W.bC 2 rfl) hI.ok) ?_;rintro v w22 ⟨d,a4,c4,el,rfl,k22⟩;have s22:St w w22 (Sep [MG a4 c4 d,held (oH d),aj N t.arr 73,held t.In,held (Q.Rd g),aj b S.cells.toArray 125,held (uq S C),aj r3 (nr σ a3 c3).cells.toArray 37,rY a3 c3 σ.rr,aj r4 (uh σ.dm σ.bi σ.wd).toArray 61,aj r2 gz.cells.toArray 37,emp]):=(W.and k22).two;have HZ:d.map Rn.er=σ.C.cl:=by rw[e5,el]; exact show Q.er.cl=C.er.cl by rw[eC']
  have hl':d.length=Q.cl.length:=by have:=congrArg List.length el; simpa using this
  have hl30:=hI.ok.cl;have mem:∀ x∈d,∃ y∈Q.cl,y.er=x.er:=λ x H=>by
   have:x.er∈Q.cl.map Rn.er:=by rw[<- el]; exact gP H
   exact bL.1 this
  have R:t.bd=S.s.bd:=vq eS2;have ep2:t.ps=S.s.ps:=show t.er.ps=S.s.er.ps by rw[eS2]
  have ecb:Q.s.bd=S.s.bd:=vq (hok'.cs X);have ok2:t.Ok:=K0 eS2 hso;refine⟨a4,d.length,c4,rfl,λ n w' m=>∃ (k:Nat) (ap:OA) (cp:Nat),n=k/\k<=d.length/\m=d.length-k/\St w w' (Sep (Zj b r2 r3 r4 N σ S t d a4 c4 { nr σ a3 c3 with ps:=(d.take k).map Rn.p,pa:=ap,pc:=cp })),⟨d.length,0,none,0,rfl,by omega,by omega,?_⟩,?_⟩
  ·have G:St w w22 (Sep [Wi none 0 [],MG a4 c4 d,held (oH d),aj N t.arr 73,held t.In,held (Q.Rd g),aj b S.cells.toArray 125,held (uq S C),aj r3 (nr σ a3 c3).cells.toArray 37,rY a3 c3 σ.rr,aj r4 (uh σ.dm σ.bi σ.wd).toArray 61,aj r2 gz.cells.toArray 37,emp]):=s22.dy;exact G.ay [0,8,1,2,3,4,6,9,10,11,12]
  rintro w23 m3 n50 ⟨k,ap,cp,rfl,hk,hm,G⟩ -
  by_cases Y:(k:Int)<(d.length:Int)
  ·obtain⟨x,H⟩:=bx d k (by omega);obtain⟨q,hq,T⟩:=((G.out 2 rfl).rd Rn.len).at H;refine aP Y (aq hq ⟨by omega,by omega,x.p,Ex8 ⟨_,T,G.aB UG.cells.toArray λ r8 w24 E=>E.az 0 rfl x.cells rfl x.one λ w25 s25=>?_⟩⟩);have hlen:((d.take k).map Rn.p).length=k:=by simp; omega
   refine⟨ap,((d.take k).map Rn.p).length,cp,s25.ag 2 rfl 12,x.p,s25.aQ 0 0 rfl rfl,dw (l:=(d.take k).map Rn.p) WA bE (I6.one _) (x:=x.p) (s25.out 1 rfl) (by omega) (by omega) (λ a' c' w' s26=>?_) rfl⟩;have s26:St w w' (Sep (aj r8 x.cells.toArray 80 :: Wi a' c' ((d.take k).map Rn.p++[x.p]) :: (Zj b r2 r3 r4 N σ S t d a4 c4 { nr σ a3 c3 with ps:=(d.take k).map Rn.p,pa:=ap,pc:=cp }).drop 1)):=s26.back (i:=1) (by show 1<12; decide);refine s26.aN 2 rfl (j:=12) (by show 12<15; decide) rfl λ w28 s28=>⟨d.length-(k+1),by omega,k+1,a',c',cA (by omega),by omega,rfl,?_⟩;rw[aH H,bP,cV];exact s28.second
  obtain rfl:k=d.length:=by omega
  rw[br] at G;generalize hM:({ nr σ a3 c3 with ps:=d.map Rn.p,pa:=ap,pc:=cp }:Sm)=M2 at G;have hN8:t.bd.length<=8:=by rw[R]; exact hso.bd.l2
  have hlb:∀ {y:Rn},y∈d->y.ask.length=t.bd.length/\∀ u∈y.ask,I6.Le u 4:=λ {y} hy=>by
   obtain⟨z,hz,ez⟩:=mem y hy;have ea:z.ask=y.ask:=show z.er.ask=y.er.ask by rw[ez]
   rw[<- ea,R,<- ecb];exact⟨(hI.ok.cz z hz).ask,hI.ok.ca z hz⟩
  refine aU Y ⟨_,_,_,G.ag 4 rfl 1,λ n w' m=>∃ (k:Nat) (bl:List Bs) (ba:OA) (bc:Nat),n=k/\k<=t.bd.length/\m=t.bd.length-k/\bl.map Bs.er=(List.range k).map (Fg σ)/\St w w' (Sep (T9 b r2 r3 r4 N σ S t d a4 c4 { M2 with bs:=bl,ba:=ba,bc:=bc })),⟨t.bd.length,0,[],none,0,rfl,by omega,by omega,rfl,?_⟩,?_⟩
  ·have E:St w w23 (Sep (held (mL []) :: QU none 0 [] :: Zj b r2 r3 r4 N σ S t d a4 c4 M2)):=St.jx (G.dy) λ w' x H=>by cases H
   have e:({ M2 with bs:=[],ba:=none,bc:=0 }:Sm)=M2:=by rw[<- hM]; rfl
   rw[e];have e2:M2.bs=[]:=by rw[<- hM]; rfl
   have e3:M2.ba=none:=by rw[<- hM]; rfl
   have e4:M2.bc=0:=by rw[<- hM]; rfl
   unfold T9;rw[e2,e3,e4];exact E.ay [1,0,3,2,4,5,6,7,8,9,10,11,12]
  rintro w24 m5 n51 ⟨k,bl,ba,bc,rfl,hk,hm5,hbl,E⟩ -;generalize L:({ M2 with bs:=bl,ba:=ba,bc:=bc }:Sm)=M3 at E;have hblk:bl.length=k:=by have:=congrArg List.length hbl; simpa using this
  have m1:M3.bs=bl:=by rw[<- L]
  have m2:M3.ba=ba:=by rw[<- L]
  have m3:M3.bc=bc:=by rw[<- L]
  by_cases Z:(k:Int)<(t.bd.length:Int)
  ·obtain⟨x,H⟩:=bx t.bd k (by omega);have A:k<8:=by omega
   have hkn:k<S.s.bd.length:=by rw[<- R]; omega
   obtain⟨q,hq,T⟩:=(E.bC 7 rfl).bd.fl.at H;refine aP Z (aq hq ⟨by omega,by omega,_,_,_,_,T,E.aB Hw.cells.toArray λ r10 w30 s30=>s30.az 0 rfl x.cells rfl x.one λ w31 s31=>?_⟩);have B:=s31.quiet (aC.drew w31 []);let B0:Bs:=⟨x.nm,σ.dm k,σ.bi k,σ.wd k,(S.bd.getD k dG).out,[],none,0⟩;refine⟨λ r w'=>St w w' (Sep (aj r B0.cells.toArray 54 :: T9 b r2 r3 r4 N σ S t d a4 c4 M3)),?_,_,B.ag 0 rfl 0,by omega,by omega,σ.dm k,by rw[Hs,B.ag 11 rfl]; exact MV A,by omega,by omega,σ.bi k,by rw[Hs,bY,B.ag 11 rfl]; exact MU A,by omega,by omega,σ.wd k,by rw[Hs,bY,B.ag 11 rfl]; exact MW A,?_,?_⟩
   ·rintro w32 V s33 -;let f:Rn->Int:=λ y=>yw t.ps (y.ask.getD k z6);refine⟨λ n w' m=>∃ (j:Nat) (U:OA) (ci:Nat),n=j/\j<=d.length/\m=d.length-j/\St w w' (Sep (rY U ci ((d.take j).map f) :: aj V ({ B0 with pts:=(d.take j).map f,pa:=U,pc:=ci }:Bs).cells.toArray 54 :: T9 b r2 r3 r4 N σ S t d a4 c4 M3)),⟨d.length,0,none,0,rfl,by omega,by omega,s33.dy⟩,?_⟩;rintro w33 m7 n55 ⟨j,U,ci,rfl,hj,hm7,P⟩ -;have hlen:((d.take j).map f).length=j:=by simp; omega
    by_cases hlt4:(j:Int)<(d.length:Int)
    ·obtain⟨y,hy⟩:=bx d j (by omega);have hym:=bf hy;obtain⟨q1,hq1,hcl1⟩:=((P.out 6 rfl).rd Rn.len).at hy;refine aP hlt4 (aq hq1 ⟨by omega,by omega,y.p,Ex8 ⟨_,hcl1,P.aB UG.cells.toArray λ r12 w34 s35=>s35.az 0 rfl y.cells rfl y.one λ w35 s36=>?_⟩⟩);have I:=s36.quiet (aC.drew w35 []);obtain⟨z1,z2⟩:=hlb hym;have hu:y.ask[k]?=some (y.ask.getD k z6):=getD_at (by omega);obtain⟨q2,hq2,hcl2⟩:=((I.bC 8 rfl) y hym).ask.at hu;refine⟨U,((d.take j).map f).length,ci,I.ag 2 rfl 5,t.a1,t.ps.length,t.c1,I.ag 9 rfl 0,y.xa,y.ask.length,y.xc,I.ag 0 rfl 6,aq hq2 ⟨by omega,by omega,_,hcl2,au (Gl (I.bC 10 rfl).ps (I.bC 10 rfl).h1 ok2.ps (z2 _ (bf hu))) ?_⟩⟩;rintro v w36 ⟨rfl,c36⟩;have s38:=I.quiet c36;refine⟨_,rfl,s38.ag 2 rfl 5,An (s38.aB _ λ r w' s'=>s'.ag 3 rfl 5) (dw (l:=(d.take j).map f) QV bV (pQ _) (x:=f y) (s38.out 1 rfl) (by omega) (by omega) (λ a' c' w' s39=>?_) rfl)⟩;have s39:St w w' (Sep (aj r12 y.cells.toArray 80 :: rY a' c' ((d.take j).map f++[f y]) :: aj V ({ B0 with pts:=(d.take j).map f,pa:=U,pc:=ci }:Bs).cells.toArray 54 :: T9 b r2 r3 r4 N σ S t d a4 c4 M3)):=s39.back (i:=1) (by show 1<16; decide);refine s39.aN 2 rfl (j:=5) (by show 5<6; decide) rfl λ w28 s40=>⟨d.length-(j+1),by omega,j+1,a',c',cA (by omega),by omega,rfl,?_⟩;rw[aH hy,bP,cV];exact s40.second
    obtain rfl:j=d.length:=by omega
    rw[br] at P;let K:Bs:={ B0 with pts:=d.map f,pa:=U,pc:=ci };refine aU hlt4 ⟨ba,bl.length,bc,?_,Ex8 ⟨P.cellsIn 1 rfl,?_⟩⟩
    ·rw[P.ag 4 rfl,<- L]; rfl
    subst L;have s35:St w w33 (Sep (rY U ci K.pts :: aj V K.cells.toArray 54 :: QU ba bc bl :: held (mL bl) :: (T9 b r2 r3 r4 N σ S t d a4 c4 { M2 with bs:=bl,ba:=ba,bc:=bc }).drop 2)):=P;refine dw (l:=bl) Yr Bs.len (Bs.one K) (x:=K) (s35.out 2 rfl) (by omega) (by omega) (λ a' c' w' s41=>?_) rfl;have s41:St w w' (Sep (rY U ci K.pts :: aj V K.cells.toArray 54 :: QU a' c' (bl++[K]) :: held (mL bl) :: (T9 b r2 r3 r4 N σ S t d a4 c4 { M2 with bs:=bl,ba:=ba,bc:=bc }).drop 2)):=s41.back (i:=2) (by show 2<15; decide);refine s41.aN 4 rfl (j:=13) (by show 13<15; decide) rfl λ w42 s42=>⟨t.bd.length-(k+1),by omega,k+1,bl++[K],a',c',cA (by omega),by omega,rfl,?_,?_⟩
    ·rw[yO,bP,bP,hbl,cV,cV];have e1:(σ.S.s.bd.getD k Hw).nm=x.nm:=by rw[e2,<- R,aJ,H]; rfl
     have e6:Fg σ k=K.er:=by
      unfold Fg;rw[e1,e4,<- HZ,eG,e3,<- ep2]; rfl
     rw[e6]
    ·have s43:St w w42 (Sep (rY U ci K.pts :: held (mL bl) :: QU a' c' (bl++[K]) :: aj r3 ({ M2 with bs:=bl++[K],ba:=a',bc:=c' }:Sm).cells.toArray 37 :: (T9 b r2 r3 r4 N σ S t d a4 c4 { M2 with bs:=bl++[K],ba:=a',bc:=c' }).drop 3)):=s42.ay [0,3,2,4,5,6,7,8,9,10,11,12,13,14];have J:=s43.fX (S:=mL (bl++[K])) (bn bV) (aW _) λ w' h1 h2 y hy=>(aV.1 hy).elim (h2 y) λ e=>by rw[bp.1 e]; exact h1
     exact J.ay [1,0,2,3,4,5,6,7,8,9,10,11,12]
   ·refine au (Uv (B.ay [9]) F.b8 A hkn) ?_;rintro v w43 ⟨rfl,rfl⟩;refine⟨_,rfl,by rw[Hs,bY,B.ag 11 rfl]; exact MW A,by rw[Hs,bY,B.ag 11 rfl]; exact MU A,by rw[Hs,B.ag 11 rfl]; exact MV A,B.ag 0 rfl 0,B.aB M6.cells.toArray λ r15 w44 J=>⟨by rw[Hs,bY,J.ag 12 rfl]; exact MW A,by rw[Hs,bY,J.ag 12 rfl]; exact MU A,by rw[Hs,J.ag 12 rfl]; exact MV A,J.ag 1 rfl 0,J.az 0 rfl B0.cells rfl (Bs.one _) λ w45 s45=>s45.ay [0,2,3,4,5,6,7,8,9,10,11,12,13,14]⟩⟩
   ·refine B.aB M6.cells.toArray λ r16 w46 D=>⟨by rw[Hs,bY,D.ag 12 rfl]; exact MW A,by rw[Hs,bY,D.ag 12 rfl]; exact MU A,by rw[Hs,D.ag 12 rfl]; exact MV A,D.ag 1 rfl 0,au (Uv (D.ay [10]) F.b8 A hkn) ?_⟩;rintro v w47 ⟨rfl,rfl⟩;exact⟨_,rfl,by rw[Hs,bY,D.ag 12 rfl]; exact MW A,by rw[Hs,bY,D.ag 12 rfl]; exact MU A,by rw[Hs,D.ag 12 rfl]; exact MV A,D.ag 1 rfl 0,D.az 0 rfl B0.cells rfl (Bs.one _) λ w48 s48=>s48.ay [0,2,3,4,5,6,7,8,9,10,11,12,13,14]⟩
  obtain rfl:k=t.bd.length:=by omega
  refine aU Z (Ex8<|Ex8<|Ex4<|⟨_,E.cellsIn 2 rfl,E.az 11 rfl M3.cells rfl (Sm.one _) λ w49 s49=>(Ex8<|Ex8<|Ex4<|⟨_,s49.cellsIn 11 rfl,M3,rfl,?_,?_⟩)⟩)
  ·subst L hM;unfold UA T8;rw[ah (by rw[e1]; exact X),e2,<- R,<- hbl,<- HZ,eG]; rfl
  ·have s50:=(s49.ay [0,1,3,9]).held ((bn Bs.len).cons ((aW _).cons ((bn bE).cons ((bn bV).cons js.nil))));exact s50.weak (eI λ w' ⟨i1,i2,i3,i4,_⟩=>⟨i3,i1,i2,i4⟩)
end
