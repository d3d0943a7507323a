import Derived.Lib.AtoiBound
import Derived.Lib.ItoaLen
import Derived.Test.YtpddenfeaadgpaaGreatDoorF06
set_option linter.unusedVariables false
set_option maxRecDepth 100000
namespace Go.Proofs.YtpddenfeaadgpaaGreatDoor
open Go Go.Vc _root_.Go.Proofs.Tryz
theorem CD(w:World)(a:OA)(n c:Nat):CP 150 #[.slice a n c,.agg #[.slice none 0 0,.slice none 0 0]] w (λ r w'=>r=.bool true/\ax w w' []):=by
 refine nt ?_;unfold jC;refine(St.start w).one.av #[.slice none 0 0,.slice none 0 0] λ r1 w1 s1=>⟨λ b w2=>b=false/\w2=w1,?_,_,_,_,s1.ag 0 rfl 0,cF rfl ⟨_,_,_,s1.ag 0 rfl 0,rfl,rfl⟩⟩;rintro w2 _ ⟨rfl,rfl⟩ -;refine cF rfl ⟨_,_,_,s1.ag 0 rfl 0,λ i w3 m=>i=0/\w3=w2,⟨0,rfl,rfl⟩,?_⟩;rintro w3 m i ⟨rfl,rfl⟩ -;refine cF rfl ⟨_,_,_,s1.ag 0 rfl 1,λ i w4 m=>i=0/\w4=w3,⟨0,rfl,rfl⟩,?_⟩;rintro w4 m i ⟨rfl,rfl⟩ -;exact cF rfl ⟨rfl,s1.an⟩
theorem Dy{w:World}{a:OA}{c:Nat}{x:Ch}(hr:nG w a [x])(ho:x.Ok):CP 110 #[.slice a 1 c,.agg #[.slice none 0 0,.slice none 0 0]] w (λ r w'=>r=iv 13/\ax w w' []):=by
 refine nr ?_;unfold jB;refine(St.start w).one.av #[.slice none 0 0,.slice none 0 0] λ r1 w1 s1=>aq (rH (l:=[x]) (k:=c) (hr.an s1.an) (by simp)) ?_;rintro v w2 ⟨rfl,c2⟩;have s2:=s1.quiet c2;have hv:[x].all oX=true:=rG.2 λ c hc=>by rw[List.mem_singleton.1 hc]; exact ho
 refine⟨_,rfl,cF (by rw[hv]; rfl) ⟨_,_,_,_,_,_,s2.cellsIn 0 rfl,aq (CD w2 a 1 c) ?_⟩⟩;rintro v w3 ⟨rfl,c3⟩;have s3:=s2.quiet c3;refine⟨_,rfl,cF rfl ⟨_,_,_,s3.ag 0 rfl 0,cT rfl ⟨_,_,_,s3.ag 0 rfl 1,aq (K:=λ r w'=>r=.bool false/\w' = w3) (kK ?_) ?_⟩⟩⟩
 ·unfold gT;exact cT rfl ⟨rfl,rfl⟩
 ·rintro v w4 ⟨rfl,rfl⟩;exact⟨_,rfl,cT rfl ⟨rfl,s3.an⟩⟩
theorem B7{w:World}{a:OA}{c:Nat}{l:List Ch}(hr:nG w a l)(hl:l.length<=1000)(ho:∀ c∈l,c.Ok):CP 59 #[.slice a l.length c] w (λ r w'=>r=.bool true/\ax w w' []):=by
 refine qP ?_;unfold oC;refine⟨λ i w2 m=>∃ k:Nat,i=k/\k<=l.length/\m=l.length-k/\ax w w2 [],⟨l.length,0,rfl,by omega,by omega,ax.refl _ _⟩,?_⟩;rintro w2 m i ⟨k,rfl,hk,hm,c2⟩ -
 by_cases hlt:(k:Int)<(l.length:Int)
 ·have hx:l[k]?=some (l[k]'(by omega)):=gE (by omega);generalize l[k]'(by omega)=y at hx;obtain⟨p,hp,hcl⟩:=(hr.an c2).at hx;refine cT (dT hlt) (ai hp ⟨by omega,by omega,y.p,y.want,hcl,(St.start' c2).one.av dj.cells.toArray λ r1 w3 s3=>s3.az 0 rfl y.cells rfl y.one λ w4 s4=>⟨y.p,y.want,s4.cellsIn 0 rfl,s4.av y.cells.toArray λ r2 w5 s5=>?_⟩⟩);have h1:nG w5 (some ⟨r2,0,none⟩) [y]:=λ i z hz=>by
   obtain⟨rfl,rfl⟩:i=0/\z=y:=by
    cases i with
    | zero=>simp at hz; exact⟨rfl,hz.symm⟩
    | succ i=>simp at hz
   exact⟨_,_,rfl,by rw[Nat.zero_mul,rE]; exact s5.cellsIn 0 rfl,rfl,rfl⟩
  refine aq (Dy (c:=1) h1 (ho y (List.mem_of_getElem? hx))) ?_;rintro v w6 ⟨rfl,c6⟩;exact⟨_,rfl,cF rfl ⟨l.length-(k+1),by omega,k+1,ay ⟨by omega,by omega⟩,by omega,rfl,(s5.quiet c6).an⟩⟩
 ·exact cF (dF hlt) ⟨rfl,c2⟩
def fk(l:List Ch)(bids:List Of)(x:Of):Bool:=decide (x.v>EA (jJ l bids) l x.want)
def gk(l:List Ch)(bids:List Of):Int:=if bids.all eX then (if bids.any (fk l bids) then 16 else 0) else 4
def xO{α:Type}(p:α->Bool):List α->Nat
 | []=>0
 | x :: l=>if p x=true then 0 else xO p l+1
theorem nV{α:Type}{p:α->Bool}:∀ {l:List α} {k:Nat} {x:α},(l.take k).any p=false->l[k]?=some x->p x=true->xO p l=k
 | y :: l,0,x,_,hx,h=>by cases hx; rw[xO,if_pos h]
 | y :: l,k+1,x,ha,hx,h=>by
  rw[List.take_succ_cons,List.any_cons,Bool.or_eq_false_iff] at ha;rw[xO,if_neg (by rw[ha.1]; decide),nV ha.2 (by simpa using hx) h]
def gq(l:List Ch)(bids:List Of):Nat:=if bids.all eX then (if bids.any (fk l bids) then xO (fk l bids) bids else 0) else xO (λ x=>!eX x) bids
theorem qs{w:World}{a1 a2:OA}{c1 c2:Nat}{l:List Ch}{bids:List Of}(hr:nG w a1 l)(hl:l.length<=1000)(ho:∀ c∈l,c.Ok)(hb:iQ w a2 bids)(hbl:bids.length<=100000) :
  CP 26 #[.slice a1 l.length c1,.slice a2 bids.length c2] w (λ r w'=>r=.tuple #[iv (gq l bids),iv (gk l bids)]/\ax w w' []):=by
 refine qO ?_;unfold oB;refine aq (B7 hr hl ho) ?_;rintro v w1 ⟨rfl,d1⟩;refine⟨_,rfl,cF rfl ⟨λ i w2 m=>∃ k:Nat,i=k/\k<=bids.length/\m=bids.length-k/\(bids.take k).all eX=true/\ax w w2 [],⟨bids.length,0,rfl,by omega,by omega,rfl,d1⟩,?_⟩⟩;rintro w2 m i ⟨k,rfl,hk,hm,ha,d2⟩ -
 by_cases hlt:(k:Int)<(bids.length:Int)
 ·have hx:bids[k]?=some (bids[k]'(by omega)):=gE (by omega);generalize bids[k]'(by omega)=y at hx;obtain⟨p,hp,hcl⟩:=(hb.an d2).at hx;refine cT (dT hlt) (ai hp ⟨by omega,by omega,_,y.want,_,hcl,(St.start' d2).one.av FQ.cells.toArray λ r1 w3 s3=>s3.az 0 rfl y.cells rfl y.one λ w4 s4=>⟨_,y.want,_,s4.cellsIn 0 rfl,aq (CS w4 y) ?_⟩⟩);rintro v w5 ⟨rfl,c5⟩;refine⟨_,rfl,?_⟩
  cases hy:eX y with
  | false =>
   have:bids.all eX=false:=List.all_eq_false.2 ⟨y,List.mem_of_getElem? hx,by simp[hy]⟩;have e2:gq l bids=k:=by
    rw[gq,this,if_neg (by decide)];refine nV ?_ hx (by rw[hy]; rfl);rw[List.any_eq_false];intro z hz;rw[List.all_eq_true.1 ha z hz]; decide
   exact cT rfl ⟨by rw[e2,gk,this]; rfl,(s4.quiet c5).an⟩
  | true =>
   refine cF rfl ⟨bids.length-(k+1),by omega,k+1,ay ⟨by omega,by omega⟩,by omega,rfl,?_,(s4.quiet c5).an⟩;rw[aQ hx,List.all_append,ha]; simp[hy]
 ·obtain rfl:bids.length=k:=by omega
  rw[List.take_length] at ha;have e0:gk l bids=if bids.any (fk l bids) then 16 else 0:=by rw[gk,if_pos ha]
  have hok:∀ x∈bids,I6.Le x.want 4/\x.v<=1000000:=λ x hx=>by
   have:=List.all_eq_true.1 ha x hx;unfold eX at this;simp only[Bool.and_eq_true,decide_eq_true_eq] at this;exact⟨HK this.1,this.2.2.2⟩
  refine cF (dF hlt) (aq (K:=λ r w'=>∃ r1 r2,r=.func (.func 111) #[] #[pt r1,pt r2]/\St w w' (Sep [ah r2 #[.slice a2 bids.length c2] 28,ah r1 #[.slice a1 l.length c1] 68,emp])) (pQ ?_) ?_)
  ·unfold mB;exact(St.start' d2).one.av _ λ r1 w3 s3=>s3.av _ λ r2 w4 s4=>⟨r1,r2,rfl,s4⟩
  rintro v w6 ⟨r1,r2,rfl,s6⟩;refine⟨_,rfl,λ i w7 m=>∃ k:Nat,i=k/\k<=bids.length/\m=bids.length-k/\(bids.take k).any (fk l bids)=false/\St w w7 (Sep [ah r2 #[.slice a2 bids.length c2] 28,ah r1 #[.slice a1 l.length c1] 68,emp]),⟨bids.length,0,rfl,by omega,by omega,rfl,s6⟩,?_⟩;clear hlt hm hk d2;rintro w7 m i ⟨k,rfl,hk,hm,hany,s7⟩ -
  by_cases hlt:(k:Int)<(bids.length:Int)
  ·have hx:bids[k]?=some (bids[k]'(by omega)):=gE (by omega);generalize bids[k]'(by omega)=y at hx;obtain⟨p,hp,hcl⟩:=(hb.an s7.an).at hx;refine cT (dT hlt) (ai hp ⟨by omega,by omega,_,y.want,_,hcl,s7.av FQ.cells.toArray λ r3 w8 s8=>s8.az 0 rfl y.cells rfl y.one λ w9 s9=>?_⟩);have s10:=s9.quiet (ax.drew w9 []);refine⟨_,s10.ag 0 rfl 7,y.want,s10.aF 0 1 rfl rfl,aq (It (F:=jJ l bids) (hr.an s10.an) hl ho (λ q hq=>Bf ho (λ x hx=>(hok x hx).2) hq) ?_ (hok y (List.mem_of_getElem? hx)).1) ?_⟩
   ·intro w' q R hc _ kk;refine cI (by kernel_rfl) (aq (GB (hr.an (s10.quiet hc).an) hl ho (hb.an (s10.quiet hc).an) hbl ((s10.quiet hc).ag 2 rfl 0) ((s10.quiet hc).ag 1 rfl 0) q) ?_);rintro r w'' ⟨rfl,h⟩; exact kk w'' h
   ·rintro v w10 ⟨rfl,c10⟩;have s11:=s10.quiet c10;refine⟨_,rfl,s11.ag 0 rfl 7,?_⟩
    cases ho:fk l bids y with
    | true =>
     have e2:gq l bids=k:=by rw[gq,if_pos ha,cC hx ho,if_pos rfl]; exact nV hany hx ho
     exact cT ho ⟨by rw[e2,e0,cC hx ho]; rfl,s11.an⟩
    | false=>exact cF ho ⟨bids.length-(k+1),by omega,k+1,ay ⟨by omega,by omega⟩,by omega,rfl,ck hany hx ho,s11.aA [1,2,3]⟩
  ·obtain rfl:bids.length=k:=by omega
   rw[List.take_length] at hany;have e2:gq l bids=0:=by rw[gq,if_pos ha,hany]; rfl
   exact cF (dF hlt) ⟨by rw[e2,e0,hany]; rfl,s7.an⟩
structure Ck.Inv (C:Ck):Prop where
 ok:C.Ok
 n30:C.ov=false->C.cl.length<30
section
variable {C C' : Ck}
theorem Rn.Sz.er{x:Rn}{n:Nat}:x.er.Sz n<->x.Sz n:=⟨λ h=>⟨h.ask,h.got,h.bd⟩,λ h=>⟨h.ask,h.got,h.bd⟩⟩
theorem Ck.Inv.Kt(h:C.Inv):C.er.Inv:=by
 obtain⟨⟨s,o,cl,cz,cp,ca,cg,p,ask,bd,dp,asked⟩,n30⟩:=h;have mm:∀ {x:Rn},x∈C.er.cl->∃ y∈C.cl,y.er=x:=λ hx=>List.mem_map.1 hx;have hl:C.er.cl.length=C.cl.length:=List.length_map _;refine⟨⟨⟨s.ps,s.bd,s.cp,s.sa⟩,o,by rw[hl]; exact cl,λ x hx=>?_,λ x hx=>?_,λ x hx=>?_,λ x hx=>?_,p,ask,bd,dp,asked⟩,λ h=>by rw[hl]; exact n30 h⟩
 ·obtain⟨y,hy,rfl⟩:=mm hx; exact Rn.Sz.er.2 (cz y hy)
 ·obtain⟨y,hy,rfl⟩:=mm hx; exact cp y hy
 ·obtain⟨y,hy,rfl⟩:=mm hx; exact ca y hy
 ·obtain⟨y,hy,rfl⟩:=mm hx; exact cg y hy
theorem Ck.Inv.Kj(h:C.er.Inv):C.Inv:=by
 obtain⟨⟨s,o,cl,cz,cp,ca,cg,p,ask,bd,dp,asked⟩,n30⟩:=h;have mm:∀ {x:Rn},x∈C.cl->x.er∈C.er.cl:=λ hx=>List.mem_map_of_mem hx;have hl:C.er.cl.length=C.cl.length:=List.length_map _;rw[hl] at cl n30;exact⟨⟨⟨s.ps,s.bd,s.cp,s.sa⟩,o,cl,λ x hx=>Rn.Sz.er.1 (cz _ (mm hx)),λ x hx=>cp x.er (mm hx),λ x hx=>ca x.er (mm hx),λ x hx=>cg x.er (mm hx),p,ask,bd,dp,asked⟩,n30⟩
theorem Ck.Inv.er(h:C.Inv)(e:C'.er=C.er):C'.Inv:=Ck.Inv.Kj (e▸h.Kt)
theorem I8(C:Ck)(n:Nat):fz C.er n=fz C n:=by
 show(C.cl.map Rn.er).map _=_;rw[List.map_map]; rfl
theorem GZ(C:Ck):dz C.er=dz C:=by
 show bR C.dp 0 (((C.cl.map Rn.er).getLast?.map Rn.got).getD [])=_;rw[List.getLast?_map,Option.map_map]; rfl
theorem mZ(C:Ck):C.er.cl.length=C.cl.length:=List.length_map _
theorem Eg(C:Ck):bg C.er=bg C:=by
 unfold bg;rw[mZ,GZ]; rfl
theorem D8(C:Ck):e9 C.er=e9 C:=by unfold e9; rw[Eg]; rfl
theorem EE(C:Ck):cW C.er=cW C:=by unfold cW; rw[D8]; rfl
theorem GK(C:Ck):bP C.er=bP C:=by unfold bP; rw[D8,EE,mZ]
theorem JC(C:Ck):(vf C.er).er=(vf C).er:=by
 show({ p:=_,ask:=_,got:=bg C.er,bd:=_,xa:=_,xc:=_,ga:=_,gc:=_,ba:=_,bc:=_ }:Rn)=_;rw[Eg]; rfl
theorem Ja(C:Ck):C.er.er=C.er:=by
 show({ C.er with cl:=(C.cl.map Rn.er).map Rn.er }:Ck)=_;rw[List.map_map]; rfl
theorem xD(C:Ck):(bA C.er).er=(bA C).er:=by
 have e1:(bA C.er).cl.map Rn.er=(bA C).cl.map Rn.er:=by
  show((C.cl.map Rn.er)++[vf C.er]).map Rn.er=(C.cl++[vf C]).map Rn.er;rw[List.map_append,List.map_append,List.map_map,List.map_singleton,List.map_singleton,JC]; rfl
 show({ s:=_,o:=_,cl:=(bA C.er).cl.map Rn.er,p:=if bP C.er then C.p else (cW C.er).1,ask:=_,bd:=_,dp:=_,ov:=bP C.er,ka:=_,kc:=_,xa:=_,xc:=_,ya:=_,yc:=_,za:=_,zc:=_ }:Ck)=_;rw[e1,GK,EE]; rfl
theorem A4(C:Ck)(n:Nat)(u:I6):(gZ C.er n u).er=(gZ C n u).er:=by
 show({ s:=_,o:=_,cl:=(C.cl.map Rn.er).map Rn.er,p:=_,ask:=_,bd:=_,dp:=_,ov:=_,ka:=_,kc:=_,xa:=_,xc:=_,ya:=_,yc:=_,za:=_,zc:=_ }:Ck)=_;rw[List.map_map]; rfl
theorem F6(C:Ck)(n:Nat)(y:Br)(u:I6):bK C.er n y u=bK C n y u:=by
 unfold bK;rw[I8]; rfl
theorem ob{S:Se}{o:Po}(hs:S.Ok)(ho:o.ok):(dy S o).Inv:=⟨GV hs ho,λ _=>by show([]:List Rn).length<30; decide⟩
theorem nK(h:C.Inv){n:Nat}{y:Br}{u:I6}(hb:bK C n y u=0):(gZ C n u).Inv:=by
 have hu:I6.Le u 4:=by
  unfold bK at hb
  split at hb
  ·cases hb
  ·split at hb
   ·rename_i h1; exact absurd hb h1
   ·rename_i h1;have h2:cP C.s n y u=0:=by simpa using h1
    unfold cP at h2
    split at h2
    ·rename_i h3; exact HK h3
    ·cases h2
 obtain⟨⟨s,o,cl,cz,cp,ca,cg,p,ask,bd,dp,asked⟩,n30⟩:=h;refine⟨⟨s,o,cl,cz,cp,ca,cg,p,by simpa[gZ] using ask,by simpa[gZ] using bd,dp,λ v hv=>?_⟩,n30⟩;rcases List.mem_or_eq_of_mem_set hv with hv|rfl
 ·exact asked v hv
 ·exact hu
theorem IE{n:Nat}:∀ u∈List.replicate n z6,I6.Le u 4:=λ u hu=>by rw[List.eq_of_mem_replicate hu]; exact Ce (by omega)
theorem Gn(h:C.Ok):(eG C).Ok:=by
 obtain⟨s,o,cl,cz,cp,ca,cg,p,ask,bd,dp,asked⟩:=h;exact⟨s,o,cl,cz,cp,ca,cg,p,by simpa[eG] using dp,by simpa[eG] using dp,dp,IE⟩
theorem Ae{o:Po}{p ex:I6}(hp:bw p=true)(h:(fj o p ex).2=0):bw (fj o p ex).1=true:=by
 unfold fj at h ⊢
 split
 ·rename_i g; rw[if_pos g] at h; cases h
 ·rename_i g;show bw (aS o p ex)=true
  by_cases e:aS o p ex=p
  ·rw[e]; exact hp
  ·cases hv:bw (aS o p ex) with
   | true=>rfl
   | false=>exact absurd ⟨e,hv⟩ g
theorem iY(h:C.Inv)(hov:C.ov=false):(bA C).Inv:=by
 have h30:=h.n30 hov;have hg:=zX h.ok;have hk:=h.ok;obtain⟨s,o,cl,cz,cp,ca,cg,p,ask,bd,dp,asked⟩:=Gn h.ok;have mm:∀ {Q:Rn->Prop},(∀ x∈C.cl,Q x)->Q (vf C)->∀ x∈(bA C).cl,Q x:=λ h1 h2 x hx=>by
  rcases List.mem_append.1 hx with hx|hx
  ·exact h1 x hx
  ·rw[List.mem_singleton.1 hx]; exact h2
 refine⟨⟨s,o,?_,mm cz ⟨hk.ask,hg.1,hk.bd⟩,mm cp hk.p,mm ca hk.asked,mm cg hg.2,?_,ask,bd,dp,asked⟩,λ hl=>?_⟩
 ·show(C.cl++[vf C]).length<=30;rw[List.length_append,List.length_singleton]; omega
 ·show bw (if bP C then C.p else (cW C).1)=true
  split
  ·exact hk.p
  ·rename_i hl;refine Ae hk.p ?_;have hl:bP C=false:=by simpa using hl
   unfold bP at hl;simp only[Bool.or_eq_false_iff] at hl;have h2:(cW C).2=0:=by simpa using hl.2.2
   exact h2
 ·have hl:bP C=false:=hl;unfold bP at hl;simp only[Bool.or_eq_false_iff,decide_eq_false_iff_not] at hl;show(C.cl++[vf C]).length<30;rw[List.length_append,List.length_singleton]; omega
end
theorem St.pk{w0 w:World}{l m:List aJ}(s:St w0 w (Sep (l++m))):St w0 w (Sep (l++[Sep m])):=(s.split l).open
theorem St.HP{w0 w:World}{l m:List aJ}(s:St w0 w (Sep (l++[Sep m]))):St w0 w (Sep (l++m)):=s.shut.cat
theorem sW{S:Se}(h:S.Ok):jP S=0:=by
 have e1:tJ S.ps=0:=by
  unfold tJ;rw[if_neg (by have:=h.ps.l1; omega),if_neg (by have:=h.ps.l2; omega),bf λ i p hp=>by rw[Nat.zero_add]; exact ku (h.ps.good i p hp)];rw[if_neg (λ h=>h rfl),if_pos (by rw[rC h.ps.l2]; exact h.ps.lim)]
 have e2:vt S.bd=0:=by
  unfold vt;rw[if_neg (by have:=h.bd.l1; omega),if_neg (by have:=h.bd.l2; omega),bf λ i p hp=>by rw[Nat.zero_add]; exact jT (h.bd.good i p hp)]
 have e3:zO S.bd.length S.cp=0:=by
  unfold zO;rw[if_neg (by have:=h.cp.l1; omega),bf λ i p hp=>by rw[Nat.zero_add]; exact j7 (h.cp.good i p hp)]
 have e4:Dr S.ps S.sa=0:=by
  unfold Dr;rw[if_neg (by have:=h.sa.l1; omega),bf λ i p hp=>by rw[Nat.zero_add]; exact kP (h.sa.good i p hp)]
 unfold jP;rw[e1,e2,e3,e4]; rfl
def gj(S:Se)(o:Po):Int:=if jP S≠0 then jP S else ei o
theorem Iu{w:World}{S:Se}(h:S.In w)(o:Po):CP 46 #[.agg S.arr,o.v] w (λ r w'=>(gj S o≠0/\r=.tuple #[.pointer none,iv (gj S o)]/\ax w w' [])\/(gj S o=0/\S.Ok/\o.ok/\∃ g C',C'.er=(dy S o).er/\r=.tuple #[.pointer (some ⟨g,0,none⟩),iv 0]/\St w w' (Sep (eu g C')))):=by
 by_cases hh:S.Ok/\o.ok
 ·obtain⟨hs,ho⟩:=hh;refine aq (Js h hs ho) λ v w' ⟨g,C',h1,h2,h3⟩=>⟨v,rfl,.inr ⟨by rw[gj,sW hs,ei,if_pos ho]; rfl,hs,ho,g,C',h1,h2,h3⟩⟩
 refine nP ?_;unfold oY;refine(St.start w).one.av S.arr λ r1 w1 s1=>s1.av o.cells.toArray λ r2 w2 s2=>⟨_,_,_,_,_,_,_,_,_,_,_,_,s2.cellsIn 1 rfl,aq (lB (h.an s2.an)) ?_⟩;rintro v w3 ⟨⟨rfl,he⟩,c3⟩;have s3:=s2.quiet c3;refine⟨_,rfl,?_⟩
 by_cases g:jP S=0
 ·have hs:=he.1 g;have ho : ¬ o.ok:=λ ho=>hh ⟨hs,ho⟩;refine cF (by rw[g]; rfl) ⟨_,_,_,_,s3.cellsIn 0 rfl,aq (pE w3 o) ?_⟩;rintro v w4 ⟨rfl,c4⟩;have e:gj S o=4:=by rw[gj,g,ei,if_neg ho]; rfl
  exact⟨_,rfl,cT (by rw[ei,if_neg ho]; rfl) (.inl ⟨by rw[e]; decide,by rw[e,ei,if_neg ho],(s3.quiet c4).an⟩)⟩
 ·have e:gj S o=jP S:=by rw[gj,if_pos g]
  exact cT (by simpa using g) (.inl ⟨by rw[e]; exact g,by rw[e],s3.an⟩)
structure Lx where
 a:Option Addr
 c:Nat
 l:List Of
def Lx.cells(x:Lx):List Value:=[.slice x.a x.l.length x.c]
structure wV (w:World) (a:OA) (L:List Lx):Prop where
 r:bU 1 Lx.cells w a L
 i:∀ x∈L,iQ w x.a x.l/\x.l.length<=100000
theorem wV.an{w w' : World}{a:OA}{L:List Lx}(h:wV w a L)(hc:ax w w' []):wV w' a L:=⟨h.r.an hc,λ x hx=>⟨(h.i x hx).1.an hc,(h.i x hx).2⟩⟩
def pW(S:Se)(C:Ck)(k:Nat)(l:List Of):Ck :=
 if bK C k (S.bd.getD k eH) (cG S k l C.p).1=0 then gZ C k (cG S k l C.p).1 else if bK C k (S.bd.getD k eH) z6=0 then gZ C k z6 else C
def cv(S:Se)(L:List Lx)(C:Ck):Nat->Ck
 | 0=>C
 | k+1=>pW S (cv S L C k) k ((L[k]?.map Lx.l).getD [])
theorem FV{S:Se}{C:Ck}(h:C.Inv)(k:Nat)(l:List Of):(pW S C k l).Inv:=by
 unfold pW
 split
 ·rename_i g; exact nK h g
 ·split
  ·rename_i g; exact nK h g
  ·exact h
theorem oz{S:Se}{L:List Lx}{C:Ck}(h:C.Inv):∀ k,(cv S L C k).Inv
 | 0=>h
 | k+1=>FV (oz h k) k _
theorem I0(S:Se)(C:Ck)(k:Nat)(l:List Of):(pW S C k l).s=C.s/\(pW S C k l).ov=C.ov/\(pW S C k l).cl=C.cl:=by
 unfold pW
 split
 ·exact⟨rfl,rfl,rfl⟩
 ·split<;>exact⟨rfl,rfl,rfl⟩
theorem ve(S:Se)(L:List Lx)(C:Ck):∀ k,(cv S L C k).s=C.s/\(cv S L C k).ov=C.ov/\(cv S L C k).cl=C.cl
 | 0=>⟨rfl,rfl,rfl⟩
 | k+1=>by
  obtain⟨h1,h2,h3⟩:=ve S L C k;obtain⟨g1,g2,g3⟩:=I0 S (cv S L C k) k ((L[k]?.map Lx.l).getD []);exact⟨g1.trans h1,g2.trans h2,g3.trans h3⟩
section
variable {b:Nat} {C:Ck} {w0 w:World} {B:aJ} {S:Se} {al:OA} {cl:Nat} {L:List Lx}
set_option maxHeartbeats 1000000 in
theorem He(s:St w0 w (Sep (eu b C++[B])))(hk:C.Inv)(hS:∀ {w'},ax w0 w' []->S.In w')(hse:C.s.er=S.er)(hL:∀ {w'},ax w0 w' []->wV w' al L)(hlen:L.length=S.bd.length)(hov:C.ov=false) :
  CP 47 #[pt b,.agg S.arr,.slice al L.length cl] w (λ r w'=>r=.tuple #[]/\∃ C',C'.er=(bA (cv S L C L.length)).er/\St w0 w' (Sep (eu b C'++[B]))):=by
 refine sA ?_;unfold qf;have hbd:C.s.bd=S.bd:=by
  show C.s.er.bd=S.er.bd;rw[hse]
 have h8:=hk.ok.s.bd.l2;rw[hbd] at h8;refine s.av S.arr λ r1 w1 s1=>?_;have s1:St w0 w1 (Sep (eu b C++[ah r1 S.arr 27,B])):=s1.aA [1,2,3,4,5,6,0,7];refine⟨λ n w2 m=>∃ k:Nat,n=k/\k<=L.length/\m=L.length-k/\St w0 w2 (Sep (eu b (cv S L C k)++[ah r1 S.arr 27,B])),⟨L.length,0,rfl,by omega,by omega,s1⟩,?_⟩;rintro w2 m n ⟨k,rfl,hk1,hm,s2⟩ -;have hinv:=oz (S:=S) (L:=L) hk k;obtain⟨es,eo,ec⟩:=ve S L C k
 by_cases hlt:(k:Int)<(L.length:Int)
 ·have hx:L[k]?=some (L[k]'(by omega)):=gE (by omega);have eN:cv S L C (k+1)=pW S (cv S L C k) k ((L[k]?.map Lx.l).getD []):=rfl;generalize L[k]'(by omega)=x at hx;rw[hx] at eN;have eN:cv S L C (k+1)=pW S (cv S L C k) k x.l:=eN;have hy:S.bd[k]?=some (S.bd.getD k eH):=by rw[List.getD_eq_getElem?_getD,gE (by omega)]; rfl
  have hy2:(cv S L C k).s.bd[k]?=some (S.bd.getD k eH):=by rw[es,hbd]; exact hy
  generalize hC2:cv S L C (k+1)=C2 at eN;generalize cv S L C k=C1 at s2 hinv es eo ec eN hy2;obtain⟨q,hq,hcl⟩:=(hL s2.an).r.at hx;have hx1:=λ {w'} (hc:ax w0 w' [])=>(hL hc).i x (List.mem_of_getElem? hx);unfold pW at eN;generalize S.bd.getD k eH = y at hy hy2 eN;generalize hu:(cG S k x.l C1.p).1=u at eN;refine cT (dT hlt) ⟨λ w3=>St w0 w3 (Sep (eu b C2++[ah r1 S.arr 27,B])),?_,ai hq ⟨by omega,by omega,_,_,_,hcl.1,?_⟩⟩
  ·intro w3 s3 x2;exact⟨L.length-(k+1),by omega,k+1,ay ⟨by omega,by omega⟩,by omega,rfl,by rw[hC2]; exact s3⟩
  refine⟨λ r2 w4=>St w0 w4 (Sep (ah r2 u.vs.toArray 35 :: (eu b C1++[ah r1 S.arr 27,B]))),?_,?_⟩
  ·intro w4 r2 s4 x3;have s4' : St w0 w4 (Sep (eu b C1++[Sep [ah r2 u.vs.toArray 35,ah r1 S.arr 27,B]])):=St.pk (l:=eu b C1) (s4.aA [1,2,3,4,5,6,0,7,8]);refine⟨u,s4.cellsIn 0 rfl,aq (Eo s4' hinv.ok hy2 u) ?_⟩;rintro v w5 ⟨rfl,s5⟩;refine⟨_,rfl,?_⟩
   by_cases g:bK C1 k y u=0
   ·rw[if_pos g] at s5 eN;refine cF (by rw[g]; rfl) ?_;have s6:=St.HP s5;rw[eN]; exact s6.aA [0,1,2,3,4,5,7,8]
   ·rw[if_neg g] at s5 eN;refine cT (by simpa using g) (aq (Eo s5 hinv.ok hy2 z6) ?_);rintro v w6 ⟨rfl,s6⟩;refine⟨_,rfl,?_⟩
    by_cases g2:bK C1 k y z6=0
    ·rw[if_pos g2] at s6 eN;have s7:=St.HP s6;rw[eN]; exact s7.aA [0,1,2,3,4,5,7,8]
    ·rw[if_neg g2] at s6 eN;have s7:=St.HP s6;rw[eN]; exact s7.aA [0,1,2,3,4,5,7,8]
  have rdO:∀ {w' : World} {M:List aJ},St w0 w' (Sep (M++(eu b C1++[ah r1 S.arr 27,B])))->C1.Rd b w':=λ s=>((s.split _).second.split (eu b C1)).first.imp nO;have s3:=s2.quiet (ax.drew w2 []);have eb:∀ {w' : World},ax w0 w' []->CC 10 #[.agg S.arr,iv k,.slice x.a x.l.length x.c,.agg C1.p.vs.toArray] w' (nH λ r w''=>∃ e:Int,r=.tuple #[.agg u.vs.toArray,iv e]/\ax w' w'' []):=λ hc =>
   aq (mM (hS hc) (hx1 hc).1 (hx1 hc).2 k C1.p) λ v w'' ⟨h1,h2⟩=>⟨v,rfl,(cG S k x.l C1.p).2,by rw[h1,hu],h2⟩
  refine⟨_,_,_,_,_,_,_,_,_,_,_,_,s3.cellsIn 6 rfl,⟨?_,?_⟩⟩
  ·refine aq (ld (rdO (M:=[]) s3)) ?_;rintro v w4 ⟨rfl,c4⟩;have s4:=s3.quiet c4;refine⟨_,rfl,s4.cellsIn 6 rfl,⟨?_,?_⟩⟩
   ·refine aq (eb s4.an) ?_;rintro v w5 ⟨e,rfl,c5⟩;exact⟨_,_,rfl,(s4.quiet c5).av z6.vs.toArray λ r3 w6 s6=>s6.az 0 rfl u.vs rfl (I6.one _) λ w7 s7=>s7⟩
   ·refine s4.av z6.vs.toArray λ r4 w5 s5=>⟨s5.cellsIn 7 rfl,aq (eb s5.an) ?_⟩;rintro v w6 ⟨e,rfl,c6⟩;exact⟨_,_,rfl,(s5.quiet c6).az 0 rfl u.vs rfl (I6.one _) λ w7 s7=>s7⟩
  ·refine s3.av z6.vs.toArray λ r5 w4 s4=>⟨s4.cellsIn 7 rfl,aq (ld (rdO (M:=[_]) s4)) ?_⟩;rintro v w5 ⟨rfl,c5⟩;have s5:=s4.quiet c5;refine⟨_,rfl,s5.cellsIn 7 rfl,aq (eb s5.an) ?_⟩;rintro v w6 ⟨e,rfl,c6⟩;exact⟨_,_,rfl,(s5.quiet c6).az 0 rfl u.vs rfl (I6.one _) λ w7 s7=>s7⟩
 ·obtain rfl:L.length=k:=by omega
  refine cF (dF hlt) (aq (Gm (St.pk (l:=eu b _) s2) hinv.ok) ?_);rintro v w3 (⟨h1,_⟩|⟨_,rfl,C',e,s3⟩)
  ·rw[eo,hov] at h1; cases h1
  ·exact⟨_,_,rfl,rfl,C',e,(St.HP s3).aA [0,1,2,3,4,5,7]⟩
end
theorem vH{b:Nat}{C:Ck}{w:World}(h:C.Rd b w):CP 14 #[pt b] w (λ r w'=>r=.bool C.ov/\w' = w):=by
 refine lK ?_;unfold iw;exact⟨_,h.cell 18 rfl,rfl,rfl⟩
theorem DG(S:Se)(C:Ck)(k:Nat)(l:List Of):(pW S C.er k l).er=(pW S C k l).er:=by
 unfold pW;simp only[F6];show(if bK C k (S.bd.getD k eH) (cG S k l C.p).1=0 then gZ C.er k (cG S k l C.p).1 else if bK C k (S.bd.getD k eH) z6=0 then gZ C.er k z6 else C.er).er=_
 split
 ·exact A4 _ _ _
 ·split
  ·exact A4 _ _ _
  ·exact Ja C
theorem DF{S:Se}{C D:Ck}(h:C.er=D.er)(k:Nat)(l:List Of):(pW S C k l).er=(pW S D k l).er:=by rw[<- DG,h,DG]
theorem Fc{S:Se}{L:List Lx}{C D:Ck}(h:C.er=D.er):∀ k,(cv S L C k).er=(cv S L D k).er
 | 0=>h
 | k+1=>DF (Fc h k) k _
theorem uj{C D:Ck}(h:C.er=D.er):(bA C).er=(bA D).er:=by rw[<- xD,h,xD]
def mH(S:Se)(L:List Lx)(C:Ck):Ck:=bA (cv S L C L.length)
theorem Fz{S:Se}{L:List Lx}{C D:Ck}(h:C.er=D.er):(mH S L C).er=(mH S L D).er:=uj (Fc h _)
def dY(S:Se)(L:List Lx):Nat->Ck->Ck
 | 0,C=>C
 | f+1,C=>if C.ov=true then C else dY S L f (mH S L C)
theorem lA{S:Se}{L:List Lx}:∀ (f:Nat) {C D:Ck},C.er=D.er->(dY S L f C).er=(dY S L f D).er
 | 0,_,_,h=>h
 | f+1,C,D,h=>by
  have ho:C.ov=D.ov:=by show C.er.ov=D.er.ov; rw[h]
  unfold dY;rw[ho]
  split
  ·exact h
  ·exact lA f (Fz h)
def runM(S:Se)(o:Po)(L:List Lx):Ck:=dY S L 31 (dy S o)
def dV(S:Se)(o:Po)(n:Nat):Int:=if gj S o≠0 then gj S o else if n≠S.bd.length then 3 else 0
theorem H8{b:Nat}{C:Ck}{w0 w:World}{m:List aJ}(s:St w0 w (Sep (eu b C++m))):C.Rd b w:=(s.split (eu b C)).first.imp nO
theorem pH{w:World}{S:Se}(h:S.In w)(o:Po){al:OA}{cl:Nat}{L:List Lx}(hL:wV w al L) :
  CP 12 #[.agg S.arr,o.v,.slice al L.length cl] w (λ r w'=>(dV S o L.length≠0/\r=.tuple #[.pointer none,iv (dV S o L.length)]/\ax w w' [])\/(dV S o L.length=0/\S.Ok/\o.ok/\L.length=S.bd.length/\∃ g C',C'.er=(runM S o L).er/\C'.Inv/\C'.ov=true/\r=.tuple #[.pointer (some ⟨g,0,none⟩),iv 0]/\St w w' (Sep (eu g C')))):=by
 refine vV ?_;unfold uG;refine(St.start w).one.av S.arr λ r1 w1 s1=>s1.av o.cells.toArray λ r2 w2 s2=>⟨_,_,_,_,_,_,_,_,_,_,_,_,s2.cellsIn 1 rfl,_,_,_,_,s2.cellsIn 0 rfl,aq (Iu (h.an s2.an) o) ?_⟩;rintro v w3 (⟨h0,rfl,c3⟩|⟨h0,hs,ho,g,C',eC,rfl,k3⟩)
 ·have e:dV S o L.length=gj S o:=by rw[dV,if_pos h0]
  exact⟨_,_,rfl,cT (by simpa using h0) (.inl ⟨by rw[e]; exact h0,by rw[e],(s2.quiet c3).an⟩)⟩
 have e:dV S o L.length=if L.length≠S.bd.length then 3 else 0:=by rw[dV,if_neg (λ h=>h h0)]
 have s3:St w w3 (Sep (Sep (eu g C') :: [ah r2 o.cells.toArray 41,ah r1 S.arr 27,emp])):=s2.and k3;have s3:St w w3 (Sep (eu g C'++[ah r2 o.cells.toArray 41,ah r1 S.arr 27,emp])):=St.cat (l:=eu g C') s3;refine⟨_,_,rfl,cF rfl ⟨_,_,_,s3.ag 7 rfl 1,?_⟩⟩
 by_cases hl:L.length=S.bd.length
 rotate_left
 ·rw[if_pos hl] at e;exact cT (by simp; omega) (.inl ⟨by rw[e]; decide,by rw[e],s3.an⟩)
 rw[if_neg (λ h=>h hl)] at e;refine cF (by simp[hl]) ?_;have s3' : St w w3 (Sep (eu g C'++[Sep [ah r2 o.cells.toArray 41,ah r1 S.arr 27,emp]])):=St.pk (l:=eu g C') s3;refine⟨λ w4 m=>∃ C,m=31-C.cl.length/\C.Inv/\C.s.er=S.er/\(dY S L (31-C.cl.length) C).er=(runM S o L).er/\St w w4 (Sep (eu g C++[Sep [ah r2 o.cells.toArray 41,ah r1 S.arr 27,emp]])),?_,?_⟩
 ·have e0:C'.cl.length=0:=by
   have:=congrArg (λ C:Ck=>C.cl.length) eC;simp only[mZ] at this;exact this
  refine⟨31-C'.cl.length,C',rfl,(ob hs ho).er eC,?_,?_,s3'⟩
  ·exact congrArg Ck.s eC
  ·rw[e0]; exact lA 31 eC
 rintro w4 m ⟨C,rfl,hi,hse,hr,s4⟩ -;refine aq (vH (H8 s4)) ?_;rintro v w5 ⟨rfl,rfl⟩;refine⟨_,rfl,?_⟩
 cases hov:C.ov with
 | true =>
  have e1:dY S L (31-C.cl.length) C=C:=by
   cases 31-C.cl.length with
   | zero=>rfl
   | succ f=>unfold dY; rw[if_pos hov]
  rw[e1] at hr;exact cF rfl (.inr ⟨e,hs,ho,hl,g,C,hr,hi,hov,rfl,(s4.split (eu g C)).first⟩)
 | false =>
  have hc:=hi.n30 hov;have s5:=St.HP s4;refine cT rfl ⟨_,_,_,_,_,_,_,_,_,_,_,_,s5.cellsIn 7 rfl,aq (He s4 hi (λ hc=>h.an hc) hse (λ hc=>hL.an hc) hl hov) ?_⟩;rintro v w6 ⟨rfl,D,eD,s6⟩;have eD:D.er=(mH S L C).er:=eD;obtain⟨q1,q2,q3⟩:=ve S L C L.length;have hD:D.cl.length=C.cl.length+1:=by
   have:=congrArg (λ C:Ck=>C.cl.length) eD;simp only[mZ] at this;rw[this];show(bA (cv S L C L.length)).cl.length=_;show((cv S L C L.length).cl++[_]).length=_;rw[q3]; simp
  refine⟨rfl,31-D.cl.length,by omega,D,rfl,?_,?_,?_,s6⟩
  ·exact(iY (oz hi _) (by rw[q2]; exact hov)).er eD
  ·have:=congrArg Ck.s eD;exact this.trans (by rw[show(mH S L C).er.s=(cv S L C L.length).s.er from rfl,q1]; exact hse)
  ·rw[<- hr,show 31-C.cl.length=(31-D.cl.length)+1 by omega];rw[show dY S L (31-D.cl.length+1) C=dY S L (31-D.cl.length) (mH S L C) from by rw[dY,if_neg (by rw[hov]; decide)]];exact lA _ eD
end Go.Proofs.YtpddenfeaadgpaaGreatDoor
namespace Go.Proofs.YtpddenfeaadgpaaGreatDoor
open Go Go.Vc Go.Sort Go.RowKit _root_.Go.Proofs.Tryz
def zH(w:World):Prop:=Lib.TabIs prog w "internal/strconv.uint64pow10" .u64 Lib.pow10Tab
theorem xB(w:World)(k:Nat)(os:Array Obj):ax w (grow (w.drewN k) os) [] :=
 ⟨by simp[grow,World.drewN],λ i hi _=>Array.getElem?_append_left hi,⟨rfl,rfl,rfl⟩⟩
theorem Cr{w w' : World}(h:Below w.heap.size w w'):ax w w' []:=⟨h.size,λ i hi _=>h.block i hi,⟨h.os,h.tape,h.output⟩⟩
theorem zH.an{w w' : World}(h:zH w)(hc:ax w w' []):zH w':=by
 unfold zH Lib.TabIs World.var? at h ⊢
 cases hg:prog.globalNamed "internal/strconv.uint64pow10" with
 | none=>simp[hg] at h
 | some g =>
  simp only[hg,Option.bind_some] at h ⊢;have hlt:g<w.heap.size:=by
   rcases Nat.lt_or_ge g w.heap.size with h' | h'
   ·exact h'
   ·simp[Array.getElem?_eq_none h'] at h
  rw[hc.same g hlt (by simp)];exact h
section
variable {w:World}
theorem jd(ht:zH w){n:Int}(hn:In n):CP 102 #[iv n] w (λ r w'=>r=sv (Lib.itoa n)/\ax w w' []) :=
 (Tryz.strconv_Itoa n hn.1 hn.2 w ht).mono λ _ _ ⟨he,k,os,hw⟩=>⟨_,he,rfl,hw▸xB w k os⟩
theorem Ec(ht:zH w){n:Int}(hn:In n):CP 103 #[iv n,iv 10] w (λ r w'=>r=sv (Lib.itoa n)/\ax w w' []) :=
 (Tryz.strconv_FormatInt_10 n hn.1 hn.2 w ht).mono λ _ _ ⟨he,k,os,hw⟩=>⟨_,he,rfl,hw▸xB w k os⟩
def wX(xs:List (List UInt8)):List UInt8:=Lib.join xs [32]++[10]
end
theorem FN{n:Int}(h0:0<=n)(h1:n<18446744073709551616):IntKind.u64.wrap n=n:=by
 simp only[IntKind.wrap,IntKind.signed,IntKind.bits]
 simp
 omega
theorem Jr:∀ (k u:Nat),u<10 ^ (k+1)->Lib.nDigits u<=k+1
 | 0,u,h=>by unfold Lib.nDigits; rw[dif_pos (by simpa using h)]; exact Nat.le_refl _
 | k+1,u,h=>by
  unfold Lib.nDigits
  split
  ·omega
  ·have:=Jr k (u / 10) (by rw[Nat.pow_succ] at h; omega);omega
theorem DY{u:Nat}(h:u<18446744073709551616):(Lib.decDigits u).length<=20:=by
 rw[Lib.decDigits_length];exact Jr 19 u (by omega)
theorem Gs{v:Nat}(h : ¬ v<10):Lib.decDigits v=Lib.decDigits (v / 10)++[UInt8.ofNat (48+v%10)]:=by rw[Lib.decDigits,dif_neg h]
end Go.Proofs.YtpddenfeaadgpaaGreatDoor
namespace Go.Proofs.YtpddenfeaadgpaaGreatDoor
open Go Go.Vc _root_.Go.Proofs.Tryz
abbrev sT (r:List UInt8):List Value:=[sv r]
theorem Fs(r:List UInt8):(sT r).length=1:=rfl
abbrev JF (a:OA) (c:Nat) (l:List (List UInt8)):aJ:=dA 9 1 sT a c l
theorem Hf{w:World}{a:OA}{l:List (List UInt8)}(h:bU 1 sT w a l){i:Nat}{x:List UInt8}(hx:l[i]?=some x):∃ q,a=some q/\w.cell? (Addr.add q (i*1))=some (sv x):=by
 obtain⟨q,hq,hc⟩:=h.at hx;exact⟨q,hq,by have:=hc.1; rwa [Addr.add_add,Nat.add_zero] at this⟩
theorem dP(l:List UInt8):(bs l).size=l.length:=by simp[bs,ByteArray.size]
theorem cr:IntKind.i64.max=9223372036854775807:=rfl
theorem GQ{w:World}{b i:Nat}{v:Value}(h:w.cell? ⟨b,i,none⟩=some v):b<w.heap.size:=by
 rcases Nat.lt_or_ge b w.heap.size with h' | h'
 ·exact h'
 ·rw[jY,Array.getElem?_eq_none h'] at h;simp[GG] at h
theorem join_le:∀ {xs:List (List UInt8)} {sep:List UInt8} {m:Nat},(∀ y∈xs,y.length<=m)->(Lib.join xs sep).length<=xs.length*(m+sep.length)
 | [],_,_,_=>by simp[Lib.join_nil]
 | x :: r,sep,m,h=>by
  have hx:=h x (by simp);have hl:Lib.lens r<=r.length*m:=by
   clear hx
   induction r with
   | nil=>simp[Lib.lens]
   | cons y r ih =>
    have h1:=ih λ z hz=>h z (by rcases List.mem_cons.1 hz with rfl|hz; exact List.mem_cons_self ..; exact List.mem_cons_of_mem _ (List.mem_cons_of_mem _ hz));have h2:=h y (by simp);simp only[Lib.lens,List.map_cons,List.sum_cons,List.length_cons] at h1 ⊢;rw[Nat.succ_mul]; omega
  rw[Lib.join_length];have e:Lib.lens (x :: r)=x.length+Lib.lens r:=by simp[Lib.lens]
  have e2:sep.length*r.length=r.length*sep.length:=Nat.mul_comm _ _;rw[e,List.length_cons,Nat.succ_mul,Nat.mul_add,e2];omega
theorem dL{w:World}{s:Se}(h:s.In w):CP 22 #[.agg s.arr] w ((qx s.Ok (jP s) w)):=by
 refine yC ?_;unfold yB;refine aR ?_;have s1:=(St.start w).one.cm #[.slice s.a1 s.ps.length s.c1,.slice s.a2 s.bd.length s.c2,.slice s.a3 s.cp.length s.c3,.slice s.a4 s.sa.length s.c4] 27;generalize hw1:w.alloc _=w1 at s1 ⊢;generalize hr1:w.heap.size=r1 at s1 ⊢;have cb:∀ {w' : World},ax w1 w' []->∀ (j:Nat) (v:Value),(#[.slice s.a1 s.ps.length s.c1,.slice s.a2 s.bd.length s.c2,.slice s.a3 s.cp.length s.c3,.slice s.a4 s.sa.length s.c4]:Array Value)[j]?=some v->w'.cell? ⟨r1,j,none⟩=some v:=λ hc j v hv=>br (by rw[s1.ag 0 rfl]; exact hv) hc;have z1:ax w1 w1 []:=ax.refl _ _;refine⟨_,_,_,cb z1 0 _ rfl,aq (qh (h.an s1.an).ps) ?_⟩;rintro v w2 ⟨⟨rfl,e1⟩,d2⟩;generalize hn1:tJ s.ps=n1 at e1 ⊢;refine⟨_,rfl,λ n2 w3=>ax w1 w3 []/\((n2=0/\(tJ s.ps=0/\vt s.bd=0)/\bZ s.ps/\tX s.bd)\/(n2≠0/\jP s=n2/\¬ s.Ok)),?_,?_⟩
 ·rintro w3 n2 ⟨d3,hn⟩ -;rcases hn with⟨rfl,⟨hz1,hz2⟩,hP,hB⟩|⟨h0,hse,hno⟩
  ·have hcE:∀ {e:Int},e≠0->zO s.bd.length s.cp=e->jP s=e:=λ he h=>by rw[jP,if_neg (λ h=>h hz1),if_neg (λ h=>h hz2),h,if_pos he]
   refine cF rfl ⟨_,_,_,cb d3 2 _ rfl,?_⟩;rcases Nat.lt_or_ge 16 s.cp.length with h6|h6
   ·exact cT (dT (by omega)) (aH (by decide) (λ hp=>by have:=hp.cp.l1; omega) (s1.an.trans d3 (by simp)) (hcE (by decide) (by rw[zO,if_pos h6])))
   refine cF (dF (by omega)) ⟨λ n w2 m=>∃ k:Nat,n=k/\k<=s.cp.length/\m=s.cp.length-k/\(∀ i p,i<k->s.cp[i]?=some p->tY s.bd.length s.cp i p)/\ax w1 w2 [],⟨s.cp.length,0,rfl,by omega,by omega,λ i p hi=>by omega,d3⟩,?_⟩;rintro w2 m n ⟨k,rfl,hk,hm,ha,hc⟩ -;have hcw:ax w w2 []:=s1.an.trans hc (by simp);refine⟨_,_,_,cb hc 2 _ rfl,?_⟩
   by_cases hlt:(k:Int)<(s.cp.length:Int)
   ·have hx:s.cp[k]?=some (s.cp[k]'(by omega)):=gE (by omega);generalize s.cp[k]'(by omega)=x at hx;obtain⟨q,hq,hcl⟩:=(h.cp.an hcw) k x hx;have bad : ¬ tY s.bd.length s.cp k x->¬ s.Ok:=λ hb hp=>hb (hp.cp.good k x hx);have bk:∀ {e:Int},e≠0->Bb s.bd.length s.cp k x=e->jP s=e:=λ he h=>hcE he (by
     have:=cU (f:=Bb s.bd.length s.cp) (n:=0) (λ i p hi hp=>by rw[Nat.zero_add]; exact j7 (ha i p hi hp)) hx (by rw[Nat.zero_add,h]; exact he);rw[Nat.zero_add,h] at this;rw[zO,if_neg (by omega),this])
    have tAt:∀ {w' : World},ax w w' []->∀ (j:Nat) (y:T3),s.cp[j]?=some y->w'.cell? (q.add (j*3))=some (iv y.a)/\w'.cell? ((q.add (j*3)).add 1)=some (iv y.b):=λ hc' j y hy=>by
     obtain⟨q',hq',hcl'⟩:=(h.cp.an hc') j y hy;rw[hq] at hq'; cases hq';have:=hcl'.1;exact⟨by rwa [Addr.add_add] at this,hcl'.2.1⟩
    refine cT (by simpa using hlt) ⟨_,_,_,cb hc 2 _ rfl,?_⟩;rw[hq];refine⟨by omega,by omega,_,_,_,hcl,aR ?_⟩;refine((St.start w2).one.cm _ 113).az 0 rfl x.cells rfl x.one λ w4 s4=>?_;generalize hr2:w2.heap.size=r2 at s4 ⊢;have d4:ax w1 w4 []:=hc.trans s4.an (by simp);have cw4:ax w w4 []:=s1.an.trans d4 (by simp);have cx:∀ {w' : World},ax w4 w' []->∀ (j:Nat) (v:Value),x.cells[j]?=some v->w'.cell? ⟨r2,j,none⟩=some v:=λ hc j v hv=>br (by rw[s4.ag 0 rfl]; simpa using hv) hc;have z4:ax w4 w4 []:=ax.refl _ _;refine⟨λ b w5=>w5=w4/\b = !(decide (-1<=x.a)&&decide (x.a<(s.bd.length:Int))),?_,?_⟩
    ·rintro w5 b ⟨rfl,rfl⟩ -
     cases g0:(decide (-1<=x.a)&&decide (x.a<(s.bd.length:Int))) with
     | false=>exact cT rfl (aH (by decide) (bad λ hg=>by have:=hg.1; unfold lZ at this; rw[g0] at this; cases this) cw4 (bk (by decide) (by rw[Bb,if_pos g0])))
     | true =>
      have d45:ax w5 w5 []:=ax.refl _ _;refine cF rfl ⟨λ b w6=>w6=w5/\b = !((decide (0<=x.b)&&decide (x.b<=4))&&(decide (0<=x.c)&&decide (x.c<=24))),?_,?_⟩
      ·rintro w6 b ⟨rfl,rfl⟩ -
       cases g1:((decide (0<=x.b)&&decide (x.b<=4))&&(decide (0<=x.c)&&decide (x.c<=24))) with
       | false=>exact cT rfl (aH (by decide) (bad λ hg=>by have:=hg.1; unfold lZ at this; rw[g0,g1] at this; cases this) (cw4.trans d45 (by simp)) (bk (by decide) (by rw[Bb,g0,g1]; rfl)))
       | true =>
        refine cF rfl ⟨λ n w7 m=>∃ j:Nat,n=j/\j<=k/\m=k-j/\(s.cp.take j).any (λ p=>bS x p)=false/\ax w6 w7 [],⟨k,0,rfl,by omega,by omega,rfl,d45⟩,?_⟩;rintro w7 m7 n7 ⟨j,rfl,hj,hm7,hany,c7⟩ -
        by_cases hjk:(j:Int)<(k:Int)
        ·have hy:s.cp[j]?=some (s.cp[j]'(by omega)):=gE (by omega);generalize s.cp[j]'(by omega)=y at hy;have c8:ax w6 w7.drew []:=c7.trans (ax.drew w7 []) (by simp);have e8:ax w w7.drew []:=cw4.trans c8 (by simp);have hitq:bS x y=true->((s.cp.take k).any λ q=>bS x q)=true:=λ hs=>cC (p:=λ q=>bS x q) (show(s.cp.take k)[j]?=some y by rw[List.getElem?_take,if_pos (by omega)]; exact hy) hs;have hit:bS x y=true->¬ s.Ok:=λ hs=>bad λ hg=>by have h1:=hg.2; rw[hitq hs] at h1; cases h1
         refine cT (by simpa using hjk) ⟨λ b w10=>w10=w7.drew/\b=bS x y,?_,_,_,_,cb (d4.trans c8 (by simp)) 2 _ rfl,?_⟩
         ·rintro w10 b ⟨rfl,rfl⟩ -
          cases hs:bS x y with
          | true=>exact cT rfl (aH (by decide) (hit hs) e8 (bk (by decide) (by rw[Bb,g0,g1,hitq hs]; rfl)))
          | false=>exact cF rfl ⟨k-(j+1),by omega,j+1,by rw[ay ⟨by omega,by omega⟩]; rfl,by omega,rfl,ck hany hy hs,c8⟩
         ·rw[hq];refine⟨by omega,by omega,_,(tAt e8 j y hy).1,_,cx c8 0 _ rfl,?_⟩
          by_cases hA:y.a=x.a
          ·refine cT (by simpa using hA) ⟨_,_,_,cb (d4.trans c8 (by simp)) 2 _ rfl,?_⟩;rw[hq];refine⟨by omega,by omega,_,(tAt e8 j y hy).2,_,cx c8 1 _ rfl,rfl,?_⟩;simp[bS,hA]
          ·exact cF (by simpa using hA) ⟨rfl,by simp[bS,hA]⟩
        ·obtain rfl:j=k:=by omega
         refine cF (by simp) ⟨s.cp.length-(j+1),by omega,j+1,by rw[ay ⟨by omega,by omega⟩]; rfl,by omega,rfl,λ i p hi hp=>?_,d4.trans c7 (by simp)⟩;rcases Nat.lt_or_ge i j with h' | h'
         ·exact ha i p h' hp
         ·obtain rfl:i=j:=by omega
          rw[hx] at hp; cases hp;exact⟨by unfold lZ; rw[g0,g1]; rfl,hany⟩
      ·have no : ¬ (0<=x.b/\x.b<=4/\0<=x.c/\x.c<=24)->true = !((decide (0<=x.b)&&decide (x.b<=4))&&(decide (0<=x.c)&&decide (x.c<=24))):=λ hh=>by
        cases hr:((decide (0<=x.b)&&decide (x.b<=4))&&(decide (0<=x.c)&&decide (x.c<=24))) with
        | false=>rfl
        | true =>
         exfalso; apply hh
         simp only[Bool.and_eq_true,decide_eq_true_eq] at hr;omega
       refine⟨_,cx z4 1 _ rfl,?_⟩
       by_cases g1:x.b<0
       ·exact cT (dT g1) ⟨rfl,no (by omega)⟩
       refine cF (dF g1) ⟨_,cx z4 1 _ rfl,?_⟩
       by_cases g2:x.b>4
       ·exact cT (dT g2) ⟨rfl,no (by omega)⟩
       refine cF (dF g2) ⟨_,cx z4 2 _ rfl,?_⟩
       by_cases g3:x.c<0
       ·exact cT (dT g3) ⟨rfl,no (by omega)⟩
       refine cF (dF g3) ⟨_,cx z4 2 _ rfl,rfl,?_⟩
       by_cases g4:x.c>24
       ·rw[dT g4]; exact no (by omega)
       ·rw[dF g4,dT (show 0<=x.b by omega),dT (show x.b<=4 by omega),dT (show 0<=x.c by omega),dT (show x.c<=24 by omega)];rfl
    ·refine⟨_,cx z4 0 _ rfl,?_⟩
     by_cases g1:x.a < -1
     ·exact cT (dT g1) ⟨rfl,by rw[dF (show ¬ -1<=x.a by omega)]; rfl⟩
     ·refine cF (dF g1) ⟨_,cx z4 0 _ rfl,_,_,_,cb d4 1 _ rfl,rfl,?_⟩;rw[dT (show -1<=x.a by omega),Bool.true_and]
      by_cases g2:x.a<(s.bd.length:Int)
      ·rw[dT g2,dF (by omega)]; rfl
      ·rw[dF g2,dT (by omega)]; rfl
   ·obtain rfl:k=s.cp.length:=by omega
    have hsE:∀ {e:Int},Dr s.ps s.sa=e->jP s=e:=λ h=>by
     have:=bf (f:=Bb s.bd.length s.cp) (n:=0) (l:=s.cp) λ i p hp=>by rw[Nat.zero_add]; exact j7 (ha i p (List.getElem?_eq_some_iff.1 hp).1 hp)
     rw[jP,if_neg (λ h=>h hz1),if_neg (λ h=>h hz2),show zO s.bd.length s.cp=0 by rw[zO,if_neg (by omega),this],if_neg (by decide),h]
    have hC:vo s.bd.length s.cp:=⟨h6,λ i p hp=>ha i p (List.getElem?_eq_some_iff.1 hp).1 hp⟩;clear ha;refine cF (by simp) ⟨_,_,_,cb hc 3 _ rfl,?_⟩;rcases Nat.lt_or_ge 6 s.sa.length with h7|h7
    ·exact cT (dT (by omega)) (aH (by decide) (λ hp=>by have:=hp.sa.l1; omega) hcw (hsE (by rw[Dr,if_pos h7])))
    refine cF (dF (by omega)) ⟨λ n w2 m=>∃ k:Nat,n=k/\k<=s.sa.length/\m=s.sa.length-k/\(∀ i p,i<k->s.sa[i]?=some p->tV s.ps s.sa i p)/\ax w1 w2 [],⟨s.sa.length,0,rfl,by omega,by omega,λ i p hi=>by omega,hc⟩,?_⟩;clear hcw hc hlt hm hk;rintro w2 m n ⟨k,rfl,hk,hm,ha,hc⟩ -;have hcw:ax w w2 []:=s1.an.trans hc (by simp);refine⟨_,_,_,cb hc 3 _ rfl,?_⟩
    by_cases hlt:(k:Int)<(s.sa.length:Int)
    ·have hx:s.sa[k]?=some (s.sa[k]'(by omega)):=gE (by omega);generalize s.sa[k]'(by omega)=x at hx;obtain⟨q,hq,hcl⟩:=(h.sa.an hcw) k x hx;have bad : ¬ tV s.ps s.sa k x->¬ s.Ok:=λ hb hp=>hb (hp.sa.good k x hx);have bk:∀ {e:Int},e≠0->Dp s.ps s.sa k x=e->jP s=e:=λ he h=>hsE (by
      have:=cU (f:=Dp s.ps s.sa) (n:=0) (λ i p hi hp=>by rw[Nat.zero_add]; exact kP (ha i p hi hp)) hx (by rw[Nat.zero_add,h]; exact he);rw[Nat.zero_add,h] at this;rw[Dr,if_neg (by omega),this])
     have tAt:∀ {w' : World},ax w w' []->∀ (j:Nat) (y:T3),s.sa[j]?=some y->w'.cell? (q.add (j*3))=some (iv y.a)/\w'.cell? ((q.add (j*3)).add 1)=some (iv y.b):=λ hc' j y hy=>by
      obtain⟨q',hq',hcl'⟩:=(h.sa.an hc') j y hy;rw[hq] at hq'; cases hq';have:=hcl'.1;exact⟨by rwa [Addr.add_add] at this,hcl'.2.1⟩
     refine cT (by simpa using hlt) ⟨_,_,_,cb hc 3 _ rfl,?_⟩;rw[hq];refine⟨by omega,by omega,_,_,_,hcl,aR ?_⟩;refine((St.start w2).one.cm _ 115).az 0 rfl x.cells rfl x.one λ w4 s4=>?_;generalize hr2:w2.heap.size=r2 at s4 ⊢;have d4:ax w1 w4 []:=hc.trans s4.an (by simp);have cw4:ax w w4 []:=s1.an.trans d4 (by simp);have cx:∀ {w' : World},ax w4 w' []->∀ (j:Nat) (v:Value),x.cells[j]?=some v->w'.cell? ⟨r2,j,none⟩=some v:=λ hc j v hv=>br (by rw[s4.ag 0 rfl]; simpa using hv) hc;have z4:ax w4 w4 []:=ax.refl _ _;refine⟨λ b w5=>w5=w4/\b = !(decide (0<=x.a)&&decide (x.a<(s.ps.length:Int))),?_,?_⟩
     ·rintro w5 b ⟨rfl,rfl⟩ -
      cases g0:(decide (0<=x.a)&&decide (x.a<(s.ps.length:Int))) with
      | false=>exact cT rfl (aH (by decide) (bad λ hg=>by have:=hg.1; unfold rJ at this; rw[g0] at this; cases this) cw4 (bk (by decide) (by rw[Dp,if_pos g0])))
      | true =>
       have d45:ax w5 w5.drew []:=ax.drew w5 [];refine cF rfl ⟨λ b w6=>w6=w5.drew/\b = !((decide (1<=x.b)&&decide (x.b<=4))&&(decide (1<=x.c)&&decide (x.c<=((s.ps[x.a.toNat]?.map Pr.sup).getD 0)))),?_,?_⟩
       ·rintro w6 b ⟨rfl,rfl⟩ -
        cases g1:((decide (1<=x.b)&&decide (x.b<=4))&&(decide (1<=x.c)&&decide (x.c<=((s.ps[x.a.toNat]?.map Pr.sup).getD 0)))) with
        | false=>exact cT rfl (aH (by decide) (bad λ hg=>by have:=hg.1; unfold rJ at this; rw[g0,g1] at this; cases this) (cw4.trans d45 (by simp)) (bk (by decide) (by rw[Dp,g0,g1]; rfl)))
        | true =>
         refine cF rfl ⟨λ n w7 m=>∃ j:Nat,n=j/\j<=k/\m=k-j/\(s.sa.take j).any (λ p=>sameAs x p)=false/\ax w5 w7 [],⟨k,0,rfl,by omega,by omega,rfl,d45⟩,?_⟩;rintro w7 m7 n7 ⟨j,rfl,hj,hm7,hany,c7⟩ -
         by_cases hjk:(j:Int)<(k:Int)
         ·have hy:s.sa[j]?=some (s.sa[j]'(by omega)):=gE (by omega);generalize s.sa[j]'(by omega)=y at hy;have c8:ax w5 w7.drew []:=c7.trans (ax.drew w7 []) (by simp);have e8:ax w w7.drew []:=cw4.trans c8 (by simp);have hitq:sameAs x y=true->((s.sa.take k).any λ q=>sameAs x q)=true:=λ hs=>cC (p:=λ q=>sameAs x q) (show(s.sa.take k)[j]?=some y by rw[List.getElem?_take,if_pos (by omega)]; exact hy) hs;have hit:sameAs x y=true->¬ s.Ok:=λ hs=>bad λ hg=>by have h1:=hg.2; rw[hitq hs] at h1; cases h1
          refine cT (by simpa using hjk) ⟨_,_,_,cb (d4.trans c8 (by simp)) 3 _ rfl,?_⟩;rw[hq];refine⟨by omega,by omega,_,(tAt e8 j y hy).1,_,cx c8 0 _ rfl,?_⟩
          by_cases hA:y.a=x.a
          ·exact cT (by simpa using hA) (aH (by decide) (hit (by simpa[sameAs] using hA)) e8 (bk (by decide) (by rw[Dp,g0,g1,hitq (by simpa[sameAs] using hA)]; rfl)))
          ·exact cF (by simpa using hA) ⟨k-(j+1),by omega,j+1,by rw[ay ⟨by omega,by omega⟩]; rfl,by omega,rfl,ck hany hy (by simpa[sameAs] using hA),c8⟩
         ·obtain rfl:j=k:=by omega
          refine cF (by simp) ⟨s.sa.length-(j+1),by omega,j+1,by rw[ay ⟨by omega,by omega⟩]; rfl,by omega,rfl,λ i p hi hp=>?_,d4.trans c7 (by simp)⟩;rcases Nat.lt_or_ge i j with h' | h'
          ·exact ha i p h' hp
          ·obtain rfl:i=j:=by omega
           rw[hx] at hp; cases hp;exact⟨by unfold rJ; rw[g0,g1]; rfl,hany⟩
       ·simp only[Bool.and_eq_true,decide_eq_true_eq] at g0;have hpx:s.ps[x.a.toNat]?=some (s.ps[x.a.toNat]'(by omega)):=gE (by omega);generalize s.ps[x.a.toNat]'(by omega)=y at hpx;rw[hpx,Option.map_some,Option.getD_some];have no : ¬ (1<=x.b/\x.b<=4/\1<=x.c/\x.c<=y.sup)->true = !((decide (1<=x.b)&&decide (x.b<=4))&&(decide (1<=x.c)&&decide (x.c<=y.sup))):=λ hh=>by
         cases hr:((decide (1<=x.b)&&decide (x.b<=4))&&(decide (1<=x.c)&&decide (x.c<=y.sup))) with
         | false=>rfl
         | true =>
          exfalso; apply hh
          simp only[Bool.and_eq_true,decide_eq_true_eq] at hr;omega
        refine⟨_,cx d45 1 _ rfl,?_⟩
        by_cases g1:x.b<1
        ·exact cT (dT g1) ⟨rfl,no (by omega)⟩
        refine cF (dF g1) ⟨_,cx d45 1 _ rfl,?_⟩
        by_cases g2:x.b>4
        ·exact cT (dT g2) ⟨rfl,no (by omega)⟩
        refine cF (dF g2) ⟨_,cx d45 2 _ rfl,?_⟩
        by_cases g3:x.c<1
        ·exact cT (dT g3) ⟨rfl,no (by omega)⟩
        obtain⟨_,qp,hqp,hyc⟩:=(h.ps.an (cw4.trans d45 (by simp))) x.a.toNat y hpx;refine cF (dF g3) ⟨_,cx d45 2 _ rfl,_,_,_,cb (d4.trans d45 (by simp)) 0 _ rfl,_,cx d45 0 _ rfl,?_⟩;rw[hqp];refine⟨by omega,by omega,y.sup,hyc.2.1,rfl,?_⟩
        by_cases g4:x.c>y.sup
        ·rw[dT g4]; exact no (by omega)
        ·rw[dF g4,dT (show 1<=x.b by omega),dT (show x.b<=4 by omega),dT (show 1<=x.c by omega),dT (show x.c<=y.sup by omega)];rfl
     ·refine⟨_,cx z4 0 _ rfl,?_⟩
      by_cases g1:x.a<0
      ·exact cT (dT g1) ⟨rfl,by rw[dF (show ¬ 0<=x.a by omega)]; rfl⟩
      ·refine cF (dF g1) ⟨_,cx z4 0 _ rfl,_,_,_,cb d4 0 _ rfl,rfl,?_⟩;rw[dT (show 0<=x.a by omega),Bool.true_and]
       by_cases g2:x.a<(s.ps.length:Int)
       ·rw[dT g2,dF (by omega)]; rfl
       ·rw[dF g2,dT (by omega)]; rfl
    ·obtain rfl:k=s.sa.length:=by omega
     exact cF (by simp) (en ⟨hP,hB,hC,h7,λ i p hp=>ha i p (List.getElem?_eq_some_iff.1 hp).1 hp⟩ hcw (hsE (by rw[Dr,if_neg (by omega),bf λ i p hp=>by rw[Nat.zero_add]; exact kP (ha i p (List.getElem?_eq_some_iff.1 hp).1 hp)])))
  ·exact cT (by simpa using h0) (aH h0 hno (s1.an.trans d3 (by simp)) hse)
 ·by_cases g1:n1=0
  ·refine cT (by simpa using g1) ⟨_,_,_,cb d2 1 _ rfl,aq (zb (h.an (s1.an.trans d2 (by simp))).bd) ?_⟩;rintro v w17 ⟨⟨rfl,e2⟩,d17⟩;generalize hn33:vt s.bd=n33 at e2 ⊢;refine⟨_,rfl,d2.trans d17 (by simp),?_⟩
   by_cases g2:n33=0
   ·exact .inl ⟨g2,⟨hn1.trans g1,g2⟩,e1.1 g1,e2.1 g2⟩
   ·exact .inr ⟨g2,by rw[jP,hn1,hn33,if_neg (λ h=>h g1),if_pos g2],λ hk=>g2 (e2.2 hk.bd)⟩
  ·exact cF (by simpa using g1) ⟨d2,.inr ⟨g1,by rw[jP,hn1,if_pos g1],λ hk=>g1 (e1.2 hk.ps)⟩⟩
structure Vw where
 ph:Int
 rd:Int
 pr:I6
 ex:I6
 own:List Ch
 oa:Option Addr
 oc:Nat
 dm:List I6
 da:Option Addr
 dc:Nat
 nm:List (List UInt8)
 na:Option Addr
 nc:Nat
section
variable {w0 w:World} {l:List aJ} {r:Nat} {T:TypeId} {v:Vw}
end
theorem vL{xs:List (List UInt8)}(h:∀ y∈xs,y.length<=100):(wX xs).length<=xs.length*101+1:=by
 have:=join_le (sep:=[32]) h;unfold wX;rw[List.length_append,List.length_singleton];simpa using this
theorem Ip{xs:List (List UInt8)}(h:∀ y∈xs,y.length<=100)(hn:xs.length<=1000):(Lib.join xs [32]).length<=140737488355328:=by
 have:=join_le (sep:=[32]) h;simp only[List.length_singleton] at this;omega
theorem tv{n:Int}(h:In n):(Lib.itoa n).length<=21:=Lib.itoa_length_le n h.1 h.2
section
variable {ps:List Pr} {v:Vw}
end
theorem qY{w0 w:World}{L:List aJ}(s:St w0 w (Sep L))(i:Nat){r:Nat}{cs:Array Value}(e:L[i]?=some (ah r cs 9)){xs:List (List UInt8)}(hcs:cs.toList=xs.flatMap sT)(hn:xs.length<=1000) :
  St w0 w (star (JF (some ⟨r,0,none⟩) xs.length xs) (Sep (L.eraseIdx i))):=by
 have h1:cs.size=xs.length:=by
  rw[<- Array.length_toList,hcs];exact(bu Fs xs).trans (Nat.mul_one _)
 have:=(s.out i e).weak (bH.left (H6 h1 (by unfold maxLen; omega)));rw[hcs] at this;exact this
def sY(a:OA)(b c:Nat)(w:World)(K:KP):=CC 143 #[.slice a b c,.string (bs [32])] w λ a b=>∃ c,a=.returned (.string c)/\((c.size+(bs [10]).size:Nat):Int)<=IntKind.i64.max/\K (.string (c++(bs [10]))) b
theorem tQ{a1 l1 c1 w K}(h:sY a1 l1 c1 w K):CP 101 #[.slice a1 l1 c1] w K:=aj (aC []) func101 (by kernel_rfl) (by kernel_rfl) h
def oJ(a:OA)(b c:Nat)(d:OA)(e f:Nat)(g:OA)(h i:Nat)(j:OA)(k l:Nat)(w:World)(K:KP):=au w (.cells #[.slice a b c,.slice d e f,.slice g h i,.slice j k l] 27) λ a b=>∃ c d e f g h i j k l m n,af b (qd a 0) 0 [.slice c d e,.slice f g h,.slice i j k,.slice l m n]/\CC 34 #[.agg #[.slice c d e,.slice f g h,.slice i j k,.slice l m n]] b λ b c=>∃ d,b=.returned (iv d)/\cond (d !=0) (K (.tuple #[.string (bs []),iv d]) c) (∃ b d e,c.cell? (qd a 0)=some (.slice b d e)/\∃ e:ByteArray->Int->qN,(∃ f,e (bs []) (0:Int) c f)/\∀ c f g h,e g h c f->∀ i:qv,cond (decide (h<(d:Int))) (ak b λ b=>0<=h/\h<(d:Int)/\∃ d i j k l,af c (Addr.add b ((h).toNat*5)) 0 [.string d,iv i,iv j,iv k,iv l]/\au c (.cells #[.string (bs []),qz,qz,qz,qz] 117) λ b m=>aN (qd b 0) 0 [.string d,iv i,iv j,iv k,iv l] m λ d=>∃ i,d.drew.cell? (qd b 0)=some (.string i)/\∃ j,d.drew.cell? (qd b 1)=some (iv j)/\∃ k,d.drew.cell? (qd b 2)=some (iv k)/\∃ l,d.drew.cell? (qd b 3)=some (iv l)/\∃ m,d.drew.cell? (qd b 4)=some (iv m)/\CC 102 #[iv j] d.drew λ d j=>∃ n,d=.returned (.string n)/\j.cell? (qd b 4)=some (iv m)/\j.cell? (qd b 3)=some (iv l)/\j.cell? (qd b 2)=some (iv k)/\j.cell? (qd b 0)=some (.string i)/\CC 103 #[iv k,iv 10] j λ d j=>∃ k,d=.returned (.string k)/\j.cell? (qd b 4)=some (iv m)/\j.cell? (qd b 3)=some (iv l)/\j.cell? (qd b 0)=some (.string i)/\CC 102 #[iv l] j λ d j=>∃ l,d=.returned (.string l)/\j.cell? (qd b 4)=some (iv m)/\j.cell? (qd b 0)=some (.string i)/\CC 102 #[iv m] j λ d j=>∃ m,d=.returned (.string m)/\j.cell? (qd b 0)=some (.string i)/\au j (.cells #[.string (bs [112,114,111,100,117,99,116]),.string i,.string n,.string k,.string l,.string m] 9) λ b d=>CC 101 #[.slice (some (qd b 0)) 6 6] d λ b d=>∃ i,b=.returned (.string i)/\((g.size+i.size:Nat):Int)<=IntKind.i64.max/\∃ b,b<f/\e (g++i) (IntKind.i64.wrap (h+1)) d b) (∃ b d e,c.cell? (qd a 1)=some (.slice b d e)/\∃ e:ByteArray->Int->qN,(∃ f,e g 0 c f)/\∀ c f g h,e g h c f->∀ i:qv,cond (decide (h<(d:Int))) (ak b λ b=>0<=h/\h<(d:Int)/\∃ d i j k,af c (Addr.add b ((h).toNat*4)) 0 [.string d,iv i,iv j,iv k]/\au c (.cells #[.string (bs []),qz,qz,qz] 66) λ b l=>aN (qd b 0) 0 [.string d,iv i,iv j,iv k] l λ d=>∃ i,d.drew.cell? (qd b 0)=some (.string i)/\∃ j,d.drew.cell? (qd b 1)=some (iv j)/\∃ k,d.drew.cell? (qd b 2)=some (iv k)/\∃ l,d.drew.cell? (qd b 3)=some (iv l)/\CC 102 #[iv j] d.drew λ d j=>∃ m,d=.returned (.string m)/\j.cell? (qd b 3)=some (iv l)/\j.cell? (qd b 2)=some (iv k)/\j.cell? (qd b 0)=some (.string i)/\CC 103 #[iv k,iv 10] j λ d j=>∃ k,d=.returned (.string k)/\j.cell? (qd b 3)=some (iv l)/\j.cell? (qd b 0)=some (.string i)/\CC 102 #[iv l] j λ d j=>∃ l,d=.returned (.string l)/\j.cell? (qd b 0)=some (.string i)/\au j (.cells #[.string (bs [98,105,100,100,101,114]),.string i,.string m,.string k,.string l] 9) λ b d=>CC 101 #[.slice (some (qd b 0)) 5 5] d λ b d=>∃ i,b=.returned (.string i)/\((g.size+i.size:Nat):Int)<=IntKind.i64.max/\∃ b,b<f/\e (g++i) (IntKind.i64.wrap (h+1)) d b) (∃ b d e,c.cell? (qd a 2)=some (.slice b d e)/\∃ e:ByteArray->Int->qN,(∃ f,e g 0 c f)/\∀ c f g h,e g h c f->∀ i:qv,cond (decide (h<(d:Int))) (ak b λ b=>0<=h/\h<(d:Int)/\∃ d i j,af c (Addr.add b ((h).toNat*3)) 0 [iv d,iv i,iv j]/\au c (.cells #[qz,qz,qz] 113) λ b k=>aN (qd b 0) 0 [iv d,iv i,iv j] k λ d=>∃ i:ByteArray->qW,(∀ j k,i k j->∀ l:qv,∃ l,j.drew.cell? (qd b 1)=some (iv l)/\∃ m,j.drew.cell? (qd b 2)=some (iv m)/\CC 102 #[iv l] j.drew λ j l=>∃ n,j=.returned (.string n)/\l.cell? (qd b 2)=some (iv m)/\CC 102 #[iv m] l λ j l=>∃ m,j=.returned (.string m)/\au l (.cells #[.string (bs [99,97,112]),.string k,.string n,.string m] 9) λ j k=>CC 101 #[.slice (some (qd j 0)) 4 4] k λ j k=>∃ l,j=.returned (.string l)/\((g.size+l.size:Nat):Int)<=IntKind.i64.max/\∃ j,j<f/\e (g++l) (IntKind.i64.wrap (h+1)) k j)/\∃ e,d.cell? (qd b 0)=some (iv e)/\cond (decide (e>=0)) (∃ e f h,d.cell? (qd a 1)=some (.slice e f h)/\∃ h,d.cell? (qd b 0)=some (iv h)/\ak e λ b=>0<=h/\h<(f:Int)/\∃ e,d.cell? (Addr.add b ((h).toNat*4))=some (.string e)/\i e d) (i (bs [42]) d)) (∃ b d e,c.cell? (qd a 3)=some (.slice b d e)/\∃ e:ByteArray->Int->qN,(∃ f,e g 0 c f)/\∀ c f g h,e g h c f->∀ i:qv,cond (decide (h<(d:Int))) (ak b λ b=>0<=h/\h<(d:Int)/\∃ d i j,af c (Addr.add b ((h).toNat*3)) 0 [iv d,iv i,iv j]/\au c (.cells #[qz,qz,qz] 115) λ b k=>aN (qd b 0) 0 [iv d,iv i,iv j] k λ d=>∃ i j k,d.drew.cell? (qd a 0)=some (.slice i j k)/\∃ l,d.drew.cell? (qd b 0)=some (iv l)/\ak i λ m=>0<=l/\l<(j:Int)/\∃ n,d.drew.cell? (Addr.add m ((l).toNat*5))=some (.string n)/\∃ o,d.drew.cell? (qd b 1)=some (iv o)/\∃ p,d.drew.cell? (qd b 2)=some (iv p)/\CC 102 #[iv o] d.drew λ d o=>∃ q,d=.returned (.string q)/\o.cell? (qd b 2)=some (iv p)/\o.cell? (Addr.add m ((l).toNat*5))=some (.string n)/\o.cell? (qd b 0)=some (iv l)/\o.cell? (qd a 0)=some (.slice i j k)/\CC 102 #[iv p] o λ d o=>∃ p,d=.returned (.string p)/\o.cell? (Addr.add m ((l).toNat*5))=some (.string n)/\o.cell? (qd b 0)=some (iv l)/\o.cell? (qd a 0)=some (.slice i j k)/\au o (.cells #[.string (bs [97,115,105,100,101]),.string n,.string q,.string p] 9) λ a b=>CC 101 #[.slice (some (qd a 0)) 4 4] b λ a b=>∃ d,a=.returned (.string d)/\((g.size+d.size:Nat):Int)<=IntKind.i64.max/\∃ a,a<f/\e (g++d) (IntKind.i64.wrap (h+1)) b a) (K (.tuple #[.string g,qz]) c)))))
theorem qS{a1 l1 c1 a2 l2 c2 a3 l3 c3 a4 l4 c4 w K}(h:oJ a1 l1 c1 a2 l2 c2 a3 l3 c3 a4 l4 c4 w K):CP 53 #[.agg #[.slice a1 l1 c1,.slice a2 l2 c2,.slice a3 l3 c3,.slice a4 l4 c4]] w K:=aj (aC [(122,[(5,.s .str),(23,.s (.int .i64))]),(250,[(5,.s .str),(49,.s (.int .i64))]),(506,[(5,.s .str),(72,.s (.int .i64))]),(64819,[(12,.s .str)]),(1018,[(5,.s .str),(101,.s (.int .i64))])]) func53 (by kernel_rfl) (by kernel_rfl) h
end Go.Proofs.YtpddenfeaadgpaaGreatDoor
namespace Go.Proofs.YtpddenfeaadgpaaGreatDoor
open Go Go.Vc Go.Sort Go.RowKit _root_.Go.Proofs.Tryz
section
variable {w:World}
theorem Hi{g o c:Nat}{xs:List (List UInt8)}(hcells:∀ (j:Nat) x,xs[j]?=some x->w.cell? ⟨g,o+j,none⟩=some (sv x))(hg:g<w.heap.size)(hc:xs.length<=c)(hN:xs.length<=1000000)(hl:(Lib.join xs [32]).length<=140737488355328) :
  CP 101 #[.slice (some ⟨g,o,none⟩) xs.length c] w (λ r w'=>r=sv (wX xs)/\ax w w' []):=by
 refine tQ ?_;unfold sY;have e1:(xs.map bs).map (·.data.toList)=xs:=by
  rw[List.map_map]
  conv=>rhs; rw[<- List.map_id xs]
  exact List.map_congr_left λ x _=>by simp[bs]
 have hj:=Tryz.strings_Join g o c (xs.map bs) (bs [32]) w (λ j x hx=>by
  rw[List.getElem?_map,Option.map_eq_some_iff] at hx;obtain⟨y,hy,rfl⟩:=hx;exact hcells j y hy) hg (by simp; omega) (by simpa using hc) (by rw[e1]; exact hl)
 rw[e1,List.length_map] at hj;refine hj.mono λ e w' ⟨he,hb⟩=>⟨_,he,?_,?_,Cr hb⟩
 ·have:(⟨(Lib.join xs (bs [32]).data.toList).toArray⟩:ByteArray).size=(Lib.join xs [32]).length:=by simp[ByteArray.size,bs]
  rw[this];have h2:(bs [10]).size=1:=rfl;rw[h2];have:IntKind.i64.max=9223372036854775807:=rfl;omega
 ·congr 1
end
theorem oL{w0 w:World}{a:OA}{c:Nat}{xs:List (List UInt8)}{B:aJ}(s:St w0 w (star (JF a c xs) B))(h0:xs≠[])(hn:xs.length<=1000)(hl:∀ y∈xs,y.length<=100) :
  CP 101 #[.slice a xs.length c] w (λ r w'=>r=sv (wX xs)/\ax w w' []):=by
 have own:=s.rowOf;have hpos:0<xs.length:=by cases xs with|nil=>exact absurd rfl h0|cons x r=>simp
 obtain⟨g,rfl,hget⟩:=wJ own hpos;have cells:∀ (j:Nat) x,xs[j]?=some x->w.cell? ⟨g,0+j,none⟩=some (sv x):=λ j x hx=>by
  obtain⟨q,hq,hc⟩:=Hf (s.rd Fs) hx
  cases hq
  rw[dN,Nat.mul_one] at hc;exact hc
 obtain⟨x,hx⟩:∃ x,xs[0]?=some x:=⟨_,gE hpos⟩;exact Hi cells (GQ (cells 0 x hx)) (sR own).1 (by omega) (Ip hl hn)
def zC : Pr:=⟨[],0,0,0,0⟩
def GP(x:Pr):List UInt8:=wX [J5,x.nm,Lib.itoa x.sup,Lib.itoa x.res,Lib.itoa x.pts,Lib.itoa x.grp]
def GN(x:Br):List UInt8:=wX [J3,x.nm,Lib.itoa x.cls,Lib.itoa x.bud,Lib.itoa x.pts]
def jV(S:Se)(x:T3):List UInt8:=if x.a>=0 then (S.bd.getD x.a.toNat eH).nm else [42]
def GO(S:Se)(x:T3):List UInt8:=wX [J4,jV S x,Lib.itoa x.b,Lib.itoa x.c]
def GM(S:Se)(x:T3):List UInt8:=wX [J2,(S.ps.getD x.a.toNat zC).nm,Lib.itoa x.b,Lib.itoa x.c]
def Ed(S:Se):Nat->List UInt8
 | 0=>[]
 | k+1=>Ed S k++((S.ps[k]?.map GP).getD [])
def Ee(S:Se):Nat->List UInt8
 | 0=>Ed S S.ps.length
 | k+1=>Ee S k++((S.bd[k]?.map GN).getD [])
def Ef(S:Se):Nat->List UInt8
 | 0=>Ee S S.bd.length
 | k+1=>Ef S k++((S.cp[k]?.map (GO S)).getD [])
def GD(S:Se):Nat->List UInt8
 | 0=>Ef S S.cp.length
 | k+1=>GD S k++((S.sa[k]?.map (GM S)).getD [])
def dM(S:Se):List UInt8:=GD S S.sa.length
theorem Hx(S:Se):Ed S S.ps.length=Ee S 0:=rfl
theorem Hy(S:Se):Ee S S.bd.length=Ef S 0:=rfl
theorem Hz(S:Se):Ef S S.cp.length=GD S 0:=rfl
section
variable {S:Se}
theorem vP(h:S.Ok){k:Nat}{x:Pr}(hx:S.ps[k]?=some x):x.nm.length<=12:=by
 have:=(h.ps.good k x hx).1;simp only[jK,bq,Bool.and_eq_true,decide_eq_true_eq] at this;exact this.1.2.1
theorem Af(h:S.Ok){k:Nat}{x:Br}(hx:S.bd[k]?=some x):x.nm.length<=12:=by
 have:=(h.bd.good k x hx).1;simp only[bq,Bool.and_eq_true,decide_eq_true_eq] at this;exact this.1.2.1
theorem Im(h:S.Ok){k:Nat}{x:Pr}(hx:S.ps[k]?=some x):In x.sup/\In x.res/\In x.pts/\In x.grp:=by
 have:=(h.ps.good k x hx).1;simp only[jK,rA,Bool.and_eq_true,decide_eq_true_eq] at this;obtain⟨_,h1,h2,h3,h4⟩:=this;refine⟨⟨?_,?_⟩,⟨?_,?_⟩,⟨?_,?_⟩,⟨?_,?_⟩⟩<;>omega
theorem Il(h:S.Ok){k:Nat}{x:Br}(hx:S.bd[k]?=some x):In x.cls/\In x.bud/\In x.pts:=by
 have:=(h.bd.good k x hx).1;simp only[lH,Bool.and_eq_true,decide_eq_true_eq] at this;obtain⟨_,h1,h2,h3⟩:=this;refine⟨⟨?_,?_⟩,⟨?_,?_⟩,⟨?_,?_⟩⟩<;>omega
theorem F8(h:S.Ok){k:Nat}{x:T3}(hx:S.cp[k]?=some x) : -1<=x.a/\x.a<S.bd.length/\In x.b/\In x.c:=by
 have:=(h.cp.good k x hx).1;simp only[lZ,Bool.and_eq_true,decide_eq_true_eq] at this;obtain⟨h1,h2,h3⟩:=this;refine⟨h1.1,h1.2,⟨?_,?_⟩,⟨?_,?_⟩⟩<;>omega
theorem Ks(h:S.Ok)(k:Nat):(S.ps[k]?.map Pr.sup).getD 0<=4:=by
 cases hx:S.ps[k]? with
 | none=>simp
 | some x =>
  have:=(h.ps.good k x hx).1;simp only[jK,rA,Bool.and_eq_true,decide_eq_true_eq] at this;simp only[Option.map_some,Option.getD_some];exact this.2.1.2
theorem JW(h:S.Ok){k:Nat}{x:T3}(hx:S.sa[k]?=some x):0<=x.a/\x.a<S.ps.length/\In x.b/\In x.c:=by
 have:=(h.sa.good k x hx).1;simp only[rJ,Bool.and_eq_true,decide_eq_true_eq] at this;obtain⟨h1,h2,h3⟩:=this;have:=Ks h x.a.toNat;refine⟨h1.1,h1.2,⟨?_,?_⟩,⟨?_,?_⟩⟩<;>omega
theorem JU(h:S.Ok){k:Nat}{x:Pr}(hx:S.ps[k]?=some x):∀ y∈[J5,x.nm,Lib.itoa x.sup,Lib.itoa x.res,Lib.itoa x.pts,Lib.itoa x.grp],y.length<=100:=by
 obtain⟨h1,h2,h3,h4⟩:=Im h hx;have g1:=tv h1; have g2:=tv h2; have g3:=tv h3; have g4:=tv h4; have g5:=vP h hx;intro y hy;simp only[List.mem_cons,List.not_mem_nil,or_false] at hy;rcases hy with rfl|rfl|rfl|rfl|rfl|rfl<;>first|decide|omega
theorem JS(h:S.Ok){k:Nat}{x:Br}(hx:S.bd[k]?=some x):∀ y∈[J3,x.nm,Lib.itoa x.cls,Lib.itoa x.bud,Lib.itoa x.pts],y.length<=100:=by
 obtain⟨h1,h2,h3⟩:=Il h hx;have g1:=tv h1; have g2:=tv h2; have g3:=tv h3; have g5:=Af h hx;intro y hy;simp only[List.mem_cons,List.not_mem_nil,or_false] at hy;rcases hy with rfl|rfl|rfl|rfl|rfl<;>first|decide|omega
theorem xy(h:S.Ok){k:Nat}{x:T3}(hx:S.cp[k]?=some x):(jV S x).length<=12:=by
 obtain⟨h1,h2,_⟩:=F8 h hx;unfold jV
 split
 ·have:S.bd[x.a.toNat]?=some (S.bd.getD x.a.toNat eH):=by rw[List.getD_eq_getElem?_getD,gE (by omega)]; rfl
  exact Af h this
 ·decide
theorem JT(h:S.Ok){k:Nat}{x:T3}(hx:S.cp[k]?=some x):∀ y∈[J4,jV S x,Lib.itoa x.b,Lib.itoa x.c],y.length<=100:=by
 obtain⟨_,_,h1,h2⟩:=F8 h hx;have g1:=tv h1; have g2:=tv h2; have g5:=xy h hx;intro y hy;simp only[List.mem_cons,List.not_mem_nil,or_false] at hy;rcases hy with rfl|rfl|rfl|rfl<;>first|decide|omega
theorem DI(h:S.Ok){k:Nat}{x:T3}(hx:S.sa[k]?=some x):S.ps[x.a.toNat]?=some (S.ps.getD x.a.toNat zC):=by
 obtain⟨h1,h2,_⟩:=JW h hx;rw[List.getD_eq_getElem?_getD,gE (by omega)]; rfl
theorem JR(h:S.Ok){k:Nat}{x:T3}(hx:S.sa[k]?=some x):∀ y∈[J2,(S.ps.getD x.a.toNat zC).nm,Lib.itoa x.b,Lib.itoa x.c],y.length<=100:=by
 obtain⟨_,_,h1,h2⟩:=JW h hx;have g1:=tv h1; have g2:=tv h2; have g5:=vP h (DI h hx);intro y hy;simp only[List.mem_cons,List.not_mem_nil,or_false] at hy;rcases hy with rfl|rfl|rfl|rfl<;>first|decide|omega
theorem Bg{k:Nat}{x:Pr}(hx:S.ps[k]?=some x):Ed S (k+1)=Ed S k++GP x:=by show Ed S k++_=_; rw[hx]; rfl
theorem Bh{k:Nat}{x:Br}(hx:S.bd[k]?=some x):Ee S (k+1)=Ee S k++GN x:=by show Ee S k++_=_; rw[hx]; rfl
theorem Bi{k:Nat}{x:T3}(hx:S.cp[k]?=some x):Ef S (k+1)=Ef S k++GO S x:=by show Ef S k++_=_; rw[hx]; rfl
theorem Bj{k:Nat}{x:T3}(hx:S.sa[k]?=some x):GD S (k+1)=GD S k++GM S x:=by show GD S k++_=_; rw[hx]; rfl
theorem rW(h:S.Ok):∀ k,k<=S.ps.length->(Ed S k).length<=607*k
 | 0,_=>by simp[Ed]
 | k+1,hk=>by
  have ih:=rW h k (by omega);have hx:S.ps[k]?=some (S.ps[k]'(by omega)):=gE (by omega);have:=vL (JU h hx);rw[Bg hx,List.length_append];simp only[List.length_cons,List.length_nil] at this;show _+(wX _).length<=_;omega
theorem rX(h:S.Ok):∀ k,k<=S.bd.length->(Ee S k).length<=3642+506*k
 | 0,_=>by have:=rW h _ (Nat.le_refl _); have:=h.ps.l2; show(Ed S S.ps.length).length<=_; omega
 | k+1,hk=>by
  have ih:=rX h k (by omega);have hx:S.bd[k]?=some (S.bd[k]'(by omega)):=gE (by omega);have:=vL (JS h hx);rw[Bh hx,List.length_append];simp only[List.length_cons,List.length_nil] at this;show _+(wX _).length<=_;omega
theorem rY(h:S.Ok):∀ k,k<=S.cp.length->(Ef S k).length<=8000+405*k
 | 0,_=>by have:=rX h _ (Nat.le_refl _); have:=h.bd.l2; show(Ee S S.bd.length).length<=_; omega
 | k+1,hk=>by
  have ih:=rY h k (by omega);have hx:S.cp[k]?=some (S.cp[k]'(by omega)):=gE (by omega);have:=vL (JT h hx);rw[Bi hx,List.length_append];simp only[List.length_cons,List.length_nil] at this;show _+(wX _).length<=_;omega
theorem vE(h:S.Ok):∀ k,k<=S.sa.length->(GD S k).length<=16000+405*k
 | 0,_=>by have:=rY h _ (Nat.le_refl _); have:=h.cp.l1; show(Ef S S.cp.length).length<=_; omega
 | k+1,hk=>by
  have ih:=vE h k (by omega);have hx:S.sa[k]?=some (S.sa[k]'(by omega)):=gE (by omega);have:=vL (JR h hx);rw[Bj hx,List.length_append];simp only[List.length_cons,List.length_nil] at this;show _+(wX _).length<=_;omega
end
set_option maxHeartbeats 1000000 in
theorem Dq{w:World}{S:Se}(h:S.In w)(ht:zH w) :
  CP 53 #[.agg S.arr] w (λ r w'=>((jP S≠0/\r=.tuple #[sv [],iv (jP S)])\/(S.Ok/\r=.tuple #[sv (dM S),iv 0]))/\ax w w' []):=by
 refine qS ?_;unfold oJ;refine(St.start w).one.av S.arr λ r1 w1 s1=>⟨_,_,_,_,_,_,_,_,_,_,_,_,s1.cellsIn 0 rfl,aq (lB (h.an s1.an)) ?_⟩;rintro v w2 ⟨⟨rfl,he⟩,c2⟩;have s2:=s1.quiet c2;refine⟨_,rfl,?_⟩
 by_cases g:jP S=0
 rotate_left
 ·exact cT (by simpa using g) ⟨.inl ⟨g,rfl⟩,s2.an⟩
 have ho:=he.1 g;have l1:=ho.ps.l2; have l2:=ho.bd.l2; have l3:=ho.cp.l1; have l4:=ho.sa.l1;let M:List aJ:=[ah r1 S.arr 27,emp];have s2:St w w2 (Sep M):=s2;refine cF (by rw[g]; rfl) ⟨_,_,_,s2.ag 0 rfl 0,λ t n w3 m=>∃ k:Nat,n=k/\t=bs (Ed S k)/\k<=S.ps.length/\m=S.ps.length-k/\St w w3 (Sep M),⟨S.ps.length,0,rfl,rfl,by omega,by omega,s2⟩,?_⟩;rintro w3 m t n ⟨k,rfl,rfl,hk,hm,s3⟩ -;have b1:=rW ho k hk
 by_cases hlt:(k:Int)<(S.ps.length:Int)
 ·have hx:S.ps[k]?=some (S.ps[k]'(by omega)):=gE (by omega);generalize S.ps[k]'(by omega)=x at hx;obtain⟨i1,i2,i3,i4⟩:=Im ho hx;obtain⟨_,q,hq,hcl⟩:=(h.an s3.an).ps k x hx;refine cT (dT hlt) (ai hq ⟨by omega,by omega,bs x.nm,_,_,_,_,hcl,s3.av zC.cells.toArray λ r4 w4 s4=>s4.az 0 rfl x.cells rfl x.one λ w5 s5=>?_⟩);have s6:=s5.quiet (ax.drew _ _);refine⟨_,s6.ag 0 rfl 0,_,s6.ag 0 rfl 1,_,s6.ag 0 rfl 2,_,s6.ag 0 rfl 3,_,s6.ag 0 rfl 4,aq (jd (ht.an s6.an) i1) ?_⟩;rintro _ w7 ⟨rfl,c7⟩;have s7:=s6.quiet c7;refine⟨_,rfl,s7.ag 0 rfl 4,s7.ag 0 rfl 3,s7.ag 0 rfl 2,s7.ag 0 rfl 0,aq (Ec (ht.an s7.an) i2) ?_⟩;rintro _ w8 ⟨rfl,c8⟩;have s8:=s7.quiet c8;refine⟨_,rfl,s8.ag 0 rfl 4,s8.ag 0 rfl 3,s8.ag 0 rfl 0,aq (jd (ht.an s8.an) i3) ?_⟩;rintro _ w9 ⟨rfl,c9⟩;have s9:=s8.quiet c9;refine⟨_,rfl,s9.ag 0 rfl 4,s9.ag 0 rfl 0,aq (jd (ht.an s9.an) i4) ?_⟩;rintro _ w10 ⟨rfl,c10⟩;have s10:=s9.quiet c10;refine⟨_,rfl,s10.ag 0 rfl 0,s10.av _ λ r5 w11 s11=>?_⟩;have t11:=qY s11 0 rfl (xs:=[J5,x.nm,Lib.itoa x.sup,Lib.itoa x.res,Lib.itoa x.pts,Lib.itoa x.grp]) rfl (by simp);have k11:=oL t11 (by simp) (by simp) (JU ho hx);refine aq k11 ?_;rintro _ w12 ⟨rfl,c12⟩;have s12:=s11.quiet c12;have b2:=rW ho (k+1) (by omega);rw[Bg hx,List.length_append] at b2;unfold GP at b2;exact⟨_,rfl,by rw[dP,dP,cr]; omega,S.ps.length-(k+1),by omega,k+1,ay ⟨by omega,by omega⟩,by rw[jU,Bg hx]; rfl,by omega,rfl,s12.aA [2,3]⟩
 obtain rfl:k=S.ps.length:=by omega
 clear hk hm hlt b1;refine cF (by simp) ⟨_,_,_,s3.ag 0 rfl 1,λ t n w4 m=>∃ k:Nat,n=k/\t=bs (Ee S k)/\k<=S.bd.length/\m=S.bd.length-k/\St w w4 (Sep M),⟨S.bd.length,0,rfl,congrArg bs (Hx S),by omega,by omega,s3⟩,?_⟩;clear s3;rintro w3 m t n ⟨k,rfl,rfl,hk,hm,s3⟩ -;have b1:=rX ho k hk
 by_cases hlt:(k:Int)<(S.bd.length:Int)
 ·have hx:S.bd[k]?=some (S.bd[k]'(by omega)):=gE (by omega);generalize S.bd[k]'(by omega)=x at hx;obtain⟨i1,i2,i3⟩:=Il ho hx;obtain⟨_,q,hq,hcl⟩:=(h.an s3.an).bd k x hx;refine cT (dT hlt) (ai hq ⟨by omega,by omega,bs x.nm,_,_,_,hcl,s3.av eH.cells.toArray λ r4 w4 s4=>s4.az 0 rfl x.cells rfl x.one λ w5 s5=>?_⟩);have s6:=s5.quiet (ax.drew _ _);refine⟨_,s6.ag 0 rfl 0,_,s6.ag 0 rfl 1,_,s6.ag 0 rfl 2,_,s6.ag 0 rfl 3,aq (jd (ht.an s6.an) i1) ?_⟩;rintro _ w7 ⟨rfl,c7⟩;have s7:=s6.quiet c7;refine⟨_,rfl,s7.ag 0 rfl 3,s7.ag 0 rfl 2,s7.ag 0 rfl 0,aq (Ec (ht.an s7.an) i2) ?_⟩;rintro _ w8 ⟨rfl,c8⟩;have s8:=s7.quiet c8;refine⟨_,rfl,s8.ag 0 rfl 3,s8.ag 0 rfl 0,aq (jd (ht.an s8.an) i3) ?_⟩;rintro _ w9 ⟨rfl,c9⟩;have s10:=s8.quiet c9;refine⟨_,rfl,s10.ag 0 rfl 0,s10.av _ λ r5 w11 s11=>?_⟩;have t11:=qY s11 0 rfl (xs:=[J3,x.nm,Lib.itoa x.cls,Lib.itoa x.bud,Lib.itoa x.pts]) rfl (by simp);have k11:=oL t11 (by simp) (by simp) (JS ho hx);refine aq k11 ?_;rintro _ w12 ⟨rfl,c12⟩;have s12:=s11.quiet c12;have b2:=rX ho (k+1) (by omega);rw[Bh hx,List.length_append] at b2;unfold GN at b2;exact⟨_,rfl,by rw[dP,dP,cr]; omega,S.bd.length-(k+1),by omega,k+1,ay ⟨by omega,by omega⟩,by rw[jU,Bh hx]; rfl,by omega,rfl,s12.aA [2,3]⟩
 obtain rfl:k=S.bd.length:=by omega
 clear hk hm hlt b1;refine cF (by simp) ⟨_,_,_,s3.ag 0 rfl 2,λ t n w4 m=>∃ k:Nat,n=k/\t=bs (Ef S k)/\k<=S.cp.length/\m=S.cp.length-k/\St w w4 (Sep M),⟨S.cp.length,0,rfl,congrArg bs (Hy S),by omega,by omega,s3⟩,?_⟩;clear s3;rintro w3 m t n ⟨k,rfl,rfl,hk,hm,s3⟩ -;have b1:=rY ho k hk
 by_cases hlt:(k:Int)<(S.cp.length:Int)
 ·have hx:S.cp[k]?=some (S.cp[k]'(by omega)):=gE (by omega);generalize S.cp[k]'(by omega)=x at hx;obtain⟨ra,rb,i1,i2⟩:=F8 ho hx;obtain⟨q,hq,hcl⟩:=(h.an s3.an).cp k x hx;refine cT (dT hlt) (ai hq ⟨by omega,by omega,_,_,_,hcl,s3.av (⟨0,0,0⟩:T3).cells.toArray λ r4 w4 s4=>s4.az 0 rfl x.cells rfl x.one λ w5 s5=>?_⟩);have s5:St w w5 (Sep (ah r4 x.cells.toArray 113 :: M)):=s5;refine⟨λ t w6=>t=bs (jV S x)/\St w w6 (Sep (ah r4 x.cells.toArray 113 :: M)),?_,_,s5.ag 0 rfl 0,?_⟩
  ·rintro w6 t ⟨rfl,s6⟩ -;have s6:=s6.quiet (ax.drew _ _);refine⟨_,s6.ag 0 rfl 1,_,s6.ag 0 rfl 2,aq (jd (ht.an s6.an) i1) ?_⟩;rintro _ w7 ⟨rfl,c7⟩;have s7:=s6.quiet c7;refine⟨_,rfl,s7.ag 0 rfl 2,aq (jd (ht.an s7.an) i2) ?_⟩;rintro _ w8 ⟨rfl,c8⟩;have s10:=s7.quiet c8;refine⟨_,rfl,s10.av _ λ r5 w11 s11=>?_⟩;have t11:=qY s11 0 rfl (xs:=[J4,jV S x,Lib.itoa x.b,Lib.itoa x.c]) rfl (by simp);have k11:=oL t11 (by simp) (by simp) (JT ho hx);refine aq k11 ?_;rintro _ w12 ⟨rfl,c12⟩;have s12:=s11.quiet c12;have b2:=rY ho (k+1) (by omega);rw[Bi hx,List.length_append] at b2;unfold GO at b2;exact⟨_,rfl,by rw[dP,dP,cr]; omega,S.cp.length-(k+1),by omega,k+1,ay ⟨by omega,by omega⟩,by rw[jU,Bi hx]; rfl,by omega,rfl,s12.aA [2,3]⟩
  ·by_cases g0:x.a>=0
   ·have hy:S.bd[x.a.toNat]?=some (S.bd.getD x.a.toNat eH):=by rw[List.getD_eq_getElem?_getD,gE (by omega)]; rfl
    obtain⟨q2,hq2,hc2⟩:=nL (h.an s5.an).bd hy 0 _ rfl;exact cT (dT g0) ⟨_,_,_,s5.ag 1 rfl 1,_,s5.ag 0 rfl 0,ai hq2 ⟨by omega,by omega,_,hc2,by rw[jV,if_pos g0],s5⟩⟩
   ·exact cF (dF g0) ⟨by rw[jV,if_neg g0],s5⟩
 obtain rfl:k=S.cp.length:=by omega
 clear hk hm hlt b1;refine cF (by simp) ⟨_,_,_,s3.ag 0 rfl 3,λ t n w4 m=>∃ k:Nat,n=k/\t=bs (GD S k)/\k<=S.sa.length/\m=S.sa.length-k/\St w w4 (Sep M),⟨S.sa.length,0,rfl,congrArg bs (Hz S),by omega,by omega,s3⟩,?_⟩;clear s3;rintro w3 m t n ⟨k,rfl,rfl,hk,hm,s3⟩ -;have b1:=vE ho k hk
 by_cases hlt:(k:Int)<(S.sa.length:Int)
 ·have hx:S.sa[k]?=some (S.sa[k]'(by omega)):=gE (by omega);generalize S.sa[k]'(by omega)=x at hx;obtain⟨ra,rb,i1,i2⟩:=JW ho hx;obtain⟨q,hq,hcl⟩:=(h.an s3.an).sa k x hx;refine cT (dT hlt) (ai hq ⟨by omega,by omega,_,_,_,hcl,s3.av (⟨0,0,0⟩:T3).cells.toArray λ r4 w4 s4=>s4.az 0 rfl x.cells rfl x.one λ w5 s5=>?_⟩);have s6:=s5.quiet (ax.drew _ _);have hy:=DI ho hx;obtain⟨_,q2,hq2,hc2⟩:=(h.an s6.an).ps _ _ hy;have c0:∀ {w'},ax w w' []->w'.cell? (Addr.add q2 (x.a.toNat*5))=some (sv (S.ps.getD x.a.toNat zC).nm):=λ {w'} hc=>by
   obtain⟨_,q3,hq3,hc3⟩:=(h.an hc).ps _ _ hy;obtain rfl:q2=q3:=Option.some.inj (hq2.symm.trans hq3);have:=aL hc3 0 _ rfl
   rwa [Nat.zero_add,Addr.add_add,Nat.add_zero] at this
  refine⟨_,_,_,s6.ag 1 rfl 0,_,s6.ag 0 rfl 0,ai hq2 ⟨by omega,by omega,_,c0 s6.an,_,s6.ag 0 rfl 1,_,s6.ag 0 rfl 2,aq (jd (ht.an s6.an) i1) ?_⟩⟩;rintro _ w7 ⟨rfl,c7⟩;have s7:=s6.quiet c7;refine⟨_,rfl,s7.ag 0 rfl 2,c0 s7.an,s7.ag 0 rfl 0,s7.ag 1 rfl 0,aq (jd (ht.an s7.an) i2) ?_⟩;rintro _ w8 ⟨rfl,c8⟩;have s10:=s7.quiet c8;refine⟨_,rfl,c0 s10.an,s10.ag 0 rfl 0,s10.ag 1 rfl 0,s10.av _ λ r5 w11 s11=>?_⟩;have t11:=qY s11 0 rfl (xs:=[J2,(S.ps.getD x.a.toNat zC).nm,Lib.itoa x.b,Lib.itoa x.c]) rfl (by simp);have k11:=oL t11 (by simp) (by simp) (JR ho hx);refine aq k11 ?_;rintro _ w12 ⟨rfl,c12⟩;have s12:=s11.quiet c12;have b2:=vE ho (k+1) (by omega);rw[Bj hx,List.length_append] at b2;unfold GM at b2;exact⟨_,rfl,by rw[dP,dP,cr]; omega,S.sa.length-(k+1),by omega,k+1,ay ⟨by omega,by omega⟩,by rw[jU,Bj hx]; rfl,by omega,rfl,s12.aA [2,3]⟩
 obtain rfl:k=S.sa.length:=by omega
 exact cF (by simp) ⟨.inr ⟨ho,rfl⟩,s3.an⟩
end Go.Proofs.YtpddenfeaadgpaaGreatDoor
namespace Go.Proofs.YtpddenfeaadgpaaGreatDoor
open Go Go.Vc _root_.Go.Proofs.Tryz
def ot(a:OA)(b c:Nat)(d:OA)(e f:Nat)(g:OA)(h i:Nat)(j:OA)(k l:Nat)(m n o p:Int)(q:OA)(r s:Nat)(w:World)(K:KP):=au w (.cells #[.slice a b c,.slice d e f,.slice g h i,.slice j k l] 27) λ a b=>au b (.cells #[iv m,iv n,iv o,iv p] 41) λ b c=>∃ d e f g h i j k l m n o,af c (qd a 0) 0 [.slice d e f,.slice g h i,.slice j k l,.slice m n o]/\∃ p t u v,af c (qd b 0) 0 [iv p,iv t,iv u,iv v]/\CC 12 #[.agg #[.slice d e f,.slice g h i,.slice j k l,.slice m n o],.agg #[iv p,iv t,iv u,iv v],.slice q r s] c λ b c=>∃ d e,b=.returned (.tuple #[.pointer d,iv e])/\cond (e !=0) (K (.tuple #[qn,iv e]) c) (∃ b e f g h i j k l m n o,af c (qd a 0) 0 [.slice b e f,.slice g h i,.slice j k l,.slice m n o]/\CC 53 #[.agg #[.slice b e f,.slice g h i,.slice j k l,.slice m n o]] c λ b c=>∃ e f,b=.returned (.tuple #[.string e,iv f])/\cond (f !=0) (K (.tuple #[qn,iv f]) c) (au c (.cells #[iv 1,qz,qz,qz,qz,qz,qz,qz,qz,.string e,.int .u64 0] 85) λ b c=>CC 18 #[.pointer d] c λ c d=>∃ e f g,c=.returned (.slice e f g)/\∃ c:OA->Nat->Nat->Int->qN,(∃ g,c (some (qd b 0)) 1 1 0 d g)/\∀ b g d h i j,c d h i j b g->∀ k:qv,cond (decide (j<(f:Int))) (∃ k:OA->Nat->Nat->qW,(∀ l m n o,k m n o l->∀ p:qv,∃ p,p<g/\c m n o (IntKind.i64.wrap (j+1)) l p)/\ak e λ c=>0<=j/\j<(f:Int)/\∃ e:I6,∃ f g l m n o p q r,af b (Addr.add c ((j).toNat*9)) 0 (e.on [.slice f g l,.slice m n o,.slice p q r])/\au b (.cells #[qz,qz,qz,qz,qz,qz,qn,qn,qn] 58) λ c j=>aN (qd c 0) 0 (e.on [.slice f g l,.slice m n o,.slice p q r]) j λ e=>∃ f g j,e.cell? (qd c 6)=some (.slice f g j)/\∃ c:OA->Nat->Nat->Int->qN,(∃ j,c d h i 0 e j)/\∀ e j l m n o,c l m n o e j->∀ p:qv,cond (decide (o<(g:Int))) (ak f λ f=>0<=o/\o<(g:Int)/\∃ g:I6,af e (Addr.add f ((o).toNat*6)) 0 g.vs/\au e (.cells z6.vs.toArray 35) λ f p=>aN (qd f 0) 0 g.vs p λ g=>∃ p q r,g.cell? (qd a 1)=some (.slice p q r)/\cond (decide (o>=(q:Int))) (k l m n g) (∃ a:I6,af g (qd f 0) 0 a.vs/\au g (.cells (iv 2 :: iv o :: qz :: a.on [.string (bs []),.int .u64 0]:List Value).toArray 85) λ a f=>aW prog (Builtin.append_ #[60,60] 60 #[.slice l m n,.slice (some (qd a 0)) 1 1]) f λ a f=>∃ g p q,a=(.slice g p q)/\∃ a,a<j/\c g p q (IntKind.i64.wrap (o+1)) f a)) (au e (.cells #[iv 3,qz,qz,qz,qz,qz,qz,qz,qz,.string (bs []),.int .u64 0] 85) λ a c=>aW prog (Builtin.append_ #[60,60] 60 #[.slice l m n,.slice (some (qd a 0)) 1 1]) c λ a c=>∃ e f g,a=(.slice e f g)/\k e f g c)) (K (.tuple #[.slice d h i,qz]) b)))
theorem qH{a1 l1 c1 a2 l2 c2 a3 l3 c3 a4 l4 c4 n1 n2 n3 n4 a5 l5 c5 w K}(h:ot a1 l1 c1 a2 l2 c2 a3 l3 c3 a4 l4 c4 n1 n2 n3 n4 a5 l5 c5 w K):CP 19 #[.agg #[.slice a1 l1 c1,.slice a2 l2 c2,.slice a3 l3 c3,.slice a4 l4 c4],.agg #[iv n1,iv n2,iv n3,iv n4],.slice a5 l5 c5] w K:=aj (aC [(3578,[(11,.s .slice),(40,.s (.int .i64))]),(28627,[(11,.s .slice)]),(1832138,[(11,.s .slice),(47,.s (.int .i64))])]) func19 (by kernel_rfl) (by kernel_rfl) h
theorem bN{r:Nat}{cs:Array Value}{T:TypeId}{n sz:Nat}(hn:cs.size=n*sz)(hm:n<=maxLen):bH (ah r cs T) (kN T sz (.slice (some ⟨r,0,none⟩) n n) n cs.toList):=by
 rintro w F ⟨h,rfl⟩;refine⟨[r],⟨⟨by simp[hn],.inr ⟨r,n,cs,rfl,Nat.zero_le _,h,Nat.le_refl _,hm,hn,?_⟩⟩,by simp[Value.ownBlock]⟩,by simp⟩;exact List.take_of_length_le (by simp[hn])
def Kw:Array Value:=#[iv 0,iv 0,iv 0,iv 0,iv 0,iv 0,iv 0,iv 0,iv 0,.string (bs []),.int .u64 0]
theorem B6:gW prog 60 85 (.agg Kw) 11 96:=gW.mk' underlying60 (by kernel_rfl) rfl (by decide)
abbrev oI (a:OA) (c:Nat) (l:List Ev):aJ:=dA 85 11 Ev.cells a c l
theorem rU(e:Ev):e.cells.length=11:=rfl
def tF(t:List UInt8):Ev:=⟨1,0,0,z6,t,0⟩
def qC(i:Nat)(u:I6):Ev:=⟨2,i,0,u,[],0⟩
def o4:Ev:=⟨3,0,0,z6,[],0⟩
def tE(l:List I6)(l0:List Ev):Nat->List Ev
 | 0=>l0
 | i+1=>tE l l0 i++[qC i (l.getD i z6)]
def p7(t:List UInt8)(cl:List Rn):Nat->List Ev
 | 0=>[tF t]
 | k+1=>tE ((cl[k]?.map Rn.ask).getD []) (p7 t cl k) ((cl[k]?.map Rn.ask).getD []).length++[o4]
def nS(S:Se)(C:Ck):List Ev:=p7 (dM S) C.cl C.cl.length
theorem qZ(l:List I6)(l0:List Ev):∀ i,(tE l l0 i).length=l0.length+i
 | 0=>rfl
 | i+1=>by rw[tE,List.length_append,qZ l l0 i]; rfl
theorem zS(t:List UInt8){cl cl' : List Rn}(h:cl.map Rn.er=cl'.map Rn.er):∀ k,p7 t cl k=p7 t cl' k
 | 0=>rfl
 | k+1=>by
  have e:cl[k]?.map Rn.ask=cl'[k]?.map Rn.ask:=by
   have:=congrArg (λ l=>l[k]?.map Rn.ask) h;simpa[List.getElem?_map,Option.map_map,Function.comp_def,Rn.er] using this
  rw[p7,p7,e,zS t h k]
theorem q5(t:List UInt8){cl:List Rn}(h:∀ x∈cl,x.ask.length<=8):∀ k,(p7 t cl k).length<=1+9*k
 | 0=>by show 1<=_; omega
 | k+1=>by
  have ih:=q5 t h k;rw[p7,List.length_append,qZ,List.length_singleton];have:((cl[k]?.map Rn.ask).getD []).length<=8:=by
   cases hx:cl[k]? with
   | none=>simp
   | some x=>exact h x (List.mem_of_getElem? hx)
  omega
set_option maxHeartbeats 1000000 in
theorem xK{w:World}{S:Se}(h:S.In w)(ht:zH w)(o:Po){al:OA}{cl:Nat}{L:List Lx}(hL:wV w al L) :
  CP 19 #[.agg S.arr,o.v,.slice al L.length cl] w (λ r w'=>(dV S o L.length≠0/\r=.tuple #[.slice none 0 0,iv (dV S o L.length)]/\ax w w' [])\/(dV S o L.length=0/\S.Ok/\o.ok/\L.length=S.bd.length/\∃ a c,r=.tuple #[.slice a (nS S (runM S o L)).length c,iv 0]/\St w w' (oI a c (nS S (runM S o L))))):=by
 refine qH ?_;unfold ot;refine(St.start w).one.av S.arr λ r1 w1 s1=>s1.av o.cells.toArray λ r2 w2 s2=>⟨_,_,_,_,_,_,_,_,_,_,_,_,s2.cellsIn 1 rfl,_,_,_,_,s2.cellsIn 0 rfl,aq (pH (h.an s2.an) o (hL.an s2.an)) ?_⟩;rintro v w3 (⟨h0,rfl,c3⟩|⟨h0,hs,ho,hl,g,C,eC,hi,hov,rfl,k3⟩)
 ·exact⟨_,_,rfl,cT (by simpa using h0) (.inl ⟨h0,rfl,(s2.quiet c3).an⟩)⟩
 have s3:St w w3 (Sep (eu g C++[ah r2 o.cells.toArray 41,ah r1 S.arr 27,emp])):=St.cat (l:=eu g C) (s2.and k3);refine⟨_,_,rfl,cF rfl ⟨_,_,_,_,_,_,_,_,_,_,_,_,s3.cellsIn 7 rfl,aq (Dq (h.an s3.an) (ht.an s3.an)) ?_⟩⟩;rintro v w4 ⟨⟨g0,_⟩|⟨_,rfl⟩,c4⟩
 ·exact absurd (sW hs) g0
 have s4:St w w4 (Sep (eu g C++[ah r2 o.cells.toArray 41,ah r1 S.arr 27,emp])):=s3.quiet c4;refine⟨_,_,rfl,cF rfl (s4.av (tF (dM S)).cells.toArray λ r3 w5 s5=>?_)⟩;have rd5:C.Rd g w5:=((s5.split [_]).second.split (eu g C)).first.imp nO;refine aq (lf rd5 hi.ok) ?_;rintro v w6 ⟨l',a',c',el,rfl,k6⟩;have hll:l'.length=C.cl.length:=by have:=congrArg List.length el; simpa using this
 have h30:=hi.ok.cl;have h8:=hi.ok.s.bd.l2;have hask:∀ x∈l',x.ask.length=S.bd.length:=λ x hx=>by
  have hm:x.er∈C.cl.map Rn.er:=by rw[<- el]; exact List.mem_map_of_mem hx
  obtain⟨y,hy,e⟩:=List.mem_map.1 hm;have h1:y.ask.length=C.s.bd.length:=(hi.ok.cz y hy).ask;have h2:y.ask=x.ask:=(congrArg Rn.ask e:y.er.ask=x.er.ask);rw[<- h2,h1];have:C.s.bd=S.bd:=by
   have h3:C.er.s=(runM S o L).er.s:=congrArg Ck.s eC;have h4:∀ (f:Nat) (D:Ck),(dY S L f D).s=D.s:=λ f=>by
    induction f with
    | zero=>intro D; rfl
    | succ f ih =>
     intro D;unfold dY
     split
     ·rfl
     ·rw[ih]; show(cv S L D L.length).s=D.s; exact(ve S L D _).1
   have h5:(runM S o L).s=S:=h4 31 _;have h6:C.s.er=S.er:=h3.trans (by show(runM S o L).s.er=_; rw[h5]);exact(congrArg Se.bd h6:C.s.er.bd=S.er.bd)
  rw[this]
 have s6:St w w6 (Sep (Sep [wZ a' c' l',held (cj l')] :: ah r3 (tF (dM S)).cells.toArray 85 :: (eu g C++[ah r2 o.cells.toArray 41,ah r1 S.arr 27,emp]))):=s5.and k6.EL;have s7:St w w6 (Sep [wZ a' c' l',held (cj l'),ah r3 (tF (dM S)).cells.toArray 85,ah r1 S.arr 27,emp]):=(St.cat (l:=[wZ a' c' l',held (cj l')]) s6).aA [0,1,2,10,11];have s8:St w w6 (Sep [oI (some ⟨r3,0,none⟩) 1 [tF (dM S)],wZ a' c' l',held (cj l'),ah r1 S.arr 27,emp]):=St.weak (s7.aA [2,0,1,3,4]) (bH.left (bN (n:=1) (sz:=11) rfl (by decide)));clear s7 s6;refine⟨_,_,_,rfl,λ a n c i w7 m=>∃ k:Nat,i=k/\k<=l'.length/\m=l'.length-k/\n=(p7 (dM S) l' k).length/\St w w7 (Sep [oI a c (p7 (dM S) l' k),wZ a' c' l',held (cj l'),ah r1 S.arr 27,emp]),⟨l'.length,0,rfl,by omega,by omega,rfl,s8⟩,?_⟩;rintro w7 m a n c i ⟨k,rfl,hk,hm,rfl,s9⟩ -;have hlenE:=q5 (dM S) (cl:=l') (λ x hx=>by rw[hask x hx]; rw[<- hl]; have:=congrArg List.length (show L=L from rfl); have:=hs.bd.l2; omega) k
 by_cases hlt:(k:Int)<(l'.length:Int)
 ·have hx:l'[k]?=some (l'[k]'(by omega)):=gE (by omega);have eN:p7 (dM S) l' (k+1)=tE ((l'[k]?.map Rn.ask).getD []) (p7 (dM S) l' k) ((l'[k]?.map Rn.ask).getD []).length++[o4]:=rfl;generalize l'[k]'(by omega)=x at hx;rw[hx] at eN;have eN:p7 (dM S) l' (k+1)=tE x.ask (p7 (dM S) l' k) x.ask.length++[o4]:=eN;have hxa:=hask x (List.mem_of_getElem? hx);have hb8:=hs.bd.l2;generalize hE2:p7 (dM S) l' (k+1)=E2 at eN;generalize p7 (dM S) l' k=E1 at s9 eN hlenE;obtain⟨q,hq,hcl⟩:=(St.rd Rn.len (s9.out 1 rfl)).at hx;refine cT (dT hlt) ⟨λ a n c w8=>n=E2.length/\St w w8 (Sep [oI a c E2,wZ a' c' l',held (cj l'),ah r1 S.arr 27,emp]),?_,ai hq ⟨by omega,by omega,x.p,_,_,_,_,_,_,_,_,_,hcl,s9.av IZ.cells.toArray λ r4 w9 s10=>s10.az 0 rfl x.cells rfl x.one λ w10 s11=>?_⟩⟩
  ·rintro w8 a n c ⟨rfl,s10⟩ -;exact⟨l'.length-(k+1),by omega,k+1,ay ⟨by omega,by omega⟩,by omega,rfl,by rw[hE2],by rw[hE2]; exact s10⟩
  have s11:St w w10 (Sep [ah r4 x.cells.toArray 58,oI a c E1,wZ a' c' l',held (cj l'),ah r1 S.arr 27,emp]):=s11;refine⟨_,_,_,s11.ag 0 rfl 6,λ a n c i w11 m=>∃ j:Nat,i=j/\j<=x.ask.length/\m=x.ask.length-j/\n=(tE x.ask E1 j).length/\St w w11 (Sep [ah r4 x.cells.toArray 58,oI a c (tE x.ask E1 j),wZ a' c' l',held (cj l'),ah r1 S.arr 27,emp]),⟨x.ask.length,0,rfl,by omega,by omega,rfl,s11⟩,?_⟩;rintro w11 m a n c i ⟨j,rfl,hj,hm2,rfl,s12⟩ -;have hdl:=qZ x.ask E1 j
  by_cases hlt2:(j:Int)<(x.ask.length:Int)
  ·have hu:x.ask[j]?=some (x.ask.getD j z6):=by rw[List.getD_eq_getElem?_getD,gE (by omega)]; rfl
   have eD:tE x.ask E1 (j+1)=tE x.ask E1 j++[qC j (x.ask.getD j z6)]:=rfl;generalize x.ask.getD j z6=u at hu eD;generalize hD2:tE x.ask E1 (j+1)=D2 at eD;generalize tE x.ask E1 j=D1 at s12 eD hdl;have hin:cj l' w11:=s12.jc 3 rfl;obtain⟨q2,hq2,hc2⟩:=(hin x (List.mem_of_getElem? hx)).ask.at hu;refine cT (dT hlt2) (ai hq2 ⟨by omega,by omega,u,hc2,s12.av z6.vs.toArray λ r5 w12 s13=>s13.az 0 rfl u.vs rfl (I6.one _) λ w13 s14=>⟨_,_,_,s14.ag 5 rfl 1,cF (by simp; omega) ⟨u,s14.cellsIn 0 rfl,s14.av (qC j u).cells.toArray λ r6 w14 s15=>?_⟩⟩⟩);refine aY (l2:=[qC j u]) B6 rU Ev.one (s15.out 3 rfl) (cH (s15.cellsIn 0 rfl) rfl) (by simp; omega) (by simp; omega) λ a2 c2 w15 s16=>?_;have s16:=s16.back (i:=3) (by show 3<8; decide);refine⟨x.ask.length-(j+1),by omega,j+1,ay ⟨by omega,by omega⟩,by omega,rfl,?_,?_⟩
   ·rw[hD2,eD]
   ·rw[hD2,eD];exact s16.aA [2,3,4,5,6,7]
  ·obtain rfl:j=x.ask.length:=by omega
   generalize tE x.ask E1 x.ask.length=D1 at s12 eN hdl;refine cF (by simp) (s12.av o4.cells.toArray λ r7 w12 s13=>?_);refine aY (l2:=[o4]) B6 rU Ev.one (s13.out 2 rfl) (cH (s13.cellsIn 0 rfl) rfl) (by simp; omega) (by simp; omega) λ a2 c2 w15 s16=>?_;have s16:=s16.back (i:=2) (by show 2<7; decide);exact⟨by rw[eN],by rw[eN]; exact s16.aA [2,3,4,5,6]⟩
 ·obtain rfl:k=l'.length:=by omega
  have e:p7 (dM S) l' l'.length=nS S (runM S o L):=by
   have e1:l'.map Rn.er=(runM S o L).cl.map Rn.er:=by rw[el]; exact congrArg Ck.cl eC
   have e2:l'.length=(runM S o L).cl.length:=by have:=congrArg List.length e1; simpa using this
   rw[nS,zS _ e1,e2]
  rw[e] at s9 ⊢;exact cF (by simp) (.inr ⟨h0,hs,ho,hl,_,_,rfl,s9.first⟩)
theorem B2{m u v:I6}:∀ {k:Nat},(∀ j,j<k->u.at' j=v.at' j)->jO m u k=jO m v k
 | 0,_=>rfl
 | k+1,h=>by simp only[jO]; rw[B2 λ j hj=>h j (by omega),h k (by omega)]
theorem DZ{a b x y M:Int}(h:a*(M+1)+x=b*(M+1)+y)(hx:0<=x/\x<=M)(hy:0<=y/\y<=M):a=b/\x=y:=by
 rcases Int.lt_trichotomy a b with h1|h1|h1
 ·have:=Int.mul_le_mul_of_nonneg_right (show a+1<=b by omega) (show 0<=M+1 by omega);rw[Int.add_mul] at this; omega
 ·subst h1; omega
 ·have:=Int.mul_le_mul_of_nonneg_right (show b+1<=a by omega) (show 0<=M+1 by omega);rw[Int.add_mul] at this; omega
theorem Fi{m u v:I6}(hu:Cf m u)(hv:Cf m v):∀ {k:Nat},k<=6->jO m u k=jO m v k->∀ j,j<k->u.at' j=v.at' j
 | 0,_,_,j,hj=>by omega
 | k+1,hk,h,j,hj=>by
  simp only[jO] at h;obtain⟨h1,h2⟩:=DZ h (hu.u k (by omega)) (hv.u k (by omega));rcases Nat.lt_or_ge j k with h' | h'
  ·exact Fi hu hv (by omega) h1 j h'
  ·obtain rfl:j=k:=by omega
   exact h2
def Hs(m:I6)(k:Nat)(l:List I6):Prop:=∀ (i:Nat) (u:I6),l[i]?=some u->Cf m u/\(∀ j,k<=j->j<6->u.at' j=0)/\jO m u k=(i:Int)
def sj(m:I6):List I6:=if vw m=0 then [] else (List.range (cR m)).map (bx m)
theorem Hs.done{m:I6}(hm:I6.Le m 4){l:List I6}(h:Hs m 6 l)(hl:(l.length:Int)=tw m 6):l=(List.range (cR m)).map (bx m):=by
 have hn:l.length=cR m:=by have:=(iZ hm).2.1; rw[pF] at this; omega
 apply List.ext_getElem?;intro i
 by_cases hi:i<l.length
 ·have hx:l[i]?=some (l[i]'hi):=gE hi;generalize l[i]'hi=u at hx;obtain⟨h1,_,h3⟩:=h i u hx;rw[hx,List.getElem?_map,List.getElem?_range (by omega)];refine congrArg some (I6.ext' (Fi h1 (eI hm i) (by omega) ?_));rw[h3]; exact(vu hm i (by omega)).symm
 ·rw[List.getElem?_eq_none (by omega),List.getElem?_eq_none (by simp; omega)]
theorem Hs.snoc{m:I6}{k:Nat}(hk:k<6){nx:List I6}(h:Hs m (k+1) nx){b:I6}{j q:Nat}(hb:Cf m b)(hz:∀ i,k<=i->i<6->b.at' i=0)(hr:jO m b k=(j:Int))(hq:(q:Int)<=m.at' k)(hn:(nx.length:Int)=j*(m.at' k+1)+q):Hs m (k+1) (nx++[b.put k q]):=λ i u hu=>by
 rcases Nat.lt_or_ge i nx.length with h' | h'
 ·rw[List.getElem?_append_left h'] at hu;exact h i u hu
 ·rw[List.getElem?_append_right h'] at hu;have hi:i=nx.length:=by
   rcases Nat.eq_zero_or_pos (i-nx.length) with h0|h0
   ·omega
   ·rw[List.getElem?_eq_none (by simp; omega)] at hu; cases hu
  subst hi;rw[Nat.sub_self] at hu
  cases hu
  have hat:∀ i,i<6->(b.put k (q:Int)).at' i=if i=k then (q:Int) else b.at' i:=λ i hi=>I6.fc _ _ _ _ hk hi
  refine⟨⟨hb.mm,λ i hi=>?_⟩,λ i h1 h2=>?_,?_⟩
  ·rw[hat i hi];have:=hb.u i hi
   split
   ·rename_i e; subst e; omega
   ·exact this
  ·rw[hat i h2,if_neg (by omega)]; exact hz i (by omega) h2
  ·simp only[jO];rw[B2 (v:=b) λ i hi=>by rw[hat i (by omega),if_neg (by omega)],hat k hk,if_pos rfl,hr,hn]
set_option maxHeartbeats 1000000 in
theorem u0(w:World)(m:I6):CP 29 #[.agg m.vs.toArray] w (λ r w'=>∃ a c,r=.slice a (sj m).length c/\St w w' (bn a c (sj m))):=by
 refine Ax ?_;unfold BS;refine(St.start w).one.av m.vs.toArray λ r1 w1 s1=>⟨m,s1.cellsIn 0 rfl,aq (AI w1 m) ?_⟩;rintro v w2 ⟨rfl,c2⟩;have s2:=s1.quiet c2;refine⟨_,rfl,?_⟩
 by_cases g:vw m=0
 ·refine cT (by rw[g]; rfl) ⟨none,0,by rw[sj,if_pos g]; rfl,?_⟩;rw[sj,if_pos g];exact(St.gU s2).first
 refine cF (by simpa using g) (s2.av z6.vs.toArray λ r2 w3 s3=>?_);obtain⟨hq,hlim⟩:m.l.all dD=true/\pr m.l<=1024:=by
  unfold vw at g
  split at g
  ·assumption
  ·exact absurd rfl g
 have hm:=ni hq;have hb:∀ k,k<=6->1<=tw m k/\tw m k<=15625:=λ k hk=>by
  have h:=wI (Cd hm) k hk;refine⟨by omega,Int.le_trans h.2.2 ?_⟩
  match k,hk with
  | 0,_|1,_|2,_|3,_|4,_|5,_|6,_=>decide
 have s4:St w w3 (Sep [bn (some ⟨r2,0,none⟩) 1 [z6],ah r1 m.vs.toArray 35,emp]):=St.weak s3 (bH.left (bN (n:=1) (sz:=6) rfl (by decide)));refine⟨λ a1 l1 c1 i w4 mm=>∃ (k:Nat) (l:List I6),i=k/\k<=6/\mm=6-k/\(l1=l.length/\(l.length:Int)=tw m k/\Hs m k l)/\St w w4 (Sep [bn a1 c1 l,ah r1 m.vs.toArray 35,emp]),⟨6,0,[z6],rfl,by omega,by omega,⟨rfl,rfl,?_⟩,s4⟩,?_⟩
 ·intro i u hu
  match i,hu with
  | 0,hu=>cases hu; exact⟨Cd hm,λ j _ _=>fu j,rfl⟩
 rintro w4 mm a1 l1 c1 i ⟨k,l,rfl,hk,hmm,⟨rfl,hlen,hL⟩,s4⟩ -
 by_cases hlt:(k:Int)<6
 rotate_left
 ·obtain rfl:k=6:=by omega
  have e1:=hL.done hm hlen;refine cF (dF hlt) ⟨a1,c1,?_,?_⟩
  ·rw[sj,if_neg g,<- e1]
  ·rw[sj,if_neg g,<- e1]; exact s4.first
 have hk' : k<6:=by omega
 have hmk:=hm k hk';obtain⟨M,hM⟩:∃ M:Nat,m.at' k=(M:Int):=⟨(m.at' k).toNat,by omega⟩;have hp:=hb k (by omega);have hp1:=hb (k+1) (by omega);refine cT (dT hlt) ⟨λ a2 l2 c2 j w5 m3=>∃ (n:Nat) (nx:List I6),j=n/\n<=l.length/\m3=l.length-n/\(l2=nx.length/\(nx.length:Int)=n*(m.at' k+1)/\Hs m (k+1) nx)/\St w w5 (Sep [bn a2 c2 nx,bn a1 c1 l,ah r1 m.vs.toArray 35,emp]),⟨l.length,0,[],rfl,by omega,by omega,⟨rfl,by simp,λ i u hu=>by simp at hu⟩,s4.gU⟩,?_⟩;rintro w5 m3 a2 l2 c2 j ⟨n,nx,rfl,hn,hm3,⟨rfl,hnx,hLx⟩,s5⟩ -
 by_cases hln:(n:Int)<(l.length:Int)
 rotate_left
 ·obtain rfl:n=l.length:=by omega
  exact cF (dF hln) ⟨6-(k+1),by omega,k+1,nx,inc (by decide) hk',by omega,rfl,⟨rfl,by rw[hnx,hlen,tw],hLx⟩,s5.aA [0,2,3]⟩
 have hx:l[n]?=some (l[n]'(by omega)):=gE (by omega);generalize l[n]'(by omega)=b at hx;obtain⟨hb1,hb2,hb3⟩:=hL n b hx;refine cT (dT hln) ⟨λ a3 l3 c3 j w6 m5=>∃ (q:Nat) (ny:List I6),j=q/\q<=M+1/\m5=M+1-q/\(l3=ny.length/\(ny.length:Int)=n*(m.at' k+1)+q/\Hs m (k+1) ny)/\St w w6 (Sep [bn a3 c3 ny,bn a1 c1 l,ah r1 m.vs.toArray 35,emp]),⟨M+1,0,nx,rfl,by omega,by omega,⟨rfl,by omega,hLx⟩,s5⟩,?_⟩;rintro w6 m5 a3 l3 c3 j ⟨q,ny,rfl,hq1,hm5,⟨rfl,hny,hLy⟩,s6⟩ -;refine⟨by omega,by omega,m.at' k,by rw[bV,aB s6 2 rfl hk'],?_⟩
 by_cases hqM:(q:Int)<=m.at' k
 rotate_left
 ·refine cF (dF hqM) ⟨l.length-(n+1),by omega,n+1,ny,ay ⟨by omega,by omega⟩,by omega,rfl,⟨rfl,?_,hLy⟩,s6⟩;rw[hny,show((n+1:Nat):Int)=n+1 by omega,Int.add_mul]; omega
 have hbig:(n:Int)*(m.at' k+1)<=15625*5:=Int.mul_le_mul (by omega) (by omega) (by omega) (by omega);obtain⟨p,hp2,hcl⟩:=(St.rd aM (s6.out 1 rfl)).at hx;refine cT (dT hqM) (ai hp2 ⟨by omega,by omega,b,hcl,s6.av z6.vs.toArray λ r3 w7 s7=>s7.az 0 rfl b.vs rfl (I6.one _) λ w8 s8=>⟨by omega,by omega,?_⟩⟩);rw[bV];refine s8.bL 0 rfl hk' rfl λ w9 s9=>?_;rw[I6.gP _ _ _ hk'] at s9;refine⟨b.put k q,s9.cellsIn 0 rfl,s9.av (b.put k q).vs.toArray λ r4 w10 s10=>?_⟩;refine aY (l2:=[b.put k q]) eZ aM I6.one (s10.out 2 rfl) (cH (s10.cellsIn 0 rfl) rfl) (by simp; omega) (by simp; omega) λ a' c' w11 s11=>?_;have s11:=s11.back (i:=2) (by show 2<6; decide);exact⟨M+1-(q+1),by omega,q+1,ny++[b.put k q],ay ⟨by omega,by omega⟩,by omega,rfl,⟨rfl,by rw[List.length_append]; simp; omega,hLy.snoc hk' hb1 hb2 hb3 hqM hny⟩,s11.aA [2,3,4,5]⟩
theorem uF{w:World}{a:OA}{l:List Pr}(h:dX w a l){k:Nat}{p:Pr}(hk:l[k]?=some p)(j:Nat)(v:Value)(hj:p.cells[j]?=some v):∃ q,a=some q/\w.cell? (Addr.add (Addr.add q (((k:Nat):Int).toNat*5)) j)=some v:=by
 obtain⟨_,q,hq,hc⟩:=h k p hk;have:=aL hc j v hj;exact⟨q,hq,by rw[Int.toNat_natCast]; rwa [Nat.zero_add] at this⟩
theorem Bs{l:List Pr}:I6.mix l.length (aG l) z6=aG l:=I6.ext' λ j hj=>by
 rw[I6.bh _ _ _ _ hj]
 split
 ·rfl
 ·rw[fu,jj _ _ hj];simp only[List.getD_eq_getElem?_getD,List.getElem?_map];rw[List.getElem?_eq_none (by omega)]; rfl
theorem gR{w:World}{a:OA}{c:Nat}{l:List Pr}(h:dX w a l) :
  CP 30 #[.slice a l.length c] w (λ r w'=>r=.agg (aG l).vs.toArray/\ax w w' []):=by
 refine wv ?_;unfold uW;refine(St.start w).one.av z6.vs.toArray λ r1 w1 s1=>s1.av z6.vs.toArray λ r2 w2 s2=>?_;refine⟨λ n w3 m=>∃ k:Nat,n=k/\(k<=6/\k<=l.length)/\m=6-k/\St w w3 (Sep [ah r2 (I6.mix k (aG l) z6).vs.toArray 35,ah r1 z6.vs.toArray 35,emp]),⟨6,0,rfl,by omega,by omega,s2⟩,?_⟩;rintro w3 m n ⟨k,rfl,hk,hm,s3⟩ -;refine⟨λ b w4=>b=decide (k<l.length/\k<6)/\St w w4 (Sep [ah r2 (I6.mix k (aG l) z6).vs.toArray 35,ah r1 z6.vs.toArray 35,emp]),?_,?_⟩
 ·rintro w4 b ⟨rfl,s4⟩ -
  by_cases hlt:k<l.length/\k<6
  ·have hx:l[k]?=some (l[k]'(by omega)):=gE (by omega);generalize l[k]'(by omega)=x at hx;obtain⟨q,hq,hc⟩:=uF (h.an s4.an) hx 1 _ rfl;refine cT (dT hlt) (ai hq ⟨by omega,by omega,x.sup,hc,by omega,by omega,?_⟩);rw[bV,show x.sup=(aG l).at' k by rw[jj l k hlt.2]; simp[List.getElem?_map,hx]];refine s4.bL 0 rfl hlt.2 rfl λ w5 s5=>⟨6-(k+1),by omega,k+1,inc (by decide) hlt.2,by omega,rfl,?_⟩;rw[I6.cE _ _ _ hlt.2] at s5;exact s5
  ·refine cF (dF hlt) ⟨_,s4.cellsIn 0 rfl,s4.az 1 rfl (I6.mix k (aG l) z6).vs rfl (I6.one _) λ w5 s5=>⟨_,s5.cellsIn 1 rfl,?_,s5.an⟩⟩
   by_cases h6:k=6
   ·rw[h6,I6.fD]
   ·rw[show k=l.length by omega,Bs]
 ·by_cases g:k<l.length
  ·refine cT (dT (by omega)) ⟨?_,s3⟩
   by_cases g2:k<6
   ·rw[dT (show(k:Int)<6 by omega),dT ⟨g,g2⟩]
   ·rw[dF (show ¬ (k:Int)<6 by omega),dF λ h=>g2 h.2]
  ·exact cF (dF (by omega)) ⟨by rw[dF λ h=>g h.1],s3⟩
theorem Ku{l:List Pr}(ho:bZ l):∀ p∈l,0<=p.res/\p.res<=1000000:=λ p hp=>by
 obtain⟨i,hi,rfl⟩:=List.mem_iff_getElem.1 hp;have:=(ho.good i _ (gE hi)).1;simp only[jK,rA,Bool.and_eq_true,decide_eq_true_eq] at this;omega
theorem rB{wt:Pr->Int}{l:List Pr}{u:I6}(hu:I6.Le u 4)(hw:∀ p∈l,0<=wt p/\wt p<=1000000){k:Nat}(hk:k<6){x:Pr}(hx:l[k]?=some x){q:Nat}(hq:(q:Int)<=u.at' k):0<=fE wt l u k+q*wt x/\fE wt l u k+q*wt x<=28000000:=by
 have h1:=oM (l:=l) hu hw k (by omega);have h2:=hw x (List.mem_of_getElem? hx);have h3:=hu k hk;have h4:0<=(q:Int)*wt x:=Int.mul_nonneg (by omega) h2.1;have h5:(q:Int)*wt x<=4*1000000:=Int.mul_le_mul (by omega) h2.2 h2.1 (by omega);omega
theorem wA(q:Nat)(x y:Int):x+((q+1:Nat):Int)*y=x+q*y+y:=by rw[show((q+1:Nat):Int)=q+1 by omega,Int.add_mul]; omega
set_option maxHeartbeats 1000000 in
theorem u5{w:World}{a:OA}{c:Nat}{l:List Pr}(h:dX w a l)(ho:bZ l){u:I6}(hq:u.l.all dD=true)(g:Int) :
  CP 81 #[.slice a l.length c,iv g,.agg u.vs.toArray] w (λ r w'=>r=.tuple #[iv (nh l u),iv (Dt Pr.res l u),iv (zw l g u)]/\ax w w' []):=by
 refine AD ?_;unfold BY;have hu:=ni hq;have hl6:=ho.l2;have hun:∀ p∈l,0<=(λ p:Pr=>if p.grp=g then (1:Int) else 0) p/\(λ p:Pr=>if p.grp=g then (1:Int) else 0) p<=1000000:=λ p _=>by
  show 0<=(if p.grp=g then (1:Int) else 0)/\(if p.grp=g then (1:Int) else 0)<=1000000
  split<;>omega
 refine(St.start w).one.av u.vs.toArray λ r1 w1 s1=>?_;have s1:St w w1 (Sep [ah r1 u.vs.toArray 35,emp]):=s1;refine⟨λ b w2=>b=false/\St w w2 (Sep [ah r1 u.vs.toArray 35,emp]),?_,aq (qh (h.an s1.an)) ?_⟩
 rotate_left
 ·rintro v w2 ⟨⟨rfl,he⟩,c2⟩;have s2:=s1.quiet c2;refine⟨_,rfl,cF (by rw[he.2 ho]; rfl) ⟨u,s2.cellsIn 0 rfl,aq (u9 w2 u) ?_⟩⟩;rintro v w3 ⟨rfl,c3⟩;exact⟨_,rfl,by rw[hq]; rfl,s2.quiet c3⟩
 rintro w2 b ⟨rfl,s2⟩ -;refine cF rfl ⟨λ x y z i w3 m=>∃ k:Nat,i=k/\k<=l.length/\m=l.length-k/\(x=fE Pr.pts l u k/\y=fE Pr.res l u k/\z=fE (λ p=>if p.grp=g then 1 else 0) l u k)/\St w w3 (Sep [ah r1 u.vs.toArray 35,emp]),⟨l.length,0,rfl,by omega,by omega,⟨rfl,rfl,rfl⟩,s2⟩,?_⟩;rintro w3 m x y z i ⟨k,rfl,hk,hm,⟨rfl,rfl,rfl⟩,s3⟩ -
 by_cases hlt:(k:Int)<(l.length:Int)
 rotate_left
 ·obtain rfl:k=l.length:=by omega
  exact cF (dF hlt) ⟨rfl,s3.an⟩
 have hx:l[k]?=some (l[k]'(by omega)):=gE (by omega);generalize l[k]'(by omega)=x at hx;have hk6:k<6:=by omega
 have huk:=hu k hk6;refine cT (dT hlt) ⟨λ n6 n7 n8 j w4 mm=>∃ q:Nat,j=q/\(q:Int)<=u.at' k/\mm=(u.at' k).toNat-q/\(n6=fE Pr.pts l u k+q*x.pts/\n7=fE Pr.res l u k+q*x.res/\n8=fE (λ p=>if p.grp=g then 1 else 0) l u k+q*(if x.grp=g then 1 else 0))/\St w w4 (Sep [ah r1 u.vs.toArray 35,emp]),⟨(u.at' k).toNat,0,rfl,by omega,by omega,⟨by simp,by simp,by simp⟩,s3⟩,?_⟩;rintro w4 mm n6 n7 n8 j ⟨q,rfl,hqu,hmm,⟨rfl,rfl,rfl⟩,s4⟩ -;refine⟨by omega,by omega,u.at' k,by rw[bV,aB s4 0 rfl hk6],?_⟩
 by_cases hqlt:(q:Int)<u.at' k
 ·obtain⟨q1,hq1,hc1⟩:=uF (h.an s4.an) hx 3 _ rfl;obtain⟨q2,hq2,hc2⟩:=uF (h.an s4.an) hx 2 _ rfl;obtain⟨q3,hq3,hc3⟩:=uF (h.an s4.an) hx 4 _ rfl;have b1:=rB (wt:=Pr.pts) hu (Kv ho) hk6 hx (q:=q+1) (by omega);have b2:=rB (wt:=Pr.res) hu (Ku ho) hk6 hx (q:=q+1) (by omega);have b3:=rB hu hun hk6 hx (q:=q+1) (by omega);have b4:=rB hu hun hk6 hx (q:=q) (by omega);rw[wA] at b1 b2 b3;refine cT (dT hqlt) ⟨λ n11 n12 n13 w5=>(n11=fE Pr.pts l u k+((q+1:Nat):Int)*x.pts/\n12=fE Pr.res l u k+((q+1:Nat):Int)*x.res/\n13=fE (λ p=>if p.grp=g then 1 else 0) l u k+((q+1:Nat):Int)*(if x.grp=g then 1 else 0))/\St w w5 (Sep [ah r1 u.vs.toArray 35,emp]),?_,?_⟩
  ·rintro w5 n11 n12 n13 ⟨⟨rfl,rfl,rfl⟩,s5⟩ -;exact⟨(u.at' k).toNat-(q+1),by omega,q+1,ay ⟨by omega,by omega⟩,by omega,rfl,⟨rfl,rfl,rfl⟩,s5⟩
  refine ai hq1 ⟨by omega,by omega,x.pts,hc1,ai hq2 ⟨by omega,by omega,x.res,hc2,ai hq3 ⟨by omega,by omega,x.grp,hc3,?_⟩⟩⟩;rw[wA,wA,wA]
  by_cases hg:x.grp=g
  ·rw[if_pos hg] at b3 b4 ⊢;exact cT (by simpa using hg) ⟨⟨ay ⟨by omega,by omega⟩,ay ⟨by omega,by omega⟩,ay ⟨by omega,by omega⟩⟩,s4⟩
  ·rw[if_neg hg] at b3 b4 ⊢;exact cF (by simpa using hg) ⟨⟨ay ⟨by omega,by omega⟩,ay ⟨by omega,by omega⟩,by omega⟩,s4⟩
 ·have e:(q:Int)=u.at' k:=by omega
  refine cF (dF hqlt) ⟨l.length-(k+1),by omega,k+1,ay ⟨by omega,by omega⟩,by omega,rfl,?_,s4⟩;simp only[fE,hx,Option.map_some,Option.getD_some,e];exact⟨trivial,trivial,trivial⟩
theorem Ft{ps:List Pr}{l:List T3}(hp:bZ ps)(h:fG ps l):∀ (k:Nat),k<=l.length->∀ (j:Nat),j<6->0<=(ie ps l k).1.at' j/\((l.take k).any (λ x=>x.a.toNat==j)=false->(ie ps l k).1.at' j=(aG ps).at' j)
 | 0,_,j,hj=>⟨(sup_le hp j hj).1,λ _=>rfl⟩
 | k+1,hk,j,hj=>by
  have ih:=Ft hp h k (by omega);have hx:l[k]?=some (l[k]'(by omega)):=gE (by omega);generalize l[k]'(by omega)=x at hx;have hi:=xo hp.l2 (FD hp) h hx;have e1:(ie ps l (k+1)).1=(ie ps l k).1.put x.a.toNat ((ie ps l k).1.at' x.a.toNat-x.c):=by rw[ie,hx]
  rw[e1,I6.fc _ _ _ _ (by omega) hj,aQ hx,List.any_append,List.any_cons,List.any_nil,Bool.or_false];obtain⟨h1,h2⟩:=ih j hj
  by_cases e:j=x.a.toNat
  ·rw[if_pos e];have hno:(l.take k).any (λ y=>y.a.toNat==x.a.toNat)=false:=by
    rw[List.any_eq_false];intro y hy;have h3:=List.any_eq_false.1 (h.good k x hx).2 y hy;obtain⟨i,hi2⟩:=List.getElem?_of_mem (List.mem_of_mem_take hy);have h4:=xo hp.l2 (FD hp) h hi2;simp only[sameAs,beq_iff_eq] at h3 ⊢;omega
   have h5:=(ih x.a.toNat (by omega)).2 hno;have h6:=(h.good k x hx).1;simp only[rJ,Bool.and_eq_true,decide_eq_true_eq] at h6;have h7:(aG ps).at' x.a.toNat=(ps[x.a.toNat]?.map Pr.sup).getD 0:=by
    rw[jj _ _ (by omega),List.getD_eq_getElem?_getD,List.getElem?_map]
   refine⟨by rw[h5,h7]; omega,λ hh=>?_⟩;rw[<- e] at hh;simp at hh
  ·rw[if_neg e];refine⟨h1,λ hh=>h2 ?_⟩;rw[Bool.or_eq_false_iff] at hh;exact hh.1
theorem Bx{ps:List Pr}{l:List T3}(hp:bZ ps)(h:fG ps l)(j:Nat)(hj:j<6):0<=(zG ps l).1.at' j:=(Ft hp h _ (Nat.le_refl _) j hj).1
set_option maxHeartbeats 1000000 in
theorem Db{w:World}{S:Se}(h:S.In w)(hs:S.Ok) :
  CP 80 #[.agg S.arr] w (λ r w'=>r=.tuple #[.agg (zG S.ps S.sa).1.vs.toArray,.agg (zG S.ps S.sa).2.vs.toArray]/\ax w w' []):=by
 refine AA ?_;unfold BW;have hl:=hs.sa.l1; have hpl:=hs.ps.l2;refine(St.start w).one.av S.arr λ r1 w1 s1=>s1.av z6.vs.toArray λ r2 w2 s2=>s2.av z6.vs.toArray λ r3 w3 s3=>s3.av z6.vs.toArray λ r4 w4 s4=>s4.av z6.vs.toArray λ r5 w5 s5=>?_;refine⟨_,_,_,_,_,_,_,_,_,_,_,_,s5.cellsIn 4 rfl,aq (dL (h.an s5.an)) ?_⟩;rintro v w6 ⟨⟨rfl,he⟩,c6⟩;have s6:=s5.quiet c6;refine⟨_,rfl,cF (by rw[he.2 hs]; rfl) ?_⟩;refine⟨λ n w7 m=>∃ k:Nat,n=k/\k<=S.ps.length/\m=S.ps.length-k/\St w w7 (Sep [ah r5 z6.vs.toArray 35,ah r4 (I6.mix k (aG S.ps) z6).vs.toArray 35,ah r3 z6.vs.toArray 35,ah r2 z6.vs.toArray 35,ah r1 S.arr 27,emp]),⟨S.ps.length,0,rfl,by omega,by omega,s6⟩,?_⟩;rintro w7 m n ⟨k,rfl,hk,hm,s7⟩ -;refine⟨_,_,_,s7.ag 4 rfl 0,?_⟩
 by_cases hlt:(k:Int)<(S.ps.length:Int)
 ·have hk6:k<6:=by omega
  have hx:S.ps[k]?=some (S.ps[k]'(by omega)):=gE (by omega);generalize S.ps[k]'(by omega)=x at hx;obtain⟨q,hq,hc⟩:=uF (h.an s7.an).ps hx 1 _ rfl;refine cT (dT hlt) ⟨_,_,_,s7.ag 4 rfl 0,ai hq ⟨by omega,by omega,x.sup,hc,by omega,by omega,?_⟩⟩;rw[bV,show x.sup=(aG S.ps).at' k by rw[jj _ k hk6]; simp[List.getElem?_map,hx]];refine s7.bL 1 rfl hk6 rfl λ w8 s8=>⟨S.ps.length-(k+1),by omega,k+1,ay ⟨by omega,by omega⟩,by omega,rfl,?_⟩;rw[I6.cE _ _ _ hk6] at s8;exact s8
 obtain rfl:k=S.ps.length:=by omega
 rw[Bs] at s7;refine cF (dF hlt) ⟨λ n w8 m=>∃ k:Nat,n=k/\k<=S.sa.length/\m=S.sa.length-k/\St w w8 (Sep [ah r5 (ie S.ps S.sa k).2.vs.toArray 35,ah r4 (ie S.ps S.sa k).1.vs.toArray 35,ah r3 z6.vs.toArray 35,ah r2 z6.vs.toArray 35,ah r1 S.arr 27,emp]),⟨S.sa.length,0,rfl,by omega,by omega,s7⟩,?_⟩;clear hlt hm hk;rintro w8 m n ⟨k,rfl,hk,hm,s8⟩ -;refine⟨_,_,_,s8.ag 4 rfl 3,?_⟩
 by_cases hlt:(k:Int)<(S.sa.length:Int)
 ·have hx:S.sa[k]?=some (S.sa[k]'(by omega)):=gE (by omega);generalize S.sa[k]'(by omega)=x at hx;obtain⟨q,hq,hcl⟩:=(h.an s8.an).sa k x hx;have hi:=xo hpl (FD hs.ps) hs.sa hx;obtain⟨i,hai⟩:=Int.eq_ofNat_of_zero_le hi.1;have hi6:i<6:=by omega
  refine cT (dT hlt) ⟨_,_,_,s8.ag 4 rfl 3,ai hq ⟨by omega,by omega,_,_,_,hcl,s8.av #[iv 0,iv 0,iv 0] λ r6 w9 s9=>s9.az 0 rfl x.cells rfl x.one λ w10 s10=>?_⟩⟩;have s11:=s10.quiet (ax.drew w10 []);have bd:=AR hs.ps hs.sa k i hi6;have eF:ie S.ps S.sa (k+1)=((ie S.ps S.sa k).1.put i ((ie S.ps S.sa k).1.at' i-x.c),(ie S.ps S.sa k).2.put i x.b):=by
   rw[ie,hx]; show((ie S.ps S.sa k).1.put x.a.toNat _,_)=_;rw[hai,Int.toNat_natCast]
  refine⟨i,by rw[s11.ag 0 rfl 0,<- hai]; rfl,i,by rw[s11.ag 0 rfl 0,<- hai]; rfl,by omega,by omega,(ie S.ps S.sa k).1.at' i,by rw[bV]; exact aB s11 2 rfl hi6,x.c,s11.ag 0 rfl 2,by omega,by omega,?_⟩;rw[bV,ay ⟨by omega,by omega⟩];refine s11.bL 2 rfl hi6 rfl λ w12 s12=>⟨i,by rw[s12.ag 0 rfl 0,<- hai]; rfl,x.b,s12.ag 0 rfl 1,by omega,by omega,?_⟩;rw[bV];refine s12.bL 1 rfl hi6 rfl λ w13 s13=>⟨S.sa.length-(k+1),by omega,k+1,ay ⟨by omega,by omega⟩,by omega,rfl,?_⟩;rw[eF];have s14:=s13.aA [1,2,3,4,5,6];have e1:=I6.gP (ie S.ps S.sa k).1 i ((ie S.ps S.sa k).1.at' i-x.c) hi6;have e2:=I6.gP (ie S.ps S.sa k).2 i x.b hi6;show St w w13 (Sep [ah r5 (I6.put _ _ _).vs.toArray _,ah r4 (I6.put _ _ _).vs.toArray _,_,_,_,emp]);rw[<- e1,<- e2];exact s14
 ·obtain rfl:S.sa.length=k:=by omega
  have s9:=s8.quiet (ax.drew w8 []);exact cF (dF hlt) ⟨_,s9.cellsIn 1 rfl,_,s9.cellsIn 0 rfl,s9.az 3 rfl _ rfl (I6.one _) λ w10 s10=>⟨s10.cellsIn 0 rfl,s10.az 2 rfl _ rfl (I6.one _) λ w11 s11=>⟨_,s11.cellsIn 3 rfl,_,s11.cellsIn 2 rfl,rfl,s11.an⟩⟩⟩
