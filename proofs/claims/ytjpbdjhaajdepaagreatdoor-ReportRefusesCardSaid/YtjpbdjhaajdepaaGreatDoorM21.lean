import Derived.Test.YtjpbdjhaajdepaaGreatDoorProg
import Derived.KernelRfl
import Derived.Lib.AtoiBound
import Derived.Maps.RangeRun
import Derived.Test.YtjpbdjhaajdepaaGreatDoorM02
import Derived.Test.YtjpbdjhaajdepaaGreatDoorM04
import Derived.Test.YtjpbdjhaajdepaaGreatDoorM06
import Derived.Test.YtjpbdjhaajdepaaGreatDoorM07
import Derived.Test.YtjpbdjhaajdepaaGreatDoorM13
import Derived.Test.YtjpbdjhaajdepaaGreatDoorM16
import Derived.Test.YtjpbdjhaajdepaaGreatDoorM17
import Derived.Test.YtjpbdjhaajdepaaGreatDoorM19
import Derived.Test.YtjpbdjhaajdepaaGreatDoorM20
set_option linter.unusedVariables false
set_option maxRecDepth 100000
namespace Go.Proofs.YtjpbdjhaajdepaaGreatDoor
open Go Go.Vc Tryz
theorem Ex{S:Sx}(h:S.bd.length=8)(x:Int):S.cells.toArray.setIfInBounds 4 (iv x)=({ S with ph:=x }:Sx).cells.toArray:=by
  obtain⟨o,ph,s,k,bd,dec,cnt,dig⟩:=S;obtain⟨b0,b1,b2,b3,b4,b5,b6,b7,rfl⟩:=bQ h;rfl
theorem RV{S:Sx}(h:S.bd.length=8)(x:Int):S.cells.toArray.setIfInBounds 98 (.int .u64 x)=({ S with dec:=x }:Sx).cells.toArray:=by
  obtain⟨o,ph,s,k,bd,dec,cnt,dig⟩:=S;obtain⟨b0,b1,b2,b3,b4,b5,b6,b7,rfl⟩:=bQ h;rfl
theorem RW{S:Sx}(h:S.bd.length=8){i:Nat}(hi:i<8){y:Bd}(hy:S.bd[i]? = some y):S.cells.toArray[10+i*11+9]? = some (.bool y.has):=by
  obtain⟨o,ph,s,k,bd,dec,cnt,dig⟩:=S;obtain⟨b0,b1,b2,b3,b4,b5,b6,b7,rfl⟩:=bQ h
  match i,hi with
  | 0,_ | 1,_ | 2,_ | 3,_ | 4,_ | 5,_ | 6,_ | 7,_=>cases hy; rfl
theorem dO{S:Sx}(h:S.bd.length=8):S.cells.toArray.size=101:=by simpa using Sx.len h
section
variable {w0 w:World} {b:Nat} {S:Sx} {m:List aI}
def mh(S:Sx)(e:Ev):Sx:=if e.kind=10 then { S with ph:=4,dec:=e.digest } else { S with ph:=3 }
theorem J7(s:St w0 w (Sep (ah b S.cells.toArray 112 :: m)))(h:S.bd.length=8)(e:Ev) :
    CP 75 #[.pointer (some ⟨b,0,none⟩),e.v] w (λ r w'=>r=iv 0/\St w0 w' (Sep (ah b (mh S e).cells.toArray 112 :: m))):=by
  refine nZ (u1:=e.want) ?_;unfold jz;refine s.aB e.cells.toArray λ r1 w1 s1=>s1.aJ 1 rfl (j:=4) (by rw[dO h]; omega) rfl λ w2 s2=>?_;rw[Ex h] at s2;have s2:St w0 w2 (Sep (ah r1 e.cells.toArray 45 :: ah b ({ S with ph:=3 }:Sx).cells.toArray 112 :: m)):=s2;refine⟨λ w3=>St w0 w3 (Sep (ah r1 e.cells.toArray 45 :: ah b (mh S e).cells.toArray 112 :: m)),λ w3 s3 _=>⟨rfl,s3.second⟩,_,s2.ag 0 rfl 0,?_⟩
  by_cases h10:e.kind=10
  · have h3:({ S with ph:=3 }:Sx).bd.length=8:=h;have h4:({ S with ph:=4 }:Sx).bd.length=8:=h;have s3:=s2.quiet (aF.drew w2 []);refine cT (by simpa using h10) ⟨_,s3.ag 0 rfl 10,s3.aJ 1 rfl (j:=4) (by rw[dO h3]; omega) rfl λ w4 s4=>?_⟩;rw[Ex h3] at s4;have s4:St w0 w4 (Sep (ah r1 e.cells.toArray 45 :: ah b ({ S with ph:=4 }:Sx).cells.toArray 112 :: m)):=s4;refine⟨s4.ag 0 rfl 10,s4.aJ 1 rfl (j:=98) (by rw[dO h4]; omega) rfl λ w5 s5=>?_⟩;rw[RV h4] at s5;rw[mh,if_pos h10];exact s5
  · exact cF (by simpa using h10) (by rw[mh,if_neg h10]; exact s2)
theorem F7(s:St w0 w (Sep (ah b S.cells.toArray 112 :: m)))(h:S.bd.length=8){e:Ev}{i:Nat}(hi:i<8)(he:e.bidder=i) :
    CP 72 #[.pointer (some ⟨b,0,none⟩),e.v] w (λ r w'=>((S.bd.getD i cv).has=false/\r=iv 6/\St w0 w' (Sep (ah b S.cells.toArray 112 :: m)))\/((S.bd.getD i cv).has=true/\r=iv 0/\St w0 w' (Sep (ah b (bn S i).cells.toArray 112 :: m)))):=by
  refine lK (u1:=e.want) ?_;unfold gX;have hy:S.bd[i]? = some (S.bd.getD i cv):=by rw[List.getD_eq_getElem?_getD,gE (by omega)]; rfl
  generalize S.bd.getD i cv=y at hy;refine s.aB e.cells.toArray λ r1 w1 s1=>?_;have s2:=s1.quiet (aF.drew w1 []);have c1:w1.drew.cell? ⟨r1,1,none⟩=some (iv i):=by rw[<- he]; exact s2.ag 0 rfl 1
  have c2:w1.drew.cell? (Addr.add (Addr.add ⟨b,10,none⟩ (((i:Nat):Int).toNat*11)) 9)=some (.bool y.has):=by
    rw[Sk,aV,s2.ag 1 rfl]; exact RW h hi hy
  refine⟨_,c1,by omega,by omega,_,c2,?_⟩
  cases hh:y.has with
  | false=>exact cT rfl (.inl ⟨rfl,rfl,s2.second⟩)
  | true =>
    refine cF rfl ⟨_,c1,au (Cy (s2.second) h hi) ?_⟩;rintro v w2 ⟨rfl,s3⟩;exact⟨rfl,.inr ⟨rfl,rfl,s3⟩⟩
end
def PV:List UInt8:=[112,114,111,100,117,99,116]
def PT:List UInt8:=[98,105,100,100,101,114]
def PU:List UInt8:=[99,97,112]
def PS:List UInt8:=[97,115,105,100,101]
def uf(s:List UInt8):Int:=if s=PV then 6 else if s=PT then 5 else if s=PU\/s=PS then 4 else 0
theorem O2(w:World)(s:List UInt8):CP 135 #[sv s] w (λ r w'=>r=iv (uf s)/\w' = w):=by
  refine zo ?_;unfold v7;rw[iV,iV,iV,iV,iV]
  by_cases h1:s=PV
  · exact cT (beq_iff_eq.2 h1) ⟨by rw[uf,if_pos h1],rfl⟩
  refine cF (beq_eq_false_iff_ne.2 h1) ?_
  by_cases h2:s=PT
  · exact cT (beq_iff_eq.2 h2) ⟨by rw[uf,if_neg h1,if_pos h2],rfl⟩
  refine cF (beq_eq_false_iff_ne.2 h2) ⟨λ b w1=>b=decide (s=PU\/s=PS)/\w1=w,?_,?_⟩
  · rintro w1 _ ⟨rfl,rfl⟩ -
    by_cases h3:s=PU\/s=PS
    · exact cT (dT h3) ⟨by rw[uf,if_neg h1,if_neg h2,if_pos h3],rfl⟩
    · exact cF (dF h3) ⟨by rw[uf,if_neg h1,if_neg h2,if_neg h3],rfl⟩
  · by_cases h3:s=PU
    · exact cT (beq_iff_eq.2 h3) ⟨by rw[dT (Or.inl h3)]; exact beq_iff_eq.2 h3,rfl⟩
    · refine cF (beq_eq_false_iff_ne.2 h3) ⟨?_,rfl⟩
      by_cases h4:s=PS
      · rw[dT (Or.inr h4)]; exact beq_iff_eq.2 h4
      · rw[dF (by rintro(h | h); exact h3 h; exact h4 h)]; exact beq_eq_false_iff_ne.2 h4
def strings_Split(a b:ByteArray)(w:World)(K:KP):Prop:=Calls prog 134 #[.string a,.string b,iv 0,iv (-1)] w λ a b=>∃ c d e,a=.returned (.slice c d e)/\K (.slice c d e) b
theorem vt{s1 s2 w K}(h:strings_Split s1 s2 w K):CP 110 #[.string s1,.string s2] w (K):=an (aH []) func110 (by kernel_rfl) (by kernel_rfl) h
abbrev sF (x:List UInt8):List Value:=[sv x]
theorem FQ(x:List UInt8):(sF x).length=1:=rfl
theorem FR{w:World}{a:OA}{l:List (List UInt8)}(h:cN 1 sF w a l){i:Nat}{x:List UInt8}(hi:l[i]? = some x):∃ q,a=some q/\w.cell? (Addr.add q (i*1))=some (sv x):=by
  obtain⟨q,hq,hc⟩:=h.at hi;have:=aU hc 0 _ rfl;rw[Nat.zero_add,Addr.add_add,Nat.add_zero] at this;exact⟨q,hq,this⟩
def bu(c:UInt8)(s:List UInt8):List (List UInt8):=(Lib.splitB (bs [c]) 0 (Lib.countB (bs s) (bs [c])) (bs s)).map λ b=>b.data.toList
theorem mJ(c:UInt8)(s:List UInt8):(bu c s).length=Lib.countB (bs s) (bs [c])+1:=by
  rw[bu,List.length_map,Lib.splitB_all (bs [c]) (by rw[hJ]; exact Nat.le_refl 1) 0 _ _ rfl]
theorem A3(c:UInt8)(s:List UInt8):(bu c s).length<=s.length+1:=by
  rw[mJ];have:=Lib.countB_le (bs [c]) (by rw[hJ]; exact Nat.le_refl 1) (bs s).size (bs s) (Nat.le_refl _);rw[hJ] at this;omega
theorem Hy(w:World)(c:UInt8)(s:List UInt8)(hs:s.length<=1000000):CP 110 #[sv s,sv [c]] w (λ r w'=>∃ g,r=.slice (some ⟨g,0,none⟩) (bu c s).length (bu c s).length/\St w w' (Sep [bY 9 1 sF (some ⟨g,0,none⟩) (bu c s).length (bu c s)])):=by
  refine vt ?_;unfold strings_Split;have h1:1<=(bs [c]).size:=by rw[hJ]; exact Nat.le_refl 1
  have hle:=Lib.countB_le (bs [c]) h1 (bs s).size (bs s) (Nat.le_refl _);have hlen:=Lib.splitB_all (bs [c]) h1 0 _ (bs s) rfl;have hz:(bs s).size=s.length:=hJ s;have hC:=Tryz.strings_Count_one (bs s) c w;have k:=Any.strings_genSplit_core Tryz.NT (by kernel_rfl) (bs s) (bs [c]) 0 (-1) (Lib.countB (bs s) (bs [c])+1) w (by omega) h1 (Nat.zero_le _)
    (λ x cs _=>(Tryz.strings_Index_one x c _).mono λ e w' ⟨he,hw⟩=>⟨by rw[he]; show _=Ending.returned (Value.int .i64 (Lib.index x.data.toList [c])); rw[Lib.index_one],hw⟩) ?_ (by decide) (by decide) (by rw[if_pos (by decide)]; omega)
  · rw[Nat.add_sub_cancel,hlen] at k;have e2:Lib.cellsOf (Lib.splitB (bs [c]) 0 (Lib.countB (bs s) (bs [c])) (bs s)) (Lib.countB (bs s) (bs [c])+1)=((Lib.splitB (bs [c]) 0 (Lib.countB (bs s) (bs [c])) (bs s)).map Value.string).toArray:=by rw[<- hlen]; exact Lib.cellsOf_full _
    rw[e2] at k;refine Calls.mono k ?_;rintro e w' ⟨rfl,rfl⟩;refine⟨_,_,_,rfl,w.heap.size,by rw[mJ],?_⟩;have s1:=(St.start w).one.cD ((Lib.splitB (bs [c]) 0 (Lib.countB (bs s) (bs [c])) (bs s)).map Value.string).toArray 9;have e3:(((Lib.splitB (bs [c]) 0 (Lib.countB (bs s) (bs [c])) (bs s)).map Value.string).toArray:Array Value).toList=(bu c s).flatMap sF:=by
      rw[bu,List.flatMap_map]
      induction Lib.splitB (bs [c]) 0 (Lib.countB (bs s) (bs [c])) (bs s) with
      | nil=>rfl
      | cons b l ih=>simp only[List.map_cons,List.flatMap_cons] at ih ⊢; rw[<- ih,sF,sv,<- Sw]; rfl
    refine(s1.aA [0]).weak (bP.left ?_);rintro w' F ⟨h,hF⟩;have hm:(bu c s).length<=maxLen:=by rw[mJ]; unfold maxLen; omega
    exact⟨F,⟨yT FQ h e3 hm,by rw[hF]; simp[Value.ownBlock]⟩,λ _ h=>h⟩
  · refine Calls.mono hC ?_;rintro e w' ⟨rfl,hw⟩;refine⟨?_,hw⟩;show _=Ending.returned (Value.int .i64 ((Lib.count (bs s).data.toList [c]:Nat):Int));rw[Lib.count_one]; rfl
theorem aF.M7(w:World)(b o n:Nat):aF w (w.freeze ⟨b,o,none⟩ n) [b]:=by
  unfold World.freeze
  split
  · exact aF.refl _ _
  · refine⟨by simp,λ i _ hi=>?_,⟨rfl,rfl,rfl⟩⟩;simp only[List.mem_singleton] at hi;rw[Array.getElem?_modify,if_neg (λ h=>hi h.symm)]
theorem HX(w:World)(e:TypeId)(t:ByteArray):aF w (Lib.bytesWorld w e t) []:=by
  unfold Lib.bytesWorld;have c1:aF w w.drew []:=aF.drew w [];refine(c1.trans (aF.new _ _ []) (by simp)).trans (aF.M7 _ _ _ _) ?_;intro i hi;simp at hi; subst hi;exact .inr (Nat.le_refl _)
def CZ(l:List UInt8):Bool:=l.all λ c=>wF (un c)
def Ll(l:List UInt8):Int:=(Lib.atoi l).getD 0
def fN(l:List UInt8):Int×Int:=if CZ l=false\/l=[]\/(l.head? = some 48/\1<l.length) then (0,2) else if 9<l.length then (0,4) else (Ll l,0)
theorem vH:∀ (l:List UInt8) (acc:Nat),CZ l=true->∃ n,Lib.decFrom acc l=some n
  | [],acc,_=>⟨acc,rfl⟩
  | b :: l,acc,h=>by
    unfold CZ at h;rw[List.all_cons,Bool.and_eq_true] at h;have h1:48<=b.toNat/\b.toNat<=57:=by
      have h2:48<=un b/\un b<=57:=by simpa[wF] using h.1
      unfold un at h2;omega
    rw[Lib.decFrom,Lib.digitVal,if_pos h1];exact vH l _ h.2
theorem Jy{l:List UInt8}(h:CZ l=true)(h0:l≠[]):∃ n,Lib.atoi l=some n:=by
  cases l with
  | nil=>exact absurd rfl h0
  | cons b l =>
    obtain⟨n,hn⟩:=vH (b :: l) 0 h;unfold CZ at h;rw[List.all_cons,Bool.and_eq_true] at h;have h1:48<=un b/\un b<=57:=by simpa[wF] using h.1
    have hb:(b==45)=false:=by rw[beq_eq_false_iff_ne]; rintro rfl; revert h1; decide
    have hb2:(b==43)=false:=by rw[beq_eq_false_iff_ne]; rintro rfl; revert h1; decide
    have hd:Lib.decNat (b :: l)=some n:=by rw[Lib.decNat]; exact hn
    rw[Lib.atoi,hb,hb2,hd];exact⟨_,rfl⟩
theorem Oz{l:List UInt8}(hl:l.length<=18):In (Ll l):=by
  unfold Ll
  cases h:Lib.atoi l with
  | none=>exact⟨by decide,by decide⟩
  | some n =>
    have:=Lib.atoi_bound h hl;show In n;exact⟨by omega,by omega⟩
theorem I0(w:World){l:List UInt8}(hl:l.length<=1000000):CP 174 #[sv l] w (λ r w'=>r=.tuple #[iv (fN l).1,iv (fN l).2]/\aF w w' []):=by
  refine wV ?_;unfold tU;refine⟨λ i w1 m=>∃ k:Nat,i=k/\k<=l.length/\m=l.length-k/\CZ (l.take k)=true/\aF w w1 [],⟨l.length,0,rfl,by omega,by omega,rfl,aF.refl _ _⟩,?_⟩;rintro w1 m i ⟨k,rfl,hk,hm,ha,hc⟩ -
  by_cases hlt:k<l.length
  · have hx:l[k]? = some (l[k]'hlt):=gE hlt;generalize l[k]'hlt=c at hx;refine cT (by rw[hJ]; exact dT (by omega)) ⟨λ b w2=>b = !wF (un c)/\aF w w2 [],?_,by omega,?_⟩
    · rintro w2 b ⟨rfl,c2⟩ -
      cases hd:wF (un c) with
      | false =>
        have:CZ l=false:=List.all_eq_false.2 ⟨c,List.mem_of_getElem? hx,by simp[hd]⟩;exact cT rfl ⟨by rw[fN,if_pos (.inl this)],c2⟩
      | true =>
        refine cF rfl ⟨l.length-(k+1),by omega,k+1,aG ⟨by omega,by omega⟩,by omega,rfl,?_,c2⟩;unfold CZ at ha ⊢;rw[aO hx,List.all_append,ha]; simp[hd]
    · rw[Int.toNat_natCast,lY,hx];have hlt8:=c.toNat_lt
      by_cases h1:(c.toNat:Int)<48
      · exact cT (dT h1) ⟨by rw[wF,un,dF (by omega)]; rfl,hc⟩
      · refine cF (dF h1) ⟨by omega,?_⟩;refine⟨?_,hc⟩
        by_cases h2:(c.toNat:Int)>57
        · rw[dT h2,wF,un,dT (show(48:Int)<=(c.toNat:Int) by omega),dF (show ¬ (c.toNat:Int)<=57 by omega)]; rfl
        · rw[dF h2,wF,un,dT (show(48:Int)<=(c.toNat:Int) by omega),dT (show(c.toNat:Int)<=57 by omega)]; rfl
  · obtain rfl:k=l.length:=by omega
    rw[List.take_length] at ha;refine cF (by rw[hJ]; exact dF (by omega)) ⟨λ b w2=>b=decide (l=[]\/(l.head? = some 48/\1<l.length))/\aF w w2 [],?_,?_⟩
    · rintro w2 b ⟨rfl,c2⟩ -
      by_cases hb:l=[]\/(l.head? = some 48/\1<l.length)
      · exact cT (dT hb) ⟨by rw[fN,if_pos (.inr hb)],c2⟩
      · refine cF (dF hb) ?_;have e1:fN l=if 9<l.length then (0,4) else (Ll l,0):=by
          rw[fN,if_neg];rintro(h | h)
          · rw[ha] at h; cases h
          · exact hb h
        by_cases h9:9<l.length
        · exact cT (by rw[hJ]; exact dT (by omega)) ⟨by rw[e1,if_pos h9],c2⟩
        · rw[if_neg h9] at e1;obtain⟨n,hn⟩:=Jy ha (λ h=>hb (.inl h));refine cF (by rw[hJ]; exact dF (by omega)) ((Tryz.strconv_Atoi (bs l) n (by rw[hJ]; omega) hn w2).mono ?_);rintro e w3 ⟨rfl,t,rfl⟩;refine⟨_,_,rfl,?_,c2.trans (HX _ _ _) (by simp)⟩;rw[e1,Ll,hn]; rfl
    · cases l with
      | nil=>exact cT (by rw[iV]; rfl) ⟨by decide,hc⟩
      | cons c l =>
        refine cF (by rw[iV,iV]; rfl) ⟨by decide,?_⟩;show cond ((c.toNat:Int)==48) _ _
        by_cases h48:c=48
        · subst h48;refine cT rfl ⟨?_,hc⟩;rw[hJ]
          by_cases h1:1<(48 :: l:List UInt8).length
          · rw[dT (show(((48 :: l:List UInt8).length:Nat):Int)>1 by omega),dT (Or.inr ⟨rfl,h1⟩)]
          · rw[dF (show ¬ (((48 :: l:List UInt8).length:Nat):Int)>1 by omega),dF (by rintro(h | h); cases h; exact h1 h.2)]
        · refine cF (beq_eq_false_iff_ne.2 λ h=>h48 (UInt8.toNat_inj.1 (by show c.toNat=48; omega))) ⟨?_,hc⟩;rw[dF];rintro(h | h)
          · cases h
          · exact h48 (by simpa using h.1)
def oR:List (List UInt8)->Int
  | []=>0
  | x :: l=>if (fN x).2≠0 then (fN x).2 else oR l
theorem D0:∀ {l:List (List UInt8)} {k:Nat} {x:List UInt8},(∀ y∈l.take k,(fN y).2=0)->l[k]? = some x->oR l=if (fN x).2≠0 then (fN x).2 else oR (l.drop (k+1))
  | y :: l,0,x,_,hx=>by cases hx; rfl
  | y :: l,k+1,x,h,hx=>by
    rw[oR,if_neg (by simpa using h y (by simp))];exact D0 (λ z hz=>h z (by simp[hz])) (by simpa using hx)
theorem AG:∀ {l:List (List UInt8)},(∀ y∈l,(fN y).2=0)->oR l=0
  | [],_=>rfl
  | y :: l,h=>by rw[oR,if_neg (by simpa using h y (by simp))]; exact AG λ z hz=>h z (by simp[hz])
theorem FY{w:World}{a:OA}{c:Nat}{l:List (List UInt8)}(hr:cN 1 sF w a l)(hl:l.length<=100000)(hx:∀ x∈l,x.length<=1000000) :
    CP 137 #[.slice a l.length c] w (λ r w'=>(oR l≠0/\r=.tuple #[.slice none 0 0,iv (oR l)]/\aF w w' [])\/(oR l=0/\∃ a' c',r=.tuple #[.slice a' l.length c',iv 0]/\St w w' (Sep [bY 3 1 i1 a' c' (l.map λ x=>(fN x).1)]))):=by
  refine vn ?_;unfold qW;refine⟨λ a2 n2 c2 i w1 m=>∃ k:Nat,i=k/\k<=l.length/\m=l.length-k/\n2=k/\(∀ y∈l.take k,(fN y).2=0)/\St w w1 (Sep [bY 3 1 i1 a2 c2 ((l.take k).map λ x=>(fN x).1)]),⟨l.length,0,rfl,by omega,by omega,rfl,by simp,(St.start w).dI⟩,?_⟩;rintro w1 m a2 n2 c2 i ⟨k,rfl,hk,hm,hn2,ha,s1⟩ -;have hn3:=hn2.symm;subst hn3
  by_cases hlt:(k:Int)<(l.length:Int)
  · have hxk:l[k]? = some (l[k]'(by omega)):=gE (by omega);generalize l[k]'(by omega)=x at hxk;obtain⟨q,hq,hc⟩:=FR (hr.aC s1.aC) hxk;have e1:=D0 ha hxk;refine cT (dT hlt) (aq hq ⟨by omega,by omega,_,hc,au (I0 w1 (hx x (List.mem_of_getElem? hxk))) ?_⟩);rintro v w2 ⟨rfl,c3⟩;have s2:=s1.quiet c3;refine⟨_,_,rfl,?_⟩
    by_cases h0:(fN x).2=0
    · refine cF (by simpa using h0) ?_;have e2:(l.take (k+1)).map (λ x=>(fN x).1)=(l.take k).map (λ x=>(fN x).1)++[(fN x).1]:=by rw[aO hxk,List.map_append]; rfl
      have hl2:((l.take k).map λ x=>(fN x).1).length=k:=by rw[List.length_map,List.length_take]; omega
      have:=dr (ty:=30) (x:=(fN x).1) (l:=(l.take k).map λ x=>(fN x).1) RJ bS (yD _) s2 (by rw[hl2]; omega) (by rw[hl2]; omega) (R:=λ a3 l3 c3 w4=>∃ m2,m2<l.length-k/\∃ k' : Nat,IntKind.i64.wrap ((k:Int)+1)=(k' : Int)/\k'<=l.length/\m2=l.length-k'/\l3=k'/\(∀ y∈l.take k',(fN y).2=0)/\St w w4 (Sep [bY 3 1 i1 a3 c3 ((l.take k').map λ x=>(fN x).1)])) (λ a' c' w' s'=>⟨l.length-(k+1),by omega,k+1,aG ⟨by omega,by omega⟩,by omega,rfl,by rw[List.length_append,hl2]; rfl,λ y hy=>?_,by rw[e2]; exact s'⟩) rfl
      · rw[hl2] at this;rw[hm];exact this
      · rw[aO hxk] at hy;rcases List.mem_append.1 hy with h | h
        · exact ha y h
        · rw[List.mem_singleton.1 h]; exact h0
    · rw[if_pos h0] at e1;exact cT (by simpa using h0) (.inl ⟨by rw[e1]; exact h0,by rw[e1],s2.aC⟩)
  · obtain rfl:k=l.length:=by omega
    rw[List.take_length] at ha s1;exact cF (dF hlt) (.inr ⟨AG ha,a2,c2,rfl,s1⟩)
def sZ(l:List Br)(nm:List UInt8):Int×Bool:=(((l.findIdx? λ p=>p.nm==nm).map λ k=>(k:Int)).getD 0,l.any λ p=>p.nm==nm)
theorem Lc{w:World}{a:OA}{c:Nat}{l:List Br}(h:kE w a l)(hl:l.length<=100000)(nm:List UInt8) :
    CP 173 #[.slice a l.length c,sv nm] w (λ r w'=>r=.tuple #[iv (sZ l nm).1,.bool (sZ l nm).2]/\aF w w' []):=by
  refine AK ?_;unfold FE;refine⟨λ n w1 m=>∃ k:Nat,n=k/\k<=l.length/\m=l.length-k/\(l.take k).any (λ p=>p.nm==nm)=false/\aF w w1 [],⟨l.length,0,rfl,by omega,by omega,rfl,aF.refl _ _⟩,?_⟩;rintro w1 m n ⟨k,rfl,hk,hm,ha,hc⟩ -
  by_cases hlt:(k:Int)<(l.length:Int)
  · have hx:l[k]? = some (l[k]'(by omega)):=gE (by omega);generalize l[k]'(by omega)=x at hx;obtain⟨_,q,rfl,hcl⟩:=(h.aC hc) k x hx;refine cT (by simpa using hlt) ⟨by omega,by omega,_,_,_,_,hcl,(St.start' hc).one.aB _ λ r1 w2 s2=>s2.aD 0 rfl x.cells rfl x.one λ w3 s3=>?_⟩;refine⟨_,by rw[s3.ag 0 rfl]; rfl,?_⟩
    by_cases hn:x.nm=nm
    · refine cT (by rw[hn]; simp) ⟨?_,s3.aC⟩;have hp:(λ p:Br=>p.nm==nm) x=true:=by simpa using hn
      rw[sZ,oE hx hp ha,jL hx hp]; rfl
    · exact cF (by rw[iV,iV]; simpa using hn) ⟨l.length-(k+1),by omega,k+1,by rw[aG ⟨by omega,by omega⟩]; rfl,by omega,rfl,gD ha hx (by simpa using hn),s3.aC⟩
  · refine cF (by simpa using hlt) ⟨?_,hc⟩;rw[List.take_of_length_le (by omega)] at ha;rw[sZ,mj ha,ha]; rfl
def gR(S:Se)(h nm:List UInt8):Int×Int :=
  if h=PV\/h=PT then (0,if fH nm then 0 else 5)
  else if h=PU then (if nm=[42] then (-1,0) else if (sZ S.bd nm).2 then ((sZ S.bd nm).1,0) else (0,6))
  else if h=PS then (if (dB S.ps nm).2 then ((dB S.ps nm).1,0) else (0,6))
  else (-1,0)
theorem Lv{w:World}{S:Se}(hS:S.In w)(h1:S.ps.length<=100000)(h2:S.bd.length<=100000)(h nm:List UInt8) :
    CP 136 #[.agg S.arr,sv h,sv nm] w (λ r w'=>r=.tuple #[iv (gR S h nm).1,iv (gR S h nm).2]/\aF w w' []):=by
  refine zm ?_;unfold vZ;refine(St.start w).one.aB S.arr λ r1 w1 s1=>?_;refine⟨λ n b w2=>((b=false/\gR S h nm=(0,6))\/(b=true/\gR S h nm=(n,0)))/\aF w w2 [],?_,?_⟩
  · rintro w2 n b ⟨(⟨rfl,e⟩ | ⟨rfl,e⟩),c2⟩ -
    · exact cT rfl ⟨by rw[e],c2⟩
    · exact cF rfl ⟨by rw[e],c2⟩
  refine⟨λ b w3=>b=decide (h=PV\/h=PT)/\w3=w1,?_,?_⟩
  · rintro w3 b ⟨rfl,rfl⟩ -
    by_cases g1:h=PV\/h=PT
    · have e1:gR S h nm=(0,if fH nm then 0 else 5):=by rw[gR,if_pos g1]
      refine cT (dT g1) (au (yE w3 nm) ?_);rintro v w4 ⟨rfl,rfl⟩;refine⟨_,rfl,?_⟩
      cases hn:fH nm with
      | true=>exact cF rfl ⟨by rw[e1,hn]; rfl,s1.aC⟩
      | false=>exact cT rfl ⟨by rw[e1,hn]; rfl,s1.aC⟩
    · refine cF (dF g1) ?_;rw[iV,iV,iV,iV,iV]
      by_cases g2:h=PU
      · have e2:gR S h nm=if nm=[42] then (-1,0) else if (sZ S.bd nm).2 then ((sZ S.bd nm).1,0) else (0,6):=by rw[gR,if_neg g1,if_pos g2]
        refine cT (beq_iff_eq.2 g2) ?_
        by_cases g3:nm=[42]
        · exact cF (by rw[g3]; rfl) ⟨.inr ⟨rfl,by rw[e2,if_pos g3]⟩,s1.aC⟩
        · rw[if_neg g3] at e2;refine cT (by rw[beq_eq_false_iff_ne.2 g3]; rfl) ⟨_,_,_,s1.ag 0 rfl 1,au (Lc (hS.aC s1.aC).bd h2 nm) ?_⟩;rintro v w5 ⟨rfl,c5⟩;refine⟨_,_,rfl,?_,(s1.quiet c5).aC⟩
          cases hf:(sZ S.bd nm).2 with
          | true=>exact .inr ⟨rfl,by rw[e2,hf]; rfl⟩
          | false=>exact .inl ⟨rfl,by rw[e2,hf]; rfl⟩
      · refine cF (beq_eq_false_iff_ne.2 g2) ?_
        by_cases g4:h=PS
        · have e2:gR S h nm=if (dB S.ps nm).2 then (((dB S.ps nm).1:Int),0) else (0,6):=by rw[gR,if_neg g1,if_neg g2,if_pos g4]
          refine cT (beq_iff_eq.2 g4) ⟨_,_,_,s1.ag 0 rfl 0,au (Gz (hS.aC s1.aC).ps h1 nm) ?_⟩;rintro v w5 ⟨rfl,c5⟩;refine⟨_,_,rfl,?_,(s1.quiet c5).aC⟩
          cases hf:(dB S.ps nm).2 with
          | true=>exact .inr ⟨rfl,by rw[e2,hf]; rfl⟩
          | false=>exact .inl ⟨rfl,by rw[e2,hf]; rfl⟩
        · exact cF (beq_eq_false_iff_ne.2 g4) ⟨.inr ⟨rfl,by rw[gR,if_neg g1,if_neg g2,if_neg g4]⟩,s1.aC⟩
  · rw[iV,iV,iV]
    by_cases g1:h=PV
    · exact cT (beq_iff_eq.2 g1) ⟨by rw[dT (Or.inl g1)]; exact beq_iff_eq.2 g1,rfl⟩
    · refine cF (beq_eq_false_iff_ne.2 g1) ⟨?_,rfl⟩
      by_cases g2:h=PT
      · rw[dT (Or.inr g2)]; exact beq_iff_eq.2 g2
      · rw[dF (by rintro(h | h); exact g1 h; exact g2 h)]; exact beq_eq_false_iff_ne.2 g2
end Go.Proofs.YtjpbdjhaajdepaaGreatDoor
namespace Go.Vc
open Go
abbrev mz (u:I6):Value:=.agg u.vs.toArray
structure Si (P:Program) (t kt et:TypeId):Prop where
  u:P.underlying t=some (.map kt et)
  k:∃ it,P.underlying kt=some (.array 6 it)
  z:(P.info? et).bind (·.zero)=some (iv 0)
  eq:∀ u v:I6,Me P 12 kt (mz u) (mz v)=some (I6.beq u v)
  ck:∀ (b:Bool) (u:I6) (w:World),(Instr.checkKey b 10000 kt (mz u)).run P w=.ok () w
abbrev KV:=I6×Int
def kvs(es:List MapEntry):List (Value×Value):=es.map λ e=>(e.key,e.val)
def Fl(l:List KV):List (Value×Value):=l.map λ p=>(mz p.1,iv p.2)
structure CU (es:List MapEntry) (cl:Nat) (l:List KV):Prop where
  kv:kvs es=Fl l
  nd:(es.map (·.born)).Nodup
  lt:∀ e∈es,e.born<cl
  ky:(l.map (·.1)).Nodup
def mapA(r:Nat)(l:List KV):aI:=Sd λ (x:{ p:Array MapEntry×Nat // CU p.1.toList p.2 l })=>bC r (.map x.1.1 x.1.2)
def jB(l:List KV)(u:I6):Option Int:=(l.find? λ p=>p.1==u).map (·.2)
section
variable {P:Program} {t kt et:TypeId} {w0 w:World} {B:aI} {r:Nat} {l:List KV}
theorem Jx(eq:∀ u v:I6,Me P 12 kt (mz u) (mz v)=some (I6.beq u v))(u:I6)(w:World):∀ (es:List MapEntry) (l:List KV) (i:Nat),kvs es=Fl l ->
    (∃ v j,jB l u=some v/\(Instr.findAsking kt (mz u) es i).run P w=.ok (some (i+j,iv v)) w/\∃ e,es[j]? = some e/\e.key=mz u/\l[j]? = some (u,v)) \/
      (jB l u=none/\(Instr.findAsking kt (mz u) es i).run P w=.ok none w)
  | [],[],i,_=>.inr ⟨rfl,by simp[Instr.findAsking]⟩
  | e :: es,p :: l,i,h=>by
    simp only[kvs,Fl,List.map_cons,List.cons.injEq,Prod.mk.injEq] at h;obtain⟨⟨hk,hv⟩,hr⟩:=h;have he:(Op.equal kt (mz u) e.key).run P w=.ok (I6.beq u p.1) w:=by rw[hk]; exact BI 12 kt _ _ _ Op.maxDepth (eq u p.1) (by decide)
    have hb:I6.beq u p.1=(p.1==u):=by
      rw[I6.beq_eq]
      by_cases h:u=p.1
      · rw[decide_eq_true h,h]; simp
      · rw[decide_eq_false h]; symm; simpa using λ h'=>h h'.symm
    by_cases hu:p.1=u
    · have hbt:I6.beq u p.1=true:=by rw[hb,hu]; simp
      rw[hbt] at he;refine .inl ⟨p.2,0,?_,?_,e,rfl,by rw[hk,hu],?_⟩
      · simp[jB,hu]
      · rw[Instr.findAsking]; simp[he,hv]
      · obtain⟨a,b⟩:=p; simp only at hu ⊢; subst hu; rfl
    · have hbf:I6.beq u p.1=false:=by rw[hb]; simpa using hu
      rw[hbf] at he;have hv' : jB (p :: l) u=jB l u:=by
        unfold jB;rw[List.find?_cons];have:(p.1==u)=false:=by simpa using hu
        rw[this]
      rcases Jx eq u w es l (i+1) hr with⟨v,j,h1,h2,e',h3,h4,h5⟩ | ⟨h1,h2⟩
      · refine .inl ⟨v,j+1,by rw[hv',h1],?_,e',by simpa using h3,h4,by simpa using h5⟩;rw[Instr.findAsking]; simp[he,h2]; omega
      · exact .inr ⟨by rw[hv',h1],by rw[Instr.findAsking]; simp[he,h2]⟩
  | [],_ :: _,_,h=>by simp[kvs,Fl] at h
  | _ :: _,[],_,h=>by simp[kvs,Fl] at h
theorem Ds(hT:Si P t kt et)(u:I6)(w:World){es:List MapEntry}(h:kvs es=Fl l) :
    (∃ v j,jB l u=some v/\(Instr.findKey kt (mz u) es).run P w=.ok (some (j,iv v)) w/\∃ e,es[j]? = some e/\e.key=mz u/\l[j]? = some (u,v))\/(jB l u=none/\(Instr.findKey kt (mz u) es).run P w=.ok none w):=by
  obtain⟨it,hk⟩:=hT.k;have hf:(Instr.findKey kt (mz u) es).run P w=(Instr.findAsking kt (mz u) es).run P w:=by
    cases es with
    | nil=>simp[Instr.findKey,aE hk,Instr.findNow,Instr.findAsking]
    | cons e es=>simp[Instr.findKey,aE hk,Instr.findNow,Instr.sameNow]
  rw[hf];rcases Jx hT.eq u w es l 0 h with⟨v,j,h1,h2,h3⟩ | h1
  · exact .inl ⟨v,j,h1,by rw[h2,Nat.zero_add],h3⟩
  · exact .inr h1
theorem DT(hT:Si P t kt et)(s:St w0 w (star (mapA r l) B))(u:I6){R:Int->World->Prop}(h:R ((jB l u).getD 0) w) :
    bg P (Instr.lookup t (.map (some r)) (mz u) false) w λ e w'=>∃ n:Int,e=iv n/\R n w':=by
  obtain⟨⟨⟨es,cl⟩,hok⟩,s'⟩:=s.ex;have ho:w.heap[r]? = some (.map es cl):=s'.obj;have hz:(zeroValue et).run P w=.ok (iv 0) w:=by
    have:=hT.z
    cases hi:P.info? et with
    | none=>simp[hi] at this
    | some i=>simp[hi] at this; simp[zeroValue,typeInfo,hi,this]
  have hc:=hT.ck es.isEmpty u w;rcases Ds hT u w hok.kv with⟨v,j,h1,h2,_⟩ | ⟨h1,h2⟩
  · refine⟨iv v,w,?_,v,rfl,by rwa [h1] at h⟩;simp[Instr.lookup,aE hT.u,ho,hc,h2,getObj,Sem.run]
  · refine⟨iv 0,w,?_,0,rfl,by rwa [h1] at h⟩;simp[Instr.lookup,aE hT.u,ho,hc,h2,hz,getObj,Sem.run]
def wU(l:List KV)(u:I6)(v:Int):List KV:=if (jB l u).isSome then l.map λ p=>if p.1=u then (u,v) else p else l++[(u,v)]
theorem OE{l:List KV}(hn:(l.map (·.1)).Nodup){u:I6}{v v0:Int}{j:Nat}(hj:l[j]? = some (u,v0)):l.map (λ p=>if p.1=u then (u,v) else p)=l.set j (u,v):=by
  have hlt:=(List.getElem?_eq_some_iff.1 hj).1;refine List.ext_getElem? λ i=>?_;rw[List.getElem?_map,List.getElem?_set]
  by_cases e:j=i
  · subst e; rw[if_pos rfl,if_pos hlt,hj]; simp
  · rw[if_neg e]
    cases hi:l[i]? with
    | none=>rfl
    | some p =>
      have hil:=(List.getElem?_eq_some_iff.1 hi).1;have hne:p.1≠u:=λ h=>by
        have h1:(l.map (·.1))[j]? = some u:=by rw[List.getElem?_map,hj]; rfl
        have h2:(l.map (·.1))[i]? = some u:=by rw[List.getElem?_map,hi]; simp[h]
        exact e ((List.getElem?_inj (by simpa using hlt) hn).1 (h1.trans h2.symm))
      simp[hne]
theorem Ba{l:List KV}{u:I6}(h:jB l u=none):∀ p∈l,p.1≠u:=λ p hp e=>by
  unfold jB at h;rw[Option.map_eq_none_iff,List.find?_eq_none] at h;exact h p hp (by simpa using e)
theorem L3{l:List KV}(hn:(l.map (·.1)).Nodup){p:KV}(hp:p∈l):jB l p.1=some p.2:=by
  induction l with
  | nil=>cases hp
  | cons q l ih =>
    simp only[List.map_cons,List.nodup_cons] at hn;unfold jB;rw[List.find?_cons];rcases List.mem_cons.1 hp with rfl | h
    · simp
    · have hne:q.1≠p.1:=λ e=>hn.1 (by rw[e]; exact List.mem_map_of_mem h);have:(q.1==p.1)=false:=by simpa using hne
      rw[this];exact ih hn.2 h
theorem Bb{l:List KV}{u:I6}{v:Int}(h:jB l u=some v):(u,v)∈l:=by
  unfold jB at h;rw[Option.map_eq_some_iff] at h;obtain⟨p,h1,h2⟩:=h;have hm:=List.mem_of_find?_eq_some h1;have hu:=List.find?_some h1;obtain⟨a,b⟩:=p;simp only[beq_iff_eq] at hu;simp only at h2;subst hu h2; exact hm
theorem L4(l:List KV)(u x:I6)(v:Int):jB (wU l u v) x=if x=u then some v else jB l x:=by
  unfold wU
  cases hs:jB l u with
  | none =>
    have hn:=Ba hs;rw[if_neg (by simp)];unfold jB;rw[List.find?_append]
    by_cases hx:x=u
    · subst hx;have:l.find? (λ p=>p.1==x)=none:=by rw[List.find?_eq_none]; intro p hp; simpa using hn p hp
      rw[this]; simp
    · rw[if_neg hx];have:(u==x)=false:=by simpa using λ h=>hx h.symm
      simp[this]
  | some v0 =>
    rw[if_pos (show(some v0).isSome=true from rfl)];have hm:=Bb hs;clear hs;unfold jB
    by_cases hx:x=u
    · subst hx;rw[if_pos rfl]
      induction l with
      | nil=>cases hm
      | cons q l ih =>
        rw[List.map_cons,List.find?_cons]
        by_cases hq:q.1=x
        · simp[hq]
        · have:(q.1==x)=false:=by simpa using hq
          simp only[if_neg hq,this];refine ih ?_;rcases List.mem_cons.1 hm with rfl | h
          · exact absurd rfl hq
          · exact h
    · rw[if_neg hx];clear hm
      induction l with
      | nil=>rfl
      | cons q l ih =>
        rw[List.map_cons,List.find?_cons,List.find?_cons]
        by_cases hq:q.1=u
        · have h1:(u==x)=false:=by simpa using λ h=>hx h.symm
          have h2:(q.1==x)=false:=by rw[hq]; exact h1
          simp only[if_pos hq,h1,h2]; exact ih
        · simp only[if_neg hq]
          cases h:(q.1==x) with
          | true=>rfl
          | false=>exact ih
theorem IX(u:I6):Instr.sameBits 10000 (mz u) (mz u)=true:=by
  rw[show(10000:Nat)=9998+1+1 from rfl];simp[Instr.sameBits,I6.vs]
theorem Oj(hT:Si P t kt et)(s:St w0 w (star (mapA r l) B))(u:I6)(v:Int){R:World->Prop}(h:∀ w',St w0 w' (star (mapA r (wU l u v)) B)->R w') :
    bg P (Instr.mapUpdate t (.map (some r)) (mz u) (iv v)) w λ _ w'=>R w':=by
  obtain⟨⟨⟨es,cl⟩,hok⟩,s'⟩:=s.ex;have ho:w.heap[r]? = some (.map es cl):=s'.obj;have hc:=hT.ck false u w;rcases Ds hT u w hok.kv with⟨v0,j,h1,h2,e0,h3,h4,h5⟩ | ⟨h1,h2⟩
  · have hj:=(List.getElem?_eq_some_iff.1 h3).1;have hes:es[j]? = some e0:=by simpa using h3
    have hs:=s'.put (.map (es.modify j λ e=>{ e with key:=mz u,val:=iv v }) cl);have hr:(Instr.mapUpdate t (.map (some r)) (mz u) (iv v)).run P w=.ok () { w with heap:=w.heap.setIfInBounds r (.map (es.modify j λ e=>{ e with key:=mz u,val:=iv v }) cl) }:=by
      simp[Instr.mapUpdate,aE hT.u,ho,hc,h2,hes,h4,Instr.keyThatStays,IX,setObj,getObj,Sem.run]
    suffices H:CU (es.modify j λ e=>{ e with key:=mz u,val:=iv v }).toList cl (wU l u v) from
      ⟨_,_,hr,h _ (St.yP (f:=λ (x:{ p:Array MapEntry×Nat // CU p.1.toList p.2 (wU l u v) })=>bC r (.map x.1.1 x.1.2)) ⟨(_,_),H⟩ hs)⟩
    have esl:wU l u v=l.set j (u,v):=by rw[wU,if_pos (by rw[h1]; rfl),OE hok.ky h5]
    have em:(es.modify j λ e=>{ e with key:=mz u,val:=iv v }).toList=es.toList.set j { e0 with key:=mz u,val:=iv v }:=by
      rw[Array.toList_modify];refine List.ext_getElem? λ i=>?_;rw[List.getElem?_modify,List.getElem?_set]
      by_cases e:j=i
      · subst e; rw[if_pos rfl,if_pos hj,h3]; simp
      · rw[if_neg e]; cases es.toList[i]? <;> simp[e]
    rw[em,esl];have hkv:=hok.kv;refine⟨?_,?_,?_,?_⟩
    · unfold kvs Fl at hkv ⊢;rw[List.map_set,List.map_set,hkv]
    · rw[List.map_set];have:(es.toList.map (·.born)).set j e0.born=es.toList.map (·.born):=by
        refine List.ext_getElem? λ i=>?_;rw[List.getElem?_set]
        split
        · rename_i e; subst e; rw[List.getElem?_map,h3,if_pos (by rw[List.length_map]; exact hj)]; rfl
        · rfl
      show((es.toList.map (·.born)).set j e0.born).Nodup;rw[this]; exact hok.nd
    · intro e he;rcases List.mem_or_eq_of_mem_set he with he | rfl
      · exact hok.lt e he
      · exact hok.lt e0 (List.mem_of_getElem? h3)
    · rw[List.map_set];have:(l.map (·.1)).set j u=l.map (·.1):=by
        refine List.ext_getElem? λ i=>?_;rw[List.getElem?_set]
        split
        · rename_i e; subst e;have:=(List.getElem?_eq_some_iff.1 h5).1;rw[List.getElem?_map,h5]; simp[this]
        · rfl
      show((l.map (·.1)).set j u).Nodup;rw[this]; exact hok.ky
  · have hs:=s'.put (.map (es.push { key:=mz u,val:=iv v,born:=cl }) (cl+1));have hr:(Instr.mapUpdate t (.map (some r)) (mz u) (iv v)).run P w=.ok () { w with heap:=w.heap.setIfInBounds r (.map (es.push { key:=mz u,val:=iv v,born:=cl }) (cl+1)) }:=by
      simp[Instr.mapUpdate,aE hT.u,ho,hc,h2,setObj,getObj,Sem.run]
    suffices H:CU (es.push { key:=mz u,val:=iv v,born:=cl }).toList (cl+1) (wU l u v) from
      ⟨_,_,hr,h _ (St.yP (f:=λ (x:{ p:Array MapEntry×Nat // CU p.1.toList p.2 (wU l u v) })=>bC r (.map x.1.1 x.1.2)) ⟨(_,_),H⟩ hs)⟩
    have esl:wU l u v=l++[(u,v)]:=by rw[wU,if_neg (by rw[h1]; decide)]
    rw[esl];have et:(es.push { key:=mz u,val:=iv v,born:=cl }).toList=es.toList++[{ key:=mz u,val:=iv v,born:=cl }]:=by simp
    rw[et];refine⟨?_,?_,?_,?_⟩
    · have:=hok.kv; unfold kvs Fl at this ⊢; rw[List.map_append,List.map_append,this]; rfl
    · rw[List.map_append,List.nodup_append];refine⟨hok.nd,by simp,λ a ha b hb=>?_⟩;obtain⟨e,he,rfl⟩:=List.mem_map.1 ha;have:=hok.lt e he;simp at hb; omega
    · intro e he;rcases List.mem_append.1 he with he | he
      · have:=hok.lt e he; omega
      · rw[List.mem_singleton.1 he]; show cl<cl+1; omega
    · rw[List.map_append,List.nodup_append];refine⟨hok.ky,by simp,λ a ha b hb=>?_⟩;obtain⟨p,hp,rfl⟩:=List.mem_map.1 ha;have:=Ba h1 p hp;simp at hb; subst hb; exact this
end
theorem qQ{α:Type}[BEq α][LawfulBEq α]:∀ {l m:List α},l.Nodup->(∀ x∈l,x∈m)->l.length<=m.length
  | [],_,_,_=>Nat.zero_le _
  | x :: l,m,hd,h=>by
    rw[List.nodup_cons] at hd;have hx:=h x (by simp);have:=qQ (l:=l) (m:=m.erase x) hd.2 λ y hy=>by
      refine(List.mem_erase_of_ne ?_).2 (h y (by simp[hy]));rintro rfl; exact hd.1 hy
    rw[List.length_erase_of_mem hx] at this;have:=List.length_pos_of_mem hx;simp only[List.length_cons]; omega
theorem NM{u v:I6}(h:mz u=mz v):u=v:=by
  cases u; cases v
  simp only[mz,I6.vs,Value.agg.injEq,Array.mk.injEq,List.cons.injEq,Value.int.injEq,true_and,and_true] at h;obtain⟨rfl,rfl,rfl,rfl,rfl,rfl⟩:=h; rfl
theorem born_inj:∀ {es:List MapEntry},(es.map (·.born)).Nodup->∀ {a b:MapEntry},a∈es->b∈es->a.born=b.born->a=b
  | e :: es,hn,a,b,ha,hb,h=>by
    rw[List.map_cons,List.nodup_cons] at hn;rcases List.mem_cons.1 ha with ea | ha'
    · rcases List.mem_cons.1 hb with eb | hb'
      · rw[ea,eb]
      · exact absurd (by rw[<- ea,h]; exact List.mem_map_of_mem hb') hn.1
    · rcases List.mem_cons.1 hb with eb | hb'
      · exact absurd (by rw[<- eb,<- h]; exact List.mem_map_of_mem ha') hn.1
      · exact born_inj hn.2 ha' hb' h
theorem Ku{es:List MapEntry}{l:List KV}(h:kvs es=Fl l):es.length=l.length:=by
  have:=congrArg List.length h;simpa[kvs,Fl] using this
theorem Pp{es:List MapEntry}{l:List KV}(h:kvs es=Fl l){e:MapEntry}(he:e∈es):∃ p∈l,e.key=mz p.1/\e.val=iv p.2:=by
  have h1:(e.key,e.val)∈kvs es:=List.mem_map_of_mem (f:=λ e:MapEntry=>(e.key,e.val)) he;rw[h] at h1;obtain⟨p,hp,hh⟩:=List.mem_map.1 h1;simp only[Prod.mk.injEq] at hh;exact⟨p,hp,hh.1.symm,hh.2.symm⟩
theorem SU{es:List MapEntry}{l:List KV}(h:kvs es=Fl l){p:KV}(hp:p∈l):∃ e∈es,e.key=mz p.1/\e.val=iv p.2:=by
  have h1:(mz p.1,iv p.2)∈Fl l:=List.mem_map_of_mem (f:=λ p:KV=>(mz p.1,iv p.2)) hp;rw[<- h] at h1;obtain⟨e,he,hh⟩:=List.mem_map.1 h1;simp only[Prod.mk.injEq] at hh;exact⟨e,he,hh.1,hh.2⟩
structure Sj (es:List MapEntry) (seen:List Nat) (S:List KV) (vis:List MapEntry):Prop where
  sn:seen=vis.map (·.born)
  nd:seen.Nodup
  sub:∀ e∈vis,e∈es
  kv:kvs vis=Fl S
structure TX (l S:List KV) where
  es:Array MapEntry
  cl:Nat
  seen:Array Nat
  vis:List MapEntry
  ok:CU es.toList cl l
  vk:Sj es.toList seen.toList S vis
def yF(r it:Nat)(l S:List KV):aI:=Sd λ (x:TX l S)=>star (bC it (.mapIter (some r) x.cl x.seen x.cl)) (bC r (.map x.es x.cl))
section
variable {P:Program} {t kt et:TypeId} {w0 w:World} {B:aI} {r it:Nat} {l S:List KV}
theorem lB(hT:Si P t kt et)(s:St w0 w (star (mapA r l) B)){R:Nat->World->Prop}(k:∀ it w',St w0 w' (star (yF r it l []) B)->R it w') :
    bg P (Instr.range t (.map (some r))) w λ e w'=>∃ it:Nat,e=.pointer (some ⟨it,0,none⟩)/\R it w':=by
  obtain⟨⟨⟨es,cl⟩,hok⟩,s'⟩:=s.ex;have ho:w.heap[r]? = some (.map es cl):=s'.obj;have hr:(Instr.range t (.map (some r))).run P w=.ok (.pointer (some ⟨w.heap.size,0,none⟩)) (w.alloc (.mapIter (some r) cl #[] cl)):=by
    simp[Instr.range,aE hT.u,ho,getObj,Sem.run]
  refine⟨_,_,hr,_,rfl,k _ _ ?_⟩;have s2:=(s'.newObj (.mapIter (some r) cl #[] cl)).swap;exact St.yP (f:=λ (x:TX l [])=>star (bC w.heap.size (.mapIter (some r) x.cl x.seen x.cl)) (bC r (.map x.es x.cl))) ⟨es,cl,#[],[],hok,⟨rfl,by simp,by simp,rfl⟩⟩ (s2.eqv bq.assoc')
theorem St.yG(s:St w0 w (star (yF r it l S) B)):St w0 w (star (mapA r l) B):=by
  obtain⟨x,s'⟩:=s.ex;exact St.yP (f:=λ (x:{ p:Array MapEntry×Nat // CU p.1.toList p.2 l })=>bC r (.map x.1.1 x.1.2)) ⟨(x.es,x.cl),x.ok⟩ (s'.assoc.second)
theorem oP{ty:TypeId}(s:St w0 w (star (yF r it l S) B)){K:World->Prop}{F:I6->Int->World->Prop}(hend:(∀ p∈l,p∈S)->K w)(hstep:∀ p∈l,S.length<l.length->∀ w',St w0 w' (star (yF r it l (S++[p])) B)->F p.1 p.2 w') :
    bg P (Instr.next (.pointer (some ⟨it,0,none⟩)) false ty) w λ e w'=>(e=.tuple #[.bool false]/\K w')\/∃ v1 v2:Value,e=.tuple #[.bool true,v1,v2] /\
      bg P (Instr.entry (.pointer (some ⟨it,0,none⟩))) w' λ e' w''=>∃ (u:I6) (n:Int),e' = .tuple #[mz u,iv n]/\F u n w'':=by
  obtain⟨x,s'⟩:=s.ex;have hi:w.heap[it]? = some (.mapIter (some r) x.cl x.seen x.cl):=s'.assoc.obj;have hm:w.heap[r]? = some (.map x.es x.cl):=s'.assoc.Jp.obj;have kvE:=x.ok.kv;have kvV:=x.vk.kv;rcases run_next_at (P:=P) w ty it r x.cl x.cl x.seen x.es x.cl hi hm x.ok.lt (Nat.le_refl _) with⟨h0,hr⟩ | ⟨e,he,w1,hw1,hr⟩
  · refine⟨_,w,hr,.inl ⟨rfl,hend λ p hp=>?_⟩⟩;obtain⟨e,he,hk,hv⟩:=SU kvE hp;have hs:e.born∈x.seen.toList:=by
      by_cases hc:e.born∈x.seen.toList
      · exact hc
      · have:e∈leftOf x.es x.seen:=by
          unfold leftOf;simp only[Array.mem_filter,Array.mem_toList_iff] at *;exact⟨he,by simpa using hc⟩
        rw[Array.eq_empty_of_size_eq_zero h0] at this;simp at this
    rw[x.vk.sn] at hs;obtain⟨e',he',hb⟩:=List.mem_map.1 hs;have ee:=born_inj x.ok.nd (x.vk.sub e' he') he hb;subst ee;obtain⟨q,hq,hk2,hv2⟩:=Pp kvV he';have h1:q.1=p.1:=NM (hk2.symm.trans hk);have h2:q.2=p.2:=by
      have:=hv2.symm.trans hv
      injection this
    have:q=p:=Prod.ext h1 h2;rw[<- this]; exact hq
  · have hel:e∈x.es.toList/\e.born∉x.seen.toList:=by
      unfold leftOf at he;simp only[Array.toList_filter,List.mem_filter] at he;exact⟨he.1,by simpa using he.2⟩
    obtain⟨p,hp,hk,hv⟩:=Pp kvE hel.1;have s1:St w0 w1 (star (star (bC it (.mapIter (some r) x.cl x.seen x.cl)) (bC r (.map x.es x.cl))) B):=by
      rcases hw1 with rfl | rfl
      · exact s'
      · exact s'.quiet (aF.drew w [])
    have s2:St w0 (w1.putObj it (.mapIter (some r) x.cl (x.seen.push e.born) x.cl)) (star (bC it (.mapIter (some r) x.cl (x.seen.push e.born) x.cl)) (star (bC r (.map x.es x.cl)) B)):=s1.assoc.put _;have e2:ChangeMaps.setBlock w1 it (.mapIter (some r) x.cl (x.seen.push e.born) x.cl)=w1.putObj it (.mapIter (some r) x.cl (x.seen.push e.born) x.cl):=rfl;rw[e2] at hr;refine⟨_,_,hr,.inr ⟨_,_,rfl,?_⟩⟩;have he2:=run_entry_at (P:=P) _ it r x.cl x.seen x.es x.cl e s2.obj s2.Jp.obj hel.1 x.ok.nd;have nd2:(x.seen.toList++[e.born]).Nodup:=by
      rw[List.nodup_append];refine⟨x.vk.nd,by simp,λ a ha b hb=>?_⟩;simp at hb; subst hb;rintro rfl; exact hel.2 ha
    have hlen:S.length<l.length:=by
      have h1:=Ku kvV;have h2:=Ku kvE;have h3:(x.seen.toList++[e.born]).length<=(x.es.toList.map (·.born)).length:=qQ nd2 λ b hb=>by
        rcases List.mem_append.1 hb with hb | hb
        · rw[x.vk.sn] at hb;obtain⟨e',he',rfl⟩:=List.mem_map.1 hb;exact List.mem_map_of_mem (x.vk.sub e' he')
        · rw[List.mem_singleton.1 hb]; exact List.mem_map_of_mem hel.1
      rw[List.length_append,List.length_map,x.vk.sn,List.length_map,List.length_singleton] at h3;omega
    refine⟨_,_,he2,p.1,p.2,by rw[hk,hv],hstep p hp hlen _ ?_⟩;refine St.yP (f:=λ (x:TX l (S++[p]))=>star (bC it (.mapIter (some r) x.cl x.seen x.cl)) (bC r (.map x.es x.cl))) ⟨x.es,x.cl,x.seen.push e.born,x.vis++[e],x.ok,⟨?_,?_,?_,?_⟩⟩ (s2.eqv bq.assoc')
    · have:=x.vk.sn; rw[List.map_append,<- this]; simp
    · simpa using nd2
    · intro y hy;rcases List.mem_append.1 hy with hy | hy
      · exact x.vk.sub y hy
      · rw[List.mem_singleton.1 hy]; exact hel.1
    · have hkv:=kvV;unfold kvs Fl at hkv ⊢;rw[List.map_append,List.map_append,hkv,List.map_singleton,List.map_singleton,hk,hv]
end
end Go.Vc
