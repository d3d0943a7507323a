import Derived.Test.YtpihmghnbplohaaGreatDoorProg
import Derived.KernelRfl
import Derived.Lib.AtoiBound
import Derived.Maps.RangeRun
import Derived.Test.YtpihmghnbplohaaGreatDoorM02
import Derived.Test.YtpihmghnbplohaaGreatDoorM04
import Derived.Test.YtpihmghnbplohaaGreatDoorM06
import Derived.Test.YtpihmghnbplohaaGreatDoorM07
import Derived.Test.YtpihmghnbplohaaGreatDoorM13
import Derived.Test.YtpihmghnbplohaaGreatDoorM16
import Derived.Test.YtpihmghnbplohaaGreatDoorM17
import Derived.Test.YtpihmghnbplohaaGreatDoorM19
import Derived.Test.YtpihmghnbplohaaGreatDoorM20
set_option linter.unusedVariables false
set_option maxRecDepth 100000
namespace Go.Proofs.YtpihmghnbplohaaGreatDoor
open Go Go.Vc Tryz
theorem Er{S:Sx}(h:S.bd.length=8)(x:Int):S.cells.toArray.setIfInBounds 4 (iv x)=({ S with ph:=x }:Sx).cells.toArray:=by
  obtain⟨o,ph,s,k,bd,dec,cnt,dig⟩:=S;obtain⟨b0,b1,b2,b3,b4,b5,b6,b7,rfl⟩:=bO h;rfl
theorem Rj{S:Sx}(h:S.bd.length=8)(x:Int):S.cells.toArray.setIfInBounds 98 (.int .u64 x)=({ S with dec:=x }:Sx).cells.toArray:=by
  obtain⟨o,ph,s,k,bd,dec,cnt,dig⟩:=S;obtain⟨b0,b1,b2,b3,b4,b5,b6,b7,rfl⟩:=bO h;rfl
theorem Rk{S:Sx}(h:S.bd.length=8){i:Nat}(hi:i<8){y:Bd}(hy:S.bd[i]? = some y):S.cells.toArray[10+i*11+9]? = some (.bool y.has):=by
  obtain⟨o,ph,s,k,bd,dec,cnt,dig⟩:=S;obtain⟨b0,b1,b2,b3,b4,b5,b6,b7,rfl⟩:=bO h
  match i,hi with
  | 0,_ | 1,_ | 2,_ | 3,_ | 4,_ | 5,_ | 6,_ | 7,_=>cases hy; rfl
theorem dz{S:Sx}(h:S.bd.length=8):S.cells.toArray.size=101:=by simpa using Sx.len h
section
variable {w0 w:World} {b:Nat} {S:Sx} {m:List aD}
def nR(S:Sx)(e:Ev):Sx:=if e.kind=10 then { S with ph:=4,dec:=e.digest } else { S with ph:=3 }
theorem Kh(s:St w0 w (Sep (ai b S.cells.toArray 114 :: m)))(h:S.bd.length=8)(e:Ev) :
    CP 97 #[.pointer (some ⟨b,0,none⟩),e.v] w (λ r w'=>r=iv 0/\St w0 w' (Sep (ai b (nR S e).cells.toArray 114 :: m))):=by
  refine ny (u1:=e.want) ?_;unfold je;refine s.ax e.cells.toArray λ r1 w1 s1=>s1.aH 1 rfl (j:=4) (by rw[dz h]; omega) rfl λ w2 s2=>?_;rw[Er h] at s2;have s2:St w0 w2 (Sep (ai r1 e.cells.toArray 43 :: ai b ({ S with ph:=3 }:Sx).cells.toArray 114 :: m)):=s2;refine⟨λ w3=>St w0 w3 (Sep (ai r1 e.cells.toArray 43 :: ai b (nR S e).cells.toArray 114 :: m)),λ w3 s3 _=>⟨rfl,s3.second⟩,_,s2.ag 0 rfl 0,?_⟩
  by_cases h10:e.kind=10
  · have h3:({ S with ph:=3 }:Sx).bd.length=8:=h;have h4:({ S with ph:=4 }:Sx).bd.length=8:=h;have s3:=s2.quiet (az.drew w2 []);refine cT (by simpa using h10) ⟨_,s3.ag 0 rfl 10,s3.aH 1 rfl (j:=4) (by rw[dz h3]; omega) rfl λ w4 s4=>?_⟩;rw[Er h3] at s4;have s4:St w0 w4 (Sep (ai r1 e.cells.toArray 43 :: ai b ({ S with ph:=4 }:Sx).cells.toArray 114 :: m)):=s4;refine⟨s4.ag 0 rfl 10,s4.aH 1 rfl (j:=98) (by rw[dz h4]; omega) rfl λ w5 s5=>?_⟩;rw[Rj h4] at s5;rw[nR,if_pos h10];exact s5
  · exact cF (by simpa using h10) (by rw[nR,if_neg h10]; exact s2)
theorem Gb(s:St w0 w (Sep (ai b S.cells.toArray 114 :: m)))(h:S.bd.length=8){e:Ev}{i:Nat}(hi:i<8)(he:e.bidder=i) :
    CP 94 #[.pointer (some ⟨b,0,none⟩),e.v] w (λ r w'=>((S.bd.getD i dH).has=false/\r=iv 6/\St w0 w' (Sep (ai b S.cells.toArray 114 :: m)))\/((S.bd.getD i dH).has=true/\r=iv 0/\St w0 w' (Sep (ai b (bp S i).cells.toArray 114 :: m)))):=by
  refine kU (u1:=e.want) ?_;unfold gH;have hy:S.bd[i]? = some (S.bd.getD i dH):=by rw[List.getD_eq_getElem?_getD,gE (by omega)]; rfl
  generalize S.bd.getD i dH=y at hy;refine s.ax e.cells.toArray λ r1 w1 s1=>?_;have s2:=s1.quiet (az.drew w1 []);have c1:w1.drew.cell? ⟨r1,1,none⟩=some (iv i):=by rw[<- he]; exact s2.ag 0 rfl 1
  have c2:w1.drew.cell? (Addr.add (Addr.add ⟨b,10,none⟩ (((i:Nat):Int).toNat*11)) 9)=some (.bool y.has):=by
    rw[SN,bG,s2.ag 1 rfl]; exact Rk h hi hy
  refine⟨_,c1,by omega,by omega,_,c2,?_⟩
  cases hh:y.has with
  | false=>exact cT rfl (.inl ⟨rfl,rfl,s2.second⟩)
  | true =>
    refine cF rfl ⟨_,c1,aj (Cn (s2.second) h hi) ?_⟩;rintro v w2 ⟨rfl,s3⟩;exact⟨rfl,.inr ⟨rfl,rfl,s3⟩⟩
end
def Pq:List UInt8:=[112,114,111,100,117,99,116]
def Pm:List UInt8:=[98,105,100,100,101,114]
def Pn:List UInt8:=[99,97,112]
def Pk:List UInt8:=[97,115,105,100,101]
def tE(s:List UInt8):Int:=if s=Pq then 6 else if s=Pm then 5 else if s=Pn\/s=Pk then 4 else 0
theorem OB(w:World)(s:List UInt8):CP 172 #[sv s] w (λ r w'=>r=iv (tE s)/\w' = w):=by
  refine yW ?_;unfold vu;rw[ia,ia,ia,ia,ia]
  by_cases h1:s=Pq
  · exact cT (beq_iff_eq.2 h1) ⟨by rw[tE,if_pos h1],rfl⟩
  refine cF (beq_eq_false_iff_ne.2 h1) ?_
  by_cases h2:s=Pm
  · exact cT (beq_iff_eq.2 h2) ⟨by rw[tE,if_neg h1,if_pos h2],rfl⟩
  refine cF (beq_eq_false_iff_ne.2 h2) ⟨λ b w1=>b=decide (s=Pn\/s=Pk)/\w1=w,?_,?_⟩
  · rintro w1 _ ⟨rfl,rfl⟩ -
    by_cases h3:s=Pn\/s=Pk
    · exact cT (dT h3) ⟨by rw[tE,if_neg h1,if_neg h2,if_pos h3],rfl⟩
    · exact cF (dF h3) ⟨by rw[tE,if_neg h1,if_neg h2,if_neg h3],rfl⟩
  · by_cases h3:s=Pn
    · exact cT (beq_iff_eq.2 h3) ⟨by rw[dT (Or.inl h3)]; exact beq_iff_eq.2 h3,rfl⟩
    · refine cF (beq_eq_false_iff_ne.2 h3) ⟨?_,rfl⟩
      by_cases h4:s=Pk
      · rw[dT (Or.inr h4)]; exact beq_iff_eq.2 h4
      · rw[dF (by rintro(h | h); exact h3 h; exact h4 h)]; exact beq_eq_false_iff_ne.2 h4
def strings_Split(a b:ByteArray)(w:World)(K:KP):Prop:=Calls prog 171 #[.string a,.string b,iv 0,iv (-1)] w λ a b=>∃ c d e,a=.returned (.slice c d e)/\K (.slice c d e) b
theorem uL{s1 s2 w K}(h:strings_Split s1 s2 w K):CP 138 #[.string s1,.string s2] w (K):=ah (ay []) func138 (by kernel_rfl) (by kernel_rfl) h
abbrev sF (x:List UInt8):List Value:=[sv x]
theorem FJ(x:List UInt8):(sF x).length=1:=rfl
theorem FK{w:World}{a:OA}{l:List (List UInt8)}(h:cH 1 sF w a l){i:Nat}{x:List UInt8}(hi:l[i]? = some x):∃ q,a=some q/\w.cell? (Addr.add q (i*1))=some (sv x):=by
  obtain⟨q,hq,hc⟩:=h.at hi;have:=bC hc 0 _ rfl;rw[Nat.zero_add,Addr.add_add,Nat.add_zero] at this;exact⟨q,hq,this⟩
def bq(c:UInt8)(s:List UInt8):List (List UInt8):=(Lib.splitB (bs [c]) 0 (Lib.countB (bs s) (bs [c])) (bs s)).map λ b=>b.data.toList
theorem lW(c:UInt8)(s:List UInt8):(bq c s).length=Lib.countB (bs s) (bs [c])+1:=by
  rw[bq,List.length_map,Lib.splitB_all (bs [c]) (by rw[fm]; exact Nat.le_refl 1) 0 _ _ rfl]
theorem AP(c:UInt8)(s:List UInt8):(bq c s).length<=s.length+1:=by
  rw[lW];have:=Lib.countB_le (bs [c]) (by rw[fm]; exact Nat.le_refl 1) (bs s).size (bs s) (Nat.le_refl _);rw[fm] at this;omega
theorem Hq(w:World)(c:UInt8)(s:List UInt8)(hs:s.length<=1000000):CP 138 #[sv s,sv [c]] w (λ r w'=>∃ g,r=.slice (some ⟨g,0,none⟩) (bq c s).length (bq c s).length/\St w w' (Sep [bW 9 1 sF (some ⟨g,0,none⟩) (bq c s).length (bq c s)])):=by
  refine uL ?_;unfold strings_Split;have h1:1<=(bs [c]).size:=by rw[fm]; exact Nat.le_refl 1
  have hle:=Lib.countB_le (bs [c]) h1 (bs s).size (bs s) (Nat.le_refl _);have hlen:=Lib.splitB_all (bs [c]) h1 0 _ (bs s) rfl;have hz:(bs s).size=s.length:=fm s;have hC:=Tryz.strings_Count_one (bs s) c w;have k:=Any.strings_genSplit_core Tryz.No (by kernel_rfl) (bs s) (bs [c]) 0 (-1) (Lib.countB (bs s) (bs [c])+1) w (by omega) h1 (Nat.zero_le _)
    (λ x cs _=>(Tryz.strings_Index_one x c _).mono λ e w' ⟨he,hw⟩=>⟨by rw[he]; show _=Ending.returned (Value.int .i64 (Lib.index x.data.toList [c])); rw[Lib.index_one],hw⟩) ?_ (by decide) (by decide) (by rw[if_pos (by decide)]; omega)
  · rw[Nat.add_sub_cancel,hlen] at k;have e2:Lib.cellsOf (Lib.splitB (bs [c]) 0 (Lib.countB (bs s) (bs [c])) (bs s)) (Lib.countB (bs s) (bs [c])+1)=((Lib.splitB (bs [c]) 0 (Lib.countB (bs s) (bs [c])) (bs s)).map Value.string).toArray:=by rw[<- hlen]; exact Lib.cellsOf_full _
    rw[e2] at k;refine Calls.mono k ?_;rintro e w' ⟨rfl,rfl⟩;refine⟨_,_,_,rfl,w.heap.size,by rw[lW],?_⟩;have s1:=(St.start w).one.bI ((Lib.splitB (bs [c]) 0 (Lib.countB (bs s) (bs [c])) (bs s)).map Value.string).toArray 9;have e3:(((Lib.splitB (bs [c]) 0 (Lib.countB (bs s) (bs [c])) (bs s)).map Value.string).toArray:Array Value).toList=(bq c s).flatMap sF:=by
      rw[bq,List.flatMap_map]
      induction Lib.splitB (bs [c]) 0 (Lib.countB (bs s) (bs [c])) (bs s) with
      | nil=>rfl
      | cons b l ih=>simp only[List.map_cons,List.flatMap_cons] at ih ⊢; rw[<- ih,sF,sv,<- OK]; rfl
    refine(s1.aq [0]).weak (bH.left ?_);rintro w' F ⟨h,hF⟩;have hm:(bq c s).length<=maxLen:=by rw[lW]; unfold maxLen; omega
    exact⟨F,⟨yy FJ h e3 hm,by rw[hF]; simp[Value.ownBlock]⟩,λ _ h=>h⟩
  · refine Calls.mono hC ?_;rintro e w' ⟨rfl,hw⟩;refine⟨?_,hw⟩;show _=Ending.returned (Value.int .i64 ((Lib.count (bs s).data.toList [c]:Nat):Int));rw[Lib.count_one]; rfl
theorem az.M7(w:World)(b o n:Nat):az w (w.freeze ⟨b,o,none⟩ n) [b]:=by
  unfold World.freeze
  split
  · exact az.refl _ _
  · refine⟨by simp,λ i _ hi=>?_,⟨rfl,rfl,rfl⟩⟩;simp only[List.mem_singleton] at hi;rw[Array.getElem?_modify,if_neg (λ h=>hi h.symm)]
theorem HU(w:World)(e:TypeId)(t:ByteArray):az w (Lib.bytesWorld w e t) []:=by
  unfold Lib.bytesWorld;have c1:az w w.drew []:=az.drew w [];refine(c1.trans (az.new _ _ []) (by simp)).trans (az.M7 _ _ _ _) ?_;intro i hi;simp at hi; subst hi;exact .inr (Nat.le_refl _)
def CK(l:List UInt8):Bool:=l.all λ c=>vK (un c)
def Lv(l:List UInt8):Int:=(Lib.atoi l).getD 0
def e9(l:List UInt8):Int×Int:=if CK l=false\/l=[]\/(l.head? = some 48/\1<l.length) then (0,2) else if 9<l.length then (0,4) else (Lv l,0)
theorem uX:∀ (l:List UInt8) (acc:Nat),CK l=true->∃ n,Lib.decFrom acc l=some n
  | [],acc,_=>⟨acc,rfl⟩
  | b :: l,acc,h=>by
    unfold CK at h;rw[List.all_cons,Bool.and_eq_true] at h;have h1:48<=b.toNat/\b.toNat<=57:=by
      have h2:48<=un b/\un b<=57:=by simpa[vK] using h.1
      unfold un at h2;omega
    rw[Lib.decFrom,Lib.digitVal,if_pos h1];exact uX l _ h.2
theorem JD{l:List UInt8}(h:CK l=true)(h0:l≠[]):∃ n,Lib.atoi l=some n:=by
  cases l with
  | nil=>exact absurd rfl h0
  | cons b l =>
    obtain⟨n,hn⟩:=uX (b :: l) 0 h;unfold CK at h;rw[List.all_cons,Bool.and_eq_true] at h;have h1:48<=un b/\un b<=57:=by simpa[vK] using h.1
    have hb:(b==45)=false:=by rw[beq_eq_false_iff_ne]; rintro rfl; revert h1; decide
    have hb2:(b==43)=false:=by rw[beq_eq_false_iff_ne]; rintro rfl; revert h1; decide
    have hd:Lib.decNat (b :: l)=some n:=by rw[Lib.decNat]; exact hn
    rw[Lib.atoi,hb,hb2,hd];exact⟨_,rfl⟩
theorem N0{l:List UInt8}(hl:l.length<=18):In (Lv l):=by
  unfold Lv
  cases h:Lib.atoi l with
  | none=>exact⟨by decide,by decide⟩
  | some n =>
    have:=Lib.atoi_bound h hl;show In n;exact⟨by omega,by omega⟩
theorem IZ(w:World){l:List UInt8}(hl:l.length<=1000000):CP 221 #[sv l] w (λ r w'=>r=.tuple #[iv (e9 l).1,iv (e9 l).2]/\az w w' []):=by
  refine wq ?_;unfold tj;refine⟨λ i w1 m=>∃ k:Nat,i=k/\k<=l.length/\m=l.length-k/\CK (l.take k)=true/\az w w1 [],⟨l.length,0,rfl,by omega,by omega,rfl,az.refl _ _⟩,?_⟩;rintro w1 m i ⟨k,rfl,hk,hm,ha,hc⟩ -
  by_cases hlt:k<l.length
  · have hx:l[k]? = some (l[k]'hlt):=gE hlt;generalize l[k]'hlt=c at hx;refine cT (by rw[fm]; exact dT (by omega)) ⟨λ b w2=>b = !vK (un c)/\az w w2 [],?_,by omega,?_⟩
    · rintro w2 b ⟨rfl,c2⟩ -
      cases hd:vK (un c) with
      | false =>
        have:CK l=false:=List.all_eq_false.2 ⟨c,List.mem_of_getElem? hx,by simp[hd]⟩;exact cT rfl ⟨by rw[e9,if_pos (.inl this)],c2⟩
      | true =>
        refine cF rfl ⟨l.length-(k+1),by omega,k+1,aC ⟨by omega,by omega⟩,by omega,rfl,?_,c2⟩;unfold CK at ha ⊢;rw[aL hx,List.all_append,ha]; simp[hd]
    · rw[Int.toNat_natCast,jY,hx];have hlt8:=c.toNat_lt
      by_cases h1:(c.toNat:Int)<48
      · exact cT (dT h1) ⟨by rw[vK,un,dF (by omega)]; rfl,hc⟩
      · refine cF (dF h1) ⟨by omega,?_⟩;refine⟨?_,hc⟩
        by_cases h2:(c.toNat:Int)>57
        · rw[dT h2,vK,un,dT (show(48:Int)<=(c.toNat:Int) by omega),dF (show ¬ (c.toNat:Int)<=57 by omega)]; rfl
        · rw[dF h2,vK,un,dT (show(48:Int)<=(c.toNat:Int) by omega),dT (show(c.toNat:Int)<=57 by omega)]; rfl
  · obtain rfl:k=l.length:=by omega
    rw[List.take_length] at ha;refine cF (by rw[fm]; exact dF (by omega)) ⟨λ b w2=>b=decide (l=[]\/(l.head? = some 48/\1<l.length))/\az w w2 [],?_,?_⟩
    · rintro w2 b ⟨rfl,c2⟩ -
      by_cases hb:l=[]\/(l.head? = some 48/\1<l.length)
      · exact cT (dT hb) ⟨by rw[e9,if_pos (.inr hb)],c2⟩
      · refine cF (dF hb) ?_;have e1:e9 l=if 9<l.length then (0,4) else (Lv l,0):=by
          rw[e9,if_neg];rintro(h | h)
          · rw[ha] at h; cases h
          · exact hb h
        by_cases h9:9<l.length
        · exact cT (by rw[fm]; exact dT (by omega)) ⟨by rw[e1,if_pos h9],c2⟩
        · rw[if_neg h9] at e1;obtain⟨n,hn⟩:=JD ha (λ h=>hb (.inl h));refine cF (by rw[fm]; exact dF (by omega)) ((Tryz.strconv_Atoi (bs l) n (by rw[fm]; omega) hn w2).mono ?_);rintro e w3 ⟨rfl,t,rfl⟩;refine⟨_,_,rfl,?_,c2.trans (HU _ _ _) (by simp)⟩;rw[e1,Lv,hn]; rfl
    · cases l with
      | nil=>exact cT (by rw[ia]; rfl) ⟨by decide,hc⟩
      | cons c l =>
        refine cF (by rw[ia,ia]; rfl) ⟨by decide,?_⟩;show cond ((c.toNat:Int)==48) _ _
        by_cases h48:c=48
        · subst h48;refine cT rfl ⟨?_,hc⟩;rw[fm]
          by_cases h1:1<(48 :: l:List UInt8).length
          · rw[dT (show(((48 :: l:List UInt8).length:Nat):Int)>1 by omega),dT (Or.inr ⟨rfl,h1⟩)]
          · rw[dF (show ¬ (((48 :: l:List UInt8).length:Nat):Int)>1 by omega),dF (by rintro(h | h); cases h; exact h1 h.2)]
        · refine cF (beq_eq_false_iff_ne.2 λ h=>h48 (UInt8.toNat_inj.1 (by show c.toNat=48; omega))) ⟨?_,hc⟩;rw[dF];rintro(h | h)
          · cases h
          · exact h48 (by simpa using h.1)
def oh:List (List UInt8)->Int
  | []=>0
  | x :: l=>if (e9 x).2≠0 then (e9 x).2 else oh l
theorem DO:∀ {l:List (List UInt8)} {k:Nat} {x:List UInt8},(∀ y∈l.take k,(e9 y).2=0)->l[k]? = some x->oh l=if (e9 x).2≠0 then (e9 x).2 else oh (l.drop (k+1))
  | y :: l,0,x,_,hx=>by cases hx; rfl
  | y :: l,k+1,x,h,hx=>by
    rw[oh,if_neg (by simpa using h y (by simp))];exact DO (λ z hz=>h z (by simp[hz])) (by simpa using hx)
theorem Au:∀ {l:List (List UInt8)},(∀ y∈l,(e9 y).2=0)->oh l=0
  | [],_=>rfl
  | y :: l,h=>by rw[oh,if_neg (by simpa using h y (by simp))]; exact Au λ z hz=>h z (by simp[hz])
theorem FR{w:World}{a:OA}{c:Nat}{l:List (List UInt8)}(hr:cH 1 sF w a l)(hl:l.length<=100000)(hx:∀ x∈l,x.length<=1000000) :
    CP 174 #[.slice a l.length c] w (λ r w'=>(oh l≠0/\r=.tuple #[.slice none 0 0,iv (oh l)]/\az w w' [])\/(oh l=0/\∃ a' c',r=.tuple #[.slice a' l.length c',iv 0]/\St w w' (Sep [bW 3 1 i1 a' c' (l.map λ x=>(e9 x).1)]))):=by
  refine uH ?_;unfold qt;refine⟨λ a2 n2 c2 i w1 m=>∃ k:Nat,i=k/\k<=l.length/\m=l.length-k/\n2=k/\(∀ y∈l.take k,(e9 y).2=0)/\St w w1 (Sep [bW 3 1 i1 a2 c2 ((l.take k).map λ x=>(e9 x).1)]),⟨l.length,0,rfl,by omega,by omega,rfl,by simp,(St.start w).eZ⟩,?_⟩;rintro w1 m a2 n2 c2 i ⟨k,rfl,hk,hm,hn2,ha,s1⟩ -;have hn3:=hn2.symm;subst hn3
  by_cases hlt:(k:Int)<(l.length:Int)
  · have hxk:l[k]? = some (l[k]'(by omega)):=gE (by omega);generalize l[k]'(by omega)=x at hxk;obtain⟨q,hq,hc⟩:=FK (hr.av s1.av) hxk;have e1:=DO ha hxk;refine cT (dT hlt) (au hq ⟨by omega,by omega,_,hc,aj (IZ w1 (hx x (List.mem_of_getElem? hxk))) ?_⟩);rintro v w2 ⟨rfl,c3⟩;have s2:=s1.quiet c3;refine⟨_,_,rfl,?_⟩
    by_cases h0:(e9 x).2=0
    · refine cF (by simpa using h0) ?_;have e2:(l.take (k+1)).map (λ x=>(e9 x).1)=(l.take k).map (λ x=>(e9 x).1)++[(e9 x).1]:=by rw[aL hxk,List.map_append]; rfl
      have hl2:((l.take k).map λ x=>(e9 x).1).length=k:=by rw[List.length_map,List.length_take]; omega
      have:=iC (ty:=65) (x:=(e9 x).1) (l:=(l.take k).map λ x=>(e9 x).1) Sq cR (E6 _) s2 (by rw[hl2]; omega) (by rw[hl2]; omega) (R:=λ a3 l3 c3 w4=>∃ m2,m2<l.length-k/\∃ k' : Nat,IntKind.i64.wrap ((k:Int)+1)=(k' : Int)/\k'<=l.length/\m2=l.length-k'/\l3=k'/\(∀ y∈l.take k',(e9 y).2=0)/\St w w4 (Sep [bW 3 1 i1 a3 c3 ((l.take k').map λ x=>(e9 x).1)])) (λ a' c' w' s'=>⟨l.length-(k+1),by omega,k+1,aC ⟨by omega,by omega⟩,by omega,rfl,by rw[List.length_append,hl2]; rfl,λ y hy=>?_,by rw[e2]; exact s'⟩) rfl
      · rw[hl2] at this;rw[hm];exact this
      · rw[aL hxk] at hy;rcases List.mem_append.1 hy with h | h
        · exact ha y h
        · rw[List.mem_singleton.1 h]; exact h0
    · rw[if_pos h0] at e1;exact cT (by simpa using h0) (.inl ⟨by rw[e1]; exact h0,by rw[e1],s2.av⟩)
  · obtain rfl:k=l.length:=by omega
    rw[List.take_length] at ha s1;exact cF (dF hlt) (.inr ⟨Au ha,a2,c2,rfl,s1⟩)
def rY(l:List Br)(nm:List UInt8):Int×Bool:=(((l.findIdx? λ p=>p.nm==nm).map λ k=>(k:Int)).getD 0,l.any λ p=>p.nm==nm)
theorem Lm{w:World}{a:OA}{c:Nat}{l:List Br}(h:j7 w a l)(hl:l.length<=100000)(nm:List UInt8) :
    CP 220 #[.slice a l.length c,sv nm] w (λ r w'=>r=.tuple #[iv (rY l nm).1,.bool (rY l nm).2]/\az w w' []):=by
  refine Ay ?_;unfold Fx;refine⟨λ n w1 m=>∃ k:Nat,n=k/\k<=l.length/\m=l.length-k/\(l.take k).any (λ p=>p.nm==nm)=false/\az w w1 [],⟨l.length,0,rfl,by omega,by omega,rfl,az.refl _ _⟩,?_⟩;rintro w1 m n ⟨k,rfl,hk,hm,ha,hc⟩ -
  by_cases hlt:(k:Int)<(l.length:Int)
  · have hx:l[k]? = some (l[k]'(by omega)):=gE (by omega);generalize l[k]'(by omega)=x at hx;obtain⟨_,q,rfl,hcl⟩:=(h.av hc) k x hx;refine cT (by simpa using hlt) ⟨by omega,by omega,_,_,_,_,hcl,(St.start' hc).one.ax _ λ r1 w2 s2=>s2.aA 0 rfl x.cells rfl x.one λ w3 s3=>?_⟩;refine⟨_,by rw[s3.ag 0 rfl]; rfl,?_⟩
    by_cases hn:x.nm=nm
    · refine cT (by rw[hn]; simp) ⟨?_,s3.av⟩;have hp:(λ p:Br=>p.nm==nm) x=true:=by simpa using hn
      rw[rY,nS hx hp ha,jr hx hp]; rfl
    · exact cF (by rw[ia,ia]; simpa using hn) ⟨l.length-(k+1),by omega,k+1,by rw[aC ⟨by omega,by omega⟩]; rfl,by omega,rfl,fV ha hx (by simpa using hn),s3.av⟩
  · refine cF (by simpa using hlt) ⟨?_,hc⟩;rw[List.take_of_length_le (by omega)] at ha;rw[rY,lI ha,ha]; rfl
def gx(S:Se)(h nm:List UInt8):Int×Int :=
  if h=Pq\/h=Pm then (0,if eW nm then 0 else 5)
  else if h=Pn then (if nm=[42] then (-1,0) else if (rY S.bd nm).2 then ((rY S.bd nm).1,0) else (0,6))
  else if h=Pk then (if (de S.ps nm).2 then ((de S.ps nm).1,0) else (0,6))
  else (-1,0)
theorem LH{w:World}{S:Se}(hS:S.In w)(h1:S.ps.length<=100000)(h2:S.bd.length<=100000)(h nm:List UInt8) :
    CP 173 #[.agg S.arr,sv h,sv nm] w (λ r w'=>r=.tuple #[iv (gx S h nm).1,iv (gx S h nm).2]/\az w w' []):=by
  refine yU ?_;unfold vt;refine(St.start w).one.ax S.arr λ r1 w1 s1=>?_;refine⟨λ n b w2=>((b=false/\gx S h nm=(0,6))\/(b=true/\gx S h nm=(n,0)))/\az w w2 [],?_,?_⟩
  · rintro w2 n b ⟨(⟨rfl,e⟩ | ⟨rfl,e⟩),c2⟩ -
    · exact cT rfl ⟨by rw[e],c2⟩
    · exact cF rfl ⟨by rw[e],c2⟩
  refine⟨λ b w3=>b=decide (h=Pq\/h=Pm)/\w3=w1,?_,?_⟩
  · rintro w3 b ⟨rfl,rfl⟩ -
    by_cases g1:h=Pq\/h=Pm
    · have e1:gx S h nm=(0,if eW nm then 0 else 5):=by rw[gx,if_pos g1]
      refine cT (dT g1) (aj (yb w3 nm) ?_);rintro v w4 ⟨rfl,rfl⟩;refine⟨_,rfl,?_⟩
      cases hn:eW nm with
      | true=>exact cF rfl ⟨by rw[e1,hn]; rfl,s1.av⟩
      | false=>exact cT rfl ⟨by rw[e1,hn]; rfl,s1.av⟩
    · refine cF (dF g1) ?_;rw[ia,ia,ia,ia,ia]
      by_cases g2:h=Pn
      · have e2:gx S h nm=if nm=[42] then (-1,0) else if (rY S.bd nm).2 then ((rY S.bd nm).1,0) else (0,6):=by rw[gx,if_neg g1,if_pos g2]
        refine cT (beq_iff_eq.2 g2) ?_
        by_cases g3:nm=[42]
        · exact cF (by rw[g3]; rfl) ⟨.inr ⟨rfl,by rw[e2,if_pos g3]⟩,s1.av⟩
        · rw[if_neg g3] at e2;refine cT (by rw[beq_eq_false_iff_ne.2 g3]; rfl) ⟨_,_,_,s1.ag 0 rfl 1,aj (Lm (hS.av s1.av).bd h2 nm) ?_⟩;rintro v w5 ⟨rfl,c5⟩;refine⟨_,_,rfl,?_,(s1.quiet c5).av⟩
          cases hf:(rY S.bd nm).2 with
          | true=>exact .inr ⟨rfl,by rw[e2,hf]; rfl⟩
          | false=>exact .inl ⟨rfl,by rw[e2,hf]; rfl⟩
      · refine cF (beq_eq_false_iff_ne.2 g2) ?_
        by_cases g4:h=Pk
        · have e2:gx S h nm=if (de S.ps nm).2 then (((de S.ps nm).1:Int),0) else (0,6):=by rw[gx,if_neg g1,if_neg g2,if_pos g4]
          refine cT (beq_iff_eq.2 g4) ⟨_,_,_,s1.ag 0 rfl 0,aj (GA (hS.av s1.av).ps h1 nm) ?_⟩;rintro v w5 ⟨rfl,c5⟩;refine⟨_,_,rfl,?_,(s1.quiet c5).av⟩
          cases hf:(de S.ps nm).2 with
          | true=>exact .inr ⟨rfl,by rw[e2,hf]; rfl⟩
          | false=>exact .inl ⟨rfl,by rw[e2,hf]; rfl⟩
        · exact cF (beq_eq_false_iff_ne.2 g4) ⟨.inr ⟨rfl,by rw[gx,if_neg g1,if_neg g2,if_neg g4]⟩,s1.av⟩
  · rw[ia,ia,ia]
    by_cases g1:h=Pq
    · exact cT (beq_iff_eq.2 g1) ⟨by rw[dT (Or.inl g1)]; exact beq_iff_eq.2 g1,rfl⟩
    · refine cF (beq_eq_false_iff_ne.2 g1) ⟨?_,rfl⟩
      by_cases g2:h=Pm
      · rw[dT (Or.inr g2)]; exact beq_iff_eq.2 g2
      · rw[dF (by rintro(h | h); exact g1 h; exact g2 h)]; exact beq_eq_false_iff_ne.2 g2
end Go.Proofs.YtpihmghnbplohaaGreatDoor
namespace Go.Vc
open Go
abbrev lN (u:I6):Value:=.agg u.vs.toArray
structure RF (P:Program) (t kt et:TypeId):Prop where
  u:P.underlying t=some (.map kt et)
  k:∃ it,P.underlying kt=some (.array 6 it)
  z:(P.info? et).bind (·.zero)=some (iv 0)
  eq:∀ u v:I6,OO P 12 kt (lN u) (lN v)=some (I6.beq u v)
  ck:∀ (b:Bool) (u:I6) (w:World),(Instr.checkKey b 10000 kt (lN u)).run P w=.ok () w
abbrev KV:=I6×Int
def kvs(es:List MapEntry):List (Value×Value):=es.map λ e=>(e.key,e.val)
def Fa(l:List KV):List (Value×Value):=l.map λ p=>(lN p.1,iv p.2)
structure CG (es:List MapEntry) (cl:Nat) (l:List KV):Prop where
  kv:kvs es=Fa l
  nd:(es.map (·.born)).Nodup
  lt:∀ e∈es,e.born<cl
  ky:(l.map (·.1)).Nodup
def mapA(r:Nat)(l:List KV):aD:=Jh λ (x:{ p:Array MapEntry×Nat // CG p.1.toList p.2 l })=>aK r (.map x.1.1 x.1.2)
def jg(l:List KV)(u:I6):Option Int:=(l.find? λ p=>p.1==u).map (·.2)
section
variable {P:Program} {t kt et:TypeId} {w0 w:World} {B:aD} {r:Nat} {l:List KV}
theorem JC(eq:∀ u v:I6,OO P 12 kt (lN u) (lN v)=some (I6.beq u v))(u:I6)(w:World):∀ (es:List MapEntry) (l:List KV) (i:Nat),kvs es=Fa l ->
    (∃ v j,jg l u=some v/\(Instr.findAsking kt (lN u) es i).run P w=.ok (some (i+j,iv v)) w/\∃ e,es[j]? = some e/\e.key=lN u/\l[j]? = some (u,v)) \/
      (jg l u=none/\(Instr.findAsking kt (lN u) es i).run P w=.ok none w)
  | [],[],i,_=>.inr ⟨rfl,by simp[Instr.findAsking]⟩
  | e :: es,p :: l,i,h=>by
    simp only[kvs,Fa,List.map_cons,List.cons.injEq,Prod.mk.injEq] at h;obtain⟨⟨hk,hv⟩,hr⟩:=h;have he:(Op.equal kt (lN u) e.key).run P w=.ok (I6.beq u p.1) w:=by rw[hk]; exact BH 12 kt _ _ _ Op.maxDepth (eq u p.1) (by decide)
    have hb:I6.beq u p.1=(p.1==u):=by
      rw[I6.beq_eq]
      by_cases h:u=p.1
      · rw[decide_eq_true h,h]; simp
      · rw[decide_eq_false h]; symm; simpa using λ h'=>h h'.symm
    by_cases hu:p.1=u
    · have hbt:I6.beq u p.1=true:=by rw[hb,hu]; simp
      rw[hbt] at he;refine .inl ⟨p.2,0,?_,?_,e,rfl,by rw[hk,hu],?_⟩
      · simp[jg,hu]
      · rw[Instr.findAsking]; simp[he,hv]
      · obtain⟨a,b⟩:=p; simp only at hu ⊢; subst hu; rfl
    · have hbf:I6.beq u p.1=false:=by rw[hb]; simpa using hu
      rw[hbf] at he;have hv' : jg (p :: l) u=jg l u:=by
        unfold jg;rw[List.find?_cons];have:(p.1==u)=false:=by simpa using hu
        rw[this]
      rcases JC eq u w es l (i+1) hr with⟨v,j,h1,h2,e',h3,h4,h5⟩ | ⟨h1,h2⟩
      · refine .inl ⟨v,j+1,by rw[hv',h1],?_,e',by simpa using h3,h4,by simpa using h5⟩;rw[Instr.findAsking]; simp[he,h2]; omega
      · exact .inr ⟨by rw[hv',h1],by rw[Instr.findAsking]; simp[he,h2]⟩
  | [],_ :: _,_,h=>by simp[kvs,Fa] at h
  | _ :: _,[],_,h=>by simp[kvs,Fa] at h
theorem Dg(hT:RF P t kt et)(u:I6)(w:World){es:List MapEntry}(h:kvs es=Fa l) :
    (∃ v j,jg l u=some v/\(Instr.findKey kt (lN u) es).run P w=.ok (some (j,iv v)) w/\∃ e,es[j]? = some e/\e.key=lN u/\l[j]? = some (u,v))\/(jg l u=none/\(Instr.findKey kt (lN u) es).run P w=.ok none w):=by
  obtain⟨it,hk⟩:=hT.k;have hf:(Instr.findKey kt (lN u) es).run P w=(Instr.findAsking kt (lN u) es).run P w:=by
    cases es with
    | nil=>simp[Instr.findKey,aI hk,Instr.findNow,Instr.findAsking]
    | cons e es=>simp[Instr.findKey,aI hk,Instr.findNow,Instr.sameNow]
  rw[hf];rcases JC hT.eq u w es l 0 h with⟨v,j,h1,h2,h3⟩ | h1
  · exact .inl ⟨v,j,h1,by rw[h2,Nat.zero_add],h3⟩
  · exact .inr h1
theorem DG(hT:RF P t kt et)(s:St w0 w (star (mapA r l) B))(u:I6){R:Int->World->Prop}(h:R ((jg l u).getD 0) w) :
    aZ P (Instr.lookup t (.map (some r)) (lN u) false) w λ e w'=>∃ n:Int,e=iv n/\R n w':=by
  obtain⟨⟨⟨es,cl⟩,hok⟩,s'⟩:=s.ex;have ho:w.heap[r]? = some (.map es cl):=s'.obj;have hz:(zeroValue et).run P w=.ok (iv 0) w:=by
    have:=hT.z
    cases hi:P.info? et with
    | none=>simp[hi] at this
    | some i=>simp[hi] at this; simp[zeroValue,typeInfo,hi,this]
  have hc:=hT.ck es.isEmpty u w;rcases Dg hT u w hok.kv with⟨v,j,h1,h2,_⟩ | ⟨h1,h2⟩
  · refine⟨iv v,w,?_,v,rfl,by rwa [h1] at h⟩;simp[Instr.lookup,aI hT.u,ho,hc,h2,getObj,Sem.run]
  · refine⟨iv 0,w,?_,0,rfl,by rwa [h1] at h⟩;simp[Instr.lookup,aI hT.u,ho,hc,h2,hz,getObj,Sem.run]
def wo(l:List KV)(u:I6)(v:Int):List KV:=if (jg l u).isSome then l.map λ p=>if p.1=u then (u,v) else p else l++[(u,v)]
theorem N5{l:List KV}(hn:(l.map (·.1)).Nodup){u:I6}{v v0:Int}{j:Nat}(hj:l[j]? = some (u,v0)):l.map (λ p=>if p.1=u then (u,v) else p)=l.set j (u,v):=by
  have hlt:=(List.getElem?_eq_some_iff.1 hj).1;refine List.ext_getElem? λ i=>?_;rw[List.getElem?_map,List.getElem?_set]
  by_cases e:j=i
  · subst e; rw[if_pos rfl,if_pos hlt,hj]; simp
  · rw[if_neg e]
    cases hi:l[i]? with
    | none=>rfl
    | some p =>
      have hil:=(List.getElem?_eq_some_iff.1 hi).1;have hne:p.1≠u:=λ h=>by
        have h1:(l.map (·.1))[j]? = some u:=by rw[List.getElem?_map,hj]; rfl
        have h2:(l.map (·.1))[i]? = some u:=by rw[List.getElem?_map,hi]; simp[h]
        exact e ((List.getElem?_inj (by simpa using hlt) hn).1 (h1.trans h2.symm))
      simp[hne]
theorem AY{l:List KV}{u:I6}(h:jg l u=none):∀ p∈l,p.1≠u:=λ p hp e=>by
  unfold jg at h;rw[Option.map_eq_none_iff,List.find?_eq_none] at h;exact h p hp (by simpa using e)
theorem Ma{l:List KV}(hn:(l.map (·.1)).Nodup){p:KV}(hp:p∈l):jg l p.1=some p.2:=by
  induction l with
  | nil=>cases hp
  | cons q l ih =>
    simp only[List.map_cons,List.nodup_cons] at hn;unfold jg;rw[List.find?_cons];rcases List.mem_cons.1 hp with rfl | h
    · simp
    · have hne:q.1≠p.1:=λ e=>hn.1 (by rw[e]; exact List.mem_map_of_mem h);have:(q.1==p.1)=false:=by simpa using hne
      rw[this];exact ih hn.2 h
theorem AZ{l:List KV}{u:I6}{v:Int}(h:jg l u=some v):(u,v)∈l:=by
  unfold jg at h;rw[Option.map_eq_some_iff] at h;obtain⟨p,h1,h2⟩:=h;have hm:=List.mem_of_find?_eq_some h1;have hu:=List.find?_some h1;obtain⟨a,b⟩:=p;simp only[beq_iff_eq] at hu;simp only at h2;subst hu h2; exact hm
theorem Mb(l:List KV)(u x:I6)(v:Int):jg (wo l u v) x=if x=u then some v else jg l x:=by
  unfold wo
  cases hs:jg l u with
  | none =>
    have hn:=AY hs;rw[if_neg (by simp)];unfold jg;rw[List.find?_append]
    by_cases hx:x=u
    · subst hx;have:l.find? (λ p=>p.1==x)=none:=by rw[List.find?_eq_none]; intro p hp; simpa using hn p hp
      rw[this]; simp
    · rw[if_neg hx];have:(u==x)=false:=by simpa using λ h=>hx h.symm
      simp[this]
  | some v0 =>
    rw[if_pos (show(some v0).isSome=true from rfl)];have hm:=AZ hs;clear hs;unfold jg
    by_cases hx:x=u
    · subst hx;rw[if_pos rfl]
      induction l with
      | nil=>cases hm
      | cons q l ih =>
        rw[List.map_cons,List.find?_cons]
        by_cases hq:q.1=x
        · simp[hq]
        · have:(q.1==x)=false:=by simpa using hq
          simp only[if_neg hq,this];refine ih ?_;rcases List.mem_cons.1 hm with rfl | h
          · exact absurd rfl hq
          · exact h
    · rw[if_neg hx];clear hm
      induction l with
      | nil=>rfl
      | cons q l ih =>
        rw[List.map_cons,List.find?_cons,List.find?_cons]
        by_cases hq:q.1=u
        · have h1:(u==x)=false:=by simpa using λ h=>hx h.symm
          have h2:(q.1==x)=false:=by rw[hq]; exact h1
          simp only[if_pos hq,h1,h2]; exact ih
        · simp only[if_neg hq]
          cases h:(q.1==x) with
          | true=>rfl
          | false=>exact ih
theorem IX(u:I6):Instr.sameBits 10000 (lN u) (lN u)=true:=by
  rw[show(10000:Nat)=9998+1+1 from rfl];simp[Instr.sameBits,I6.vs]
theorem NN(hT:RF P t kt et)(s:St w0 w (star (mapA r l) B))(u:I6)(v:Int){R:World->Prop}(h:∀ w',St w0 w' (star (mapA r (wo l u v)) B)->R w') :
    aZ P (Instr.mapUpdate t (.map (some r)) (lN u) (iv v)) w λ _ w'=>R w':=by
  obtain⟨⟨⟨es,cl⟩,hok⟩,s'⟩:=s.ex;have ho:w.heap[r]? = some (.map es cl):=s'.obj;have hc:=hT.ck false u w;rcases Dg hT u w hok.kv with⟨v0,j,h1,h2,e0,h3,h4,h5⟩ | ⟨h1,h2⟩
  · have hj:=(List.getElem?_eq_some_iff.1 h3).1;have hes:es[j]? = some e0:=by simpa using h3
    have hs:=s'.put (.map (es.modify j λ e=>{ e with key:=lN u,val:=iv v }) cl);have hr:(Instr.mapUpdate t (.map (some r)) (lN u) (iv v)).run P w=.ok () { w with heap:=w.heap.setIfInBounds r (.map (es.modify j λ e=>{ e with key:=lN u,val:=iv v }) cl) }:=by
      simp[Instr.mapUpdate,aI hT.u,ho,hc,h2,hes,h4,Instr.keyThatStays,IX,setObj,getObj,Sem.run]
    suffices H:CG (es.modify j λ e=>{ e with key:=lN u,val:=iv v }).toList cl (wo l u v) from
      ⟨_,_,hr,h _ (St.kK (f:=λ (x:{ p:Array MapEntry×Nat // CG p.1.toList p.2 (wo l u v) })=>aK r (.map x.1.1 x.1.2)) ⟨(_,_),H⟩ hs)⟩
    have esl:wo l u v=l.set j (u,v):=by rw[wo,if_pos (by rw[h1]; rfl),N5 hok.ky h5]
    have em:(es.modify j λ e=>{ e with key:=lN u,val:=iv v }).toList=es.toList.set j { e0 with key:=lN u,val:=iv v }:=by
      rw[Array.toList_modify];refine List.ext_getElem? λ i=>?_;rw[List.getElem?_modify,List.getElem?_set]
      by_cases e:j=i
      · subst e; rw[if_pos rfl,if_pos hj,h3]; simp
      · rw[if_neg e]; cases es.toList[i]? <;> simp[e]
    rw[em,esl];have hkv:=hok.kv;refine⟨?_,?_,?_,?_⟩
    · unfold kvs Fa at hkv ⊢;rw[List.map_set,List.map_set,hkv]
    · rw[List.map_set];have:(es.toList.map (·.born)).set j e0.born=es.toList.map (·.born):=by
        refine List.ext_getElem? λ i=>?_;rw[List.getElem?_set]
        split
        · rename_i e; subst e; rw[List.getElem?_map,h3,if_pos (by rw[List.length_map]; exact hj)]; rfl
        · rfl
      show((es.toList.map (·.born)).set j e0.born).Nodup;rw[this]; exact hok.nd
    · intro e he;rcases List.mem_or_eq_of_mem_set he with he | rfl
      · exact hok.lt e he
      · exact hok.lt e0 (List.mem_of_getElem? h3)
    · rw[List.map_set];have:(l.map (·.1)).set j u=l.map (·.1):=by
        refine List.ext_getElem? λ i=>?_;rw[List.getElem?_set]
        split
        · rename_i e; subst e;have:=(List.getElem?_eq_some_iff.1 h5).1;rw[List.getElem?_map,h5]; simp[this]
        · rfl
      show((l.map (·.1)).set j u).Nodup;rw[this]; exact hok.ky
  · have hs:=s'.put (.map (es.push { key:=lN u,val:=iv v,born:=cl }) (cl+1));have hr:(Instr.mapUpdate t (.map (some r)) (lN u) (iv v)).run P w=.ok () { w with heap:=w.heap.setIfInBounds r (.map (es.push { key:=lN u,val:=iv v,born:=cl }) (cl+1)) }:=by
      simp[Instr.mapUpdate,aI hT.u,ho,hc,h2,setObj,getObj,Sem.run]
    suffices H:CG (es.push { key:=lN u,val:=iv v,born:=cl }).toList (cl+1) (wo l u v) from
      ⟨_,_,hr,h _ (St.kK (f:=λ (x:{ p:Array MapEntry×Nat // CG p.1.toList p.2 (wo l u v) })=>aK r (.map x.1.1 x.1.2)) ⟨(_,_),H⟩ hs)⟩
    have esl:wo l u v=l++[(u,v)]:=by rw[wo,if_neg (by rw[h1]; decide)]
    rw[esl];have et:(es.push { key:=lN u,val:=iv v,born:=cl }).toList=es.toList++[{ key:=lN u,val:=iv v,born:=cl }]:=by simp
    rw[et];refine⟨?_,?_,?_,?_⟩
    · have:=hok.kv; unfold kvs Fa at this ⊢; rw[List.map_append,List.map_append,this]; rfl
    · rw[List.map_append,List.nodup_append];refine⟨hok.nd,by simp,λ a ha b hb=>?_⟩;obtain⟨e,he,rfl⟩:=List.mem_map.1 ha;have:=hok.lt e he;simp at hb; omega
    · intro e he;rcases List.mem_append.1 he with he | he
      · have:=hok.lt e he; omega
      · rw[List.mem_singleton.1 he]; show cl<cl+1; omega
    · rw[List.map_append,List.nodup_append];refine⟨hok.ky,by simp,λ a ha b hb=>?_⟩;obtain⟨p,hp,rfl⟩:=List.mem_map.1 ha;have:=AY h1 p hp;simp at hb; subst hb; exact this
end
theorem ql{α:Type}[BEq α][LawfulBEq α]:∀ {l m:List α},l.Nodup->(∀ x∈l,x∈m)->l.length<=m.length
  | [],_,_,_=>Nat.zero_le _
  | x :: l,m,hd,h=>by
    rw[List.nodup_cons] at hd;have hx:=h x (by simp);have:=ql (l:=l) (m:=m.erase x) hd.2 λ y hy=>by
      refine(List.mem_erase_of_ne ?_).2 (h y (by simp[hy]));rintro rfl; exact hd.1 hy
    rw[List.length_erase_of_mem hx] at this;have:=List.length_pos_of_mem hx;simp only[List.length_cons]; omega
theorem Ng{u v:I6}(h:lN u=lN v):u=v:=by
  cases u; cases v
  simp only[lN,I6.vs,Value.agg.injEq,Array.mk.injEq,List.cons.injEq,Value.int.injEq,true_and,and_true] at h;obtain⟨rfl,rfl,rfl,rfl,rfl,rfl⟩:=h; rfl
theorem born_inj:∀ {es:List MapEntry},(es.map (·.born)).Nodup->∀ {a b:MapEntry},a∈es->b∈es->a.born=b.born->a=b
  | e :: es,hn,a,b,ha,hb,h=>by
    rw[List.map_cons,List.nodup_cons] at hn;rcases List.mem_cons.1 ha with ea | ha'
    · rcases List.mem_cons.1 hb with eb | hb'
      · rw[ea,eb]
      · exact absurd (by rw[<- ea,h]; exact List.mem_map_of_mem hb') hn.1
    · rcases List.mem_cons.1 hb with eb | hb'
      · exact absurd (by rw[<- eb,<- h]; exact List.mem_map_of_mem ha') hn.1
      · exact born_inj hn.2 ha' hb' h
theorem KC{es:List MapEntry}{l:List KV}(h:kvs es=Fa l):es.length=l.length:=by
  have:=congrArg List.length h;simpa[kvs,Fa] using this
theorem OT{es:List MapEntry}{l:List KV}(h:kvs es=Fa l){e:MapEntry}(he:e∈es):∃ p∈l,e.key=lN p.1/\e.val=iv p.2:=by
  have h1:(e.key,e.val)∈kvs es:=List.mem_map_of_mem (f:=λ e:MapEntry=>(e.key,e.val)) he;rw[h] at h1;obtain⟨p,hp,hh⟩:=List.mem_map.1 h1;simp only[Prod.mk.injEq] at hh;exact⟨p,hp,hh.1.symm,hh.2.symm⟩
theorem RW{es:List MapEntry}{l:List KV}(h:kvs es=Fa l){p:KV}(hp:p∈l):∃ e∈es,e.key=lN p.1/\e.val=iv p.2:=by
  have h1:(lN p.1,iv p.2)∈Fa l:=List.mem_map_of_mem (f:=λ p:KV=>(lN p.1,iv p.2)) hp;rw[<- h] at h1;obtain⟨e,he,hh⟩:=List.mem_map.1 h1;simp only[Prod.mk.injEq] at hh;exact⟨e,he,hh.1,hh.2⟩
structure RG (es:List MapEntry) (seen:List Nat) (S:List KV) (vis:List MapEntry):Prop where
  sn:seen=vis.map (·.born)
  nd:seen.Nodup
  sub:∀ e∈vis,e∈es
  kv:kvs vis=Fa S
structure SY (l S:List KV) where
  es:Array MapEntry
  cl:Nat
  seen:Array Nat
  vis:List MapEntry
  ok:CG es.toList cl l
  vk:RG es.toList seen.toList S vis
def yd(r it:Nat)(l S:List KV):aD:=Jh λ (x:SY l S)=>star (aK it (.mapIter (some r) x.cl x.seen x.cl)) (aK r (.map x.es x.cl))
section
variable {P:Program} {t kt et:TypeId} {w0 w:World} {B:aD} {r it:Nat} {l S:List KV}
theorem kN(hT:RF P t kt et)(s:St w0 w (star (mapA r l) B)){R:Nat->World->Prop}(k:∀ it w',St w0 w' (star (yd r it l []) B)->R it w') :
    aZ P (Instr.range t (.map (some r))) w λ e w'=>∃ it:Nat,e=.pointer (some ⟨it,0,none⟩)/\R it w':=by
  obtain⟨⟨⟨es,cl⟩,hok⟩,s'⟩:=s.ex;have ho:w.heap[r]? = some (.map es cl):=s'.obj;have hr:(Instr.range t (.map (some r))).run P w=.ok (.pointer (some ⟨w.heap.size,0,none⟩)) (w.alloc (.mapIter (some r) cl #[] cl)):=by
    simp[Instr.range,aI hT.u,ho,getObj,Sem.run]
  refine⟨_,_,hr,_,rfl,k _ _ ?_⟩;have s2:=(s'.newObj (.mapIter (some r) cl #[] cl)).swap;exact St.kK (f:=λ (x:SY l [])=>star (aK w.heap.size (.mapIter (some r) x.cl x.seen x.cl)) (aK r (.map x.es x.cl))) ⟨es,cl,#[],[],hok,⟨rfl,by simp,by simp,rfl⟩⟩ (s2.eqv aS.assoc')
theorem St.ye(s:St w0 w (star (yd r it l S) B)):St w0 w (star (mapA r l) B):=by
  obtain⟨x,s'⟩:=s.ex;exact St.kK (f:=λ (x:{ p:Array MapEntry×Nat // CG p.1.toList p.2 l })=>aK r (.map x.1.1 x.1.2)) ⟨(x.es,x.cl),x.ok⟩ (s'.assoc.second)
theorem od{ty:TypeId}(s:St w0 w (star (yd r it l S) B)){K:World->Prop}{F:I6->Int->World->Prop}(hend:(∀ p∈l,p∈S)->K w)(hstep:∀ p∈l,S.length<l.length->∀ w',St w0 w' (star (yd r it l (S++[p])) B)->F p.1 p.2 w') :
    aZ P (Instr.next (.pointer (some ⟨it,0,none⟩)) false ty) w λ e w'=>(e=.tuple #[.bool false]/\K w')\/∃ v1 v2:Value,e=.tuple #[.bool true,v1,v2] /\
      aZ P (Instr.entry (.pointer (some ⟨it,0,none⟩))) w' λ e' w''=>∃ (u:I6) (n:Int),e' = .tuple #[lN u,iv n]/\F u n w'':=by
  obtain⟨x,s'⟩:=s.ex;have hi:w.heap[it]? = some (.mapIter (some r) x.cl x.seen x.cl):=s'.assoc.obj;have hm:w.heap[r]? = some (.map x.es x.cl):=s'.assoc.AJ.obj;have kvE:=x.ok.kv;have kvV:=x.vk.kv;rcases run_next_at (P:=P) w ty it r x.cl x.cl x.seen x.es x.cl hi hm x.ok.lt (Nat.le_refl _) with⟨h0,hr⟩ | ⟨e,he,w1,hw1,hr⟩
  · refine⟨_,w,hr,.inl ⟨rfl,hend λ p hp=>?_⟩⟩;obtain⟨e,he,hk,hv⟩:=RW kvE hp;have hs:e.born∈x.seen.toList:=by
      by_cases hc:e.born∈x.seen.toList
      · exact hc
      · have:e∈leftOf x.es x.seen:=by
          unfold leftOf;simp only[Array.mem_filter,Array.mem_toList_iff] at *;exact⟨he,by simpa using hc⟩
        rw[Array.eq_empty_of_size_eq_zero h0] at this;simp at this
    rw[x.vk.sn] at hs;obtain⟨e',he',hb⟩:=List.mem_map.1 hs;have ee:=born_inj x.ok.nd (x.vk.sub e' he') he hb;subst ee;obtain⟨q,hq,hk2,hv2⟩:=OT kvV he';have h1:q.1=p.1:=Ng (hk2.symm.trans hk);have h2:q.2=p.2:=by
      have:=hv2.symm.trans hv
      injection this
    have:q=p:=Prod.ext h1 h2;rw[<- this]; exact hq
  · have hel:e∈x.es.toList/\e.born∉x.seen.toList:=by
      unfold leftOf at he;simp only[Array.toList_filter,List.mem_filter] at he;exact⟨he.1,by simpa using he.2⟩
    obtain⟨p,hp,hk,hv⟩:=OT kvE hel.1;have s1:St w0 w1 (star (star (aK it (.mapIter (some r) x.cl x.seen x.cl)) (aK r (.map x.es x.cl))) B):=by
      rcases hw1 with rfl | rfl
      · exact s'
      · exact s'.quiet (az.drew w [])
    have s2:St w0 (w1.putObj it (.mapIter (some r) x.cl (x.seen.push e.born) x.cl)) (star (aK it (.mapIter (some r) x.cl (x.seen.push e.born) x.cl)) (star (aK r (.map x.es x.cl)) B)):=s1.assoc.put _;have e2:ChangeMaps.setBlock w1 it (.mapIter (some r) x.cl (x.seen.push e.born) x.cl)=w1.putObj it (.mapIter (some r) x.cl (x.seen.push e.born) x.cl):=rfl;rw[e2] at hr;refine⟨_,_,hr,.inr ⟨_,_,rfl,?_⟩⟩;have he2:=run_entry_at (P:=P) _ it r x.cl x.seen x.es x.cl e s2.obj s2.AJ.obj hel.1 x.ok.nd;have nd2:(x.seen.toList++[e.born]).Nodup:=by
      rw[List.nodup_append];refine⟨x.vk.nd,by simp,λ a ha b hb=>?_⟩;simp at hb; subst hb;rintro rfl; exact hel.2 ha
    have hlen:S.length<l.length:=by
      have h1:=KC kvV;have h2:=KC kvE;have h3:(x.seen.toList++[e.born]).length<=(x.es.toList.map (·.born)).length:=ql nd2 λ b hb=>by
        rcases List.mem_append.1 hb with hb | hb
        · rw[x.vk.sn] at hb;obtain⟨e',he',rfl⟩:=List.mem_map.1 hb;exact List.mem_map_of_mem (x.vk.sub e' he')
        · rw[List.mem_singleton.1 hb]; exact List.mem_map_of_mem hel.1
      rw[List.length_append,List.length_map,x.vk.sn,List.length_map,List.length_singleton] at h3;omega
    refine⟨_,_,he2,p.1,p.2,by rw[hk,hv],hstep p hp hlen _ ?_⟩;refine St.kK (f:=λ (x:SY l (S++[p]))=>star (aK it (.mapIter (some r) x.cl x.seen x.cl)) (aK r (.map x.es x.cl))) ⟨x.es,x.cl,x.seen.push e.born,x.vis++[e],x.ok,⟨?_,?_,?_,?_⟩⟩ (s2.eqv aS.assoc')
    · have:=x.vk.sn; rw[List.map_append,<- this]; simp
    · simpa using nd2
    · intro y hy;rcases List.mem_append.1 hy with hy | hy
      · exact x.vk.sub y hy
      · rw[List.mem_singleton.1 hy]; exact hel.1
    · have hkv:=kvV;unfold kvs Fa at hkv ⊢;rw[List.map_append,List.map_append,hkv,List.map_singleton,List.map_singleton,hk,hv]
end
end Go.Vc
