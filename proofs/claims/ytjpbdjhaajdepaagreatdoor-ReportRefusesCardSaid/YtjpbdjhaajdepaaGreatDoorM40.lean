import Derived.Test.YtjpbdjhaajdepaaGreatDoorTie
import Derived.Test.YtjpbdjhaajdepaaGreatDoorCards
import Derived.DataReads
import Derived.ProofKit
import Derived.OpenShut
import Derived.ChangeOld
import Derived.ChangeSlices
import Derived.Below
import Derived.Lay
import Derived.Lib.SmallJoins
import Derived.Lib.LaidTab
import Derived.ChangeSame
import Derived.ChangeVars
import Derived.JoinedOf
import Derived.LaidLaws
import Derived.LaidHandle
import Derived.Stop.Joined
import Derived.Stop.LaidErr
import Derived.SevenTiedAt
import Derived.Test.YtjpbdjhaajdepaaGreatDoorM04
import Derived.Test.YtjpbdjhaajdepaaGreatDoorM28
import Derived.Test.YtjpbdjhaajdepaaGreatDoorM31
import Derived.Test.YtjpbdjhaajdepaaGreatDoorM39
set_option linter.unusedVariables false
set_option maxRecDepth 100000
namespace Go.Proofs.YtjpbdjhaajdepaaGreatDoor
open Go Go.Vc Go.RowKit Go.Deep
theorem cW{P:Program}{w:World}{d:Nat}{t:TypeId}{cs:List Value}{fs:Array Field}(h:pQ P w (d+1) t cs)(hu:P.underlying t=some (.struct fs))(i:Nat)(f:Field)(hf:fs[i]? = some f) :
    pQ P w d f.type ((cs.drop f.offset).take (P.cellsOf f.type)):=by
  unfold pQ at h;simp only[hu] at h;exact h.2 f (by simpa using Array.mem_of_getElem? hf)
theorem GV{α:Type}{Q:Nat->α->Prop}:∀ {l:Nat},(∀ i,i<l->∃ a,Q i a)->∃ L:List α,L.length=l/\∀ i a,L[i]? = some a->Q i a
  | 0,_=>⟨[],rfl,λ i a h=>by simp at h⟩
  | l+1,h=>by
    obtain⟨L,h1,h2⟩:=GV (l:=l) λ i hi=>h i (by omega);obtain⟨a,ha⟩:=h l (by omega);refine⟨L++[a],by simp[h1],λ i b hb=>?_⟩;rcases Nat.lt_or_ge i L.length with hi | hi
    · rw[List.getElem?_append_left hi] at hb; exact h2 i b hb
    · rw[List.getElem?_append_right hi] at hb;have h0:i-L.length=0:=by
        have:=(List.getElem?_eq_some_iff.1 hb).1;simp at this; omega
      rw[h0] at hb;simp at hb;subst hb;rw[show i=l by omega]; exact ha
theorem GN:∀ {cs:List Value},(∀ v∈cs,∃ n,v=iv n/\In n)->∃ ns:List Int,cs=ns.map iv/\∀ n∈ns,In n
  | [],_=>⟨[],rfl,by simp⟩
  | v :: cs,h=>by
    obtain⟨n,rfl,hn⟩:=h v (List.mem_cons_self ..);obtain⟨ns,rfl,hs⟩:=GN (cs:=cs) λ u hu=>h u (List.mem_cons_of_mem _ hu);refine⟨n :: ns,rfl,λ x hx=>?_⟩;rcases List.mem_cons.1 hx with rfl | hx
    · exact hn
    · exact hs x hx
theorem jW{w:World}{d t:Nat}{cs:List Value}(h:pQ Tryz.prog w (d+1) t cs)(hu:Tryz.prog.underlying t=some (.int .i64)):∃ n,cs=[iv n]/\In n:=by
  unfold pQ at h;simp only[hu] at h;obtain⟨n,rfl,hw⟩:=h;refine⟨n,rfl,?_⟩;simp[Lit.wf,IntKind.min,IntKind.max,IntKind.signed,IntKind.bits] at hw;exact⟨by omega,by omega⟩
theorem Ob{w:World}{d t k e:Nat}{cs:List Value}(h:pQ Tryz.prog w (d+2) t cs)(hu:Tryz.prog.underlying t=some (.array k e))(he:Tryz.prog.underlying e=some (.int .i64))(hc:Tryz.prog.cellsOf t=k)(h1:Tryz.prog.cellsOf e=1) :
    ∃ ns:List Int,cs=ns.map iv/\ns.length=k/\∀ n∈ns,In n:=by
  unfold pQ at h;simp only[hu] at h;obtain⟨hl,hi⟩:=h;rw[hc] at hl;obtain⟨ns,rfl,hs⟩:=GN (cs:=cs) λ v hv=>by
    obtain⟨i,hlt,rfl⟩:=List.mem_iff_getElem.1 hv;obtain⟨n,hn,hI⟩:=jW (hi i (by omega)) he;rw[h1,Nat.mul_one] at hn;have e1:(cs.drop i).take 1=[cs[i]]:=by
      rw[List.drop_eq_getElem_cons hlt]; rfl
    rw[e1] at hn;exact⟨n,by simpa using hn,hI⟩
  exact⟨ns,rfl,by simpa using hl,hs⟩
theorem ID{w:World}{d t e:Nat}{cs:List Value}(h:pQ Tryz.prog w (d+1) t cs)(hu:Tryz.prog.underlying t=some (.slice e)) :
    ∃ (a:OA) (l c:Nat),cs=[.slice a l c]/\l<=c/\l<=9223372036854775807/\l*Tryz.prog.bytesOf e<=140737488351232 /\
      ∀ i,i<l->∃ q cs',a=some q/\cs'.length=Tryz.prog.cellsOf e/\af w (q.add (i*Tryz.prog.cellsOf e)) 0 cs'/\pQ Tryz.prog w d e cs':=by
  unfold pQ at h;simp only[hu] at h;obtain⟨a,l,c,rfl,hlc,hcm,_,hb,hi⟩:=h;refine⟨a,l,c,rfl,hlc,by unfold maxLen at hcm; omega,hb,λ i hl=>?_⟩;obtain⟨q,cs',ha,hcs,ho⟩:=hi i hl;obtain⟨_,hlen,hg⟩:=World.cells?_some hcs;exact⟨q,cs',ha,hlen,bz _ 0 λ j v hj=>by
    rw[Nat.zero_add,hg j (by have:=(List.getElem?_eq_some_iff.1 hj).1; omega)]; exact hj,ho⟩
theorem E2:Tryz.prog.cellsOf 3=1:=by kernel_rfl
theorem JF:Tryz.prog.cellsOf 2=1:=by kernel_rfl
theorem Gp:Tryz.prog.cellsOf 42=6:=by kernel_rfl
theorem MF:Tryz.prog.cellsOf 9=1:=by kernel_rfl
theorem MC:Tryz.prog.cellsOf 43=1:=by kernel_rfl
theorem MD:Tryz.prog.cellsOf 45=11:=by kernel_rfl
theorem ME:Tryz.prog.cellsOf 24=4:=by kernel_rfl
theorem Rl{w:World}{cs:List Value}(h:pQ Tryz.prog w 5 45 cs)(hlen:cs.length=11):∃ e:Ev,cs=e.cells/\e.In:=by
  match cs,hlen with
  | [x0,x1,x2,x3,x4,x5,x6,x7,x8,x9,x10],_ =>
    have q0:pQ Tryz.prog w 4 3 (([x0,x1,x2,x3,x4,x5,x6,x7,x8,x9,x10].drop 0).take (Tryz.prog.cellsOf 3)):=cW h Tryz.underlying45 0 _ rfl;have q1:pQ Tryz.prog w 4 3 (([x0,x1,x2,x3,x4,x5,x6,x7,x8,x9,x10].drop 1).take (Tryz.prog.cellsOf 3)):=cW h Tryz.underlying45 1 _ rfl;have q2:pQ Tryz.prog w 4 3 (([x0,x1,x2,x3,x4,x5,x6,x7,x8,x9,x10].drop 2).take (Tryz.prog.cellsOf 3)):=cW h Tryz.underlying45 2 _ rfl;have q3:pQ Tryz.prog w 4 42 (([x0,x1,x2,x3,x4,x5,x6,x7,x8,x9,x10].drop 3).take (Tryz.prog.cellsOf 42)):=cW h Tryz.underlying45 3 _ rfl;have q4:pQ Tryz.prog w 4 9 (([x0,x1,x2,x3,x4,x5,x6,x7,x8,x9,x10].drop 9).take (Tryz.prog.cellsOf 9)):=cW h Tryz.underlying45 4 _ rfl;have q5:pQ Tryz.prog w 4 43 (([x0,x1,x2,x3,x4,x5,x6,x7,x8,x9,x10].drop 10).take (Tryz.prog.cellsOf 43)):=cW h Tryz.underlying45 5 _ rfl;rw[E2] at q0 q1 q2; rw[Gp] at q3; rw[MF] at q4; rw[MC] at q5;obtain⟨n0,e0,_⟩:=jW q0 Tryz.underlying3;obtain⟨n1,e1,_⟩:=jW q1 Tryz.underlying3;obtain⟨n2,e2,_⟩:=jW q2 Tryz.underlying3;obtain⟨ns,e3,l3,_⟩:=Ob q3 Tryz.underlying42 Tryz.underlying3 Gp E2;unfold pQ at q4 q5;simp only[Tryz.underlying9] at q4;simp only[Tryz.underlying43] at q5;obtain⟨s,e4,_⟩:=q4;obtain⟨d,e5,hd⟩:=q5
    match ns,l3 with
    | [u0,u1,u2,u3,u4,u5],_ =>
      simp at e0 e1 e2 e3 e4 e5;obtain⟨rfl,rfl,rfl,rfl,rfl,rfl⟩:=e3;subst e0 e1 e2 e4 e5;refine⟨⟨n0,n1,n2,⟨u0,u1,u2,u3,u4,u5⟩,s.data.toList,d⟩,rfl,⟨?_⟩⟩;simp[Lit.wf,IntKind.min,IntKind.max,IntKind.signed,IntKind.bits] at hd;show 0<=d/\d<18446744073709551616;omega
theorem D3{w:World}{cs:List Value}(h:pQ Tryz.prog w 6 22 cs):∃ (a:OA) (c:Nat) (l:List Ev),cs=[.slice a l.length c]/\l.length<=c/\cN 11 Ev.cells w a l/\∀ e∈l,e.In:=by
  obtain⟨a,n,c,rfl,hc,_,_,hi⟩:=ID h Tryz.underlying22;obtain⟨L,h1,h2⟩:=GV (Q:=λ i (e:Ev)=>e.In/\∃ q,a=some q/\af w (q.add (i*11)) 0 e.cells) (l:=n) λ i hl=>by
    obtain⟨q,cs',ha,hlen,hc,ho⟩:=hi i hl;rw[MD] at hlen hc;obtain⟨e,rfl,he⟩:=Rl ho hlen;exact⟨e,he,q,ha,hc⟩
  refine⟨a,c,L,by rw[h1],by omega,λ i e he=>let ⟨_,q,hq,hc⟩:=h2 i e he; ⟨q,_,hq,hc,rfl,rfl⟩,λ e he=>?_⟩;obtain⟨i,hlt,rfl⟩:=List.mem_iff_getElem.1 he;exact(h2 i _ (gE hlt)).1
theorem G3{w:World}{cs:List Value}(h:pQ Tryz.prog w 6 24 cs):∃ o:Po,cs=o.cells:=by
  have hlen:cs.length=4:=by
    have h':=h;unfold pQ at h';simp only[Tryz.underlying24] at h';rw[<- ME]; exact h'.1
  match cs,hlen with
  | [x0,x1,x2,x3],_ =>
    have q0:pQ Tryz.prog w 5 2 (([x0,x1,x2,x3].drop 0).take (Tryz.prog.cellsOf 2)):=cW h Tryz.underlying24 0 _ rfl;have q1:pQ Tryz.prog w 5 3 (([x0,x1,x2,x3].drop 1).take (Tryz.prog.cellsOf 3)):=cW h Tryz.underlying24 1 _ rfl;have q2:pQ Tryz.prog w 5 3 (([x0,x1,x2,x3].drop 2).take (Tryz.prog.cellsOf 3)):=cW h Tryz.underlying24 2 _ rfl;have q3:pQ Tryz.prog w 5 3 (([x0,x1,x2,x3].drop 3).take (Tryz.prog.cellsOf 3)):=cW h Tryz.underlying24 3 _ rfl;rw[JF] at q0; rw[E2] at q1 q2 q3;obtain⟨n0,e0,_⟩:=jW q0 Tryz.underlying2;obtain⟨n1,e1,_⟩:=jW q1 Tryz.underlying3;obtain⟨n2,e2,_⟩:=jW q2 Tryz.underlying3;obtain⟨n3,e3,_⟩:=jW q3 Tryz.underlying3;simp at e0 e1 e2 e3;subst e0 e1 e2 e3;exact⟨⟨n0,n1,n2,n3⟩,rfl⟩
theorem TP{f:FuncId}{e:Array Value->Sem Value} (h:∃ fn,Tryz.prog.funcs[f]? = some fn/\(fn.name== "runtime.NumGoroutine")=false/\fn.body.isNone=true/\(Extern.findNext fn).isNone=true/\Extern.find fn=some e):Gx.PZ Tryz.prog f e:=by
  obtain⟨fn,h1,h2,h3,h4,h5⟩:=h;exact⟨fn,h1,h2,h3,by simpa using h4,h5⟩
theorem Vk:xt.OK Tryz.prog where
  noEsc:=TP ⟨_,Tryz.func79,by kernel_rfl,by kernel_rfl,by kernel_rfl,by kernel_rfl⟩
  idx:=TP ⟨_,Tryz.func250,by kernel_rfl,by kernel_rfl,by kernel_rfl,by kernel_rfl⟩
  cnt:=TP ⟨_,Tryz.func211,by kernel_rfl,by kernel_rfl,by kernel_rfl,by kernel_rfl⟩
  mnz:=TP ⟨_,Tryz.func131,by kernel_rfl,by kernel_rfl,by kernel_rfl,by kernel_rfl⟩
  me:=Tryz.underlying85
theorem Gk:EY:=λ w =>
  (Gx.Nj (λ _=>Gx.J3 (λ _ _ _ _ _ _ _ hg _ _ _ hr hv=>Gx.Nn Vk hg hr hv) 100) Su w).mono λ _ _ ⟨h1,h2⟩=>⟨_,h1,rfl,h2⟩
end Go.Proofs.YtjpbdjhaajdepaaGreatDoor
namespace Go.Proofs.YtjpbdjhaajdepaaGreatDoor
open Go Go.Vc Go.ChangeShapes Go.WideShapes Go.ChangeAt Go.RowKit
theorem own:ownKnob Tryz.prog.godebug=none:=by kernel_rfl
theorem laidOut:laidOutB Tryz.prog=true:=by kernel_rfl
theorem C9{w w' : World}(h:aF w w' []):Below w.heap.size w w':=⟨h.env.os,h.env.tape,h.env.out,h.size,λ k hk=>h.same k hk (by simp)⟩
theorem KB(P:Program)(laid:List (String×DataW Unit))(w:World)(h:(laid.all λ x=>x.2.handleName?.isNone)=true):laidMetH P laid w=laidMet P laid w:=by
  have e:(laid.filter λ x=>x.2.handleName?.isSome)=[]:=by
    rw[List.filter_eq_nil_iff];intro x hx hs;have:=List.all_eq_true.1 h x hx;rw[Option.isNone_iff_eq_none] at this;rw[this] at hs
    cases hs
  unfold laidMetH;rw[e]
def qM:List (String×DataW Unit):=Rows.reportTotalsRow.laid.filter λ x=>x.2.handleName?.isNone
noncomputable def gx(os:Os):World:=(World.holding Tryz.prog os ⟨#[],#[],[]⟩).layVars Tryz.prog qM
theorem tn(os:Os):(gx os).os=os:=(World.layVars_os _ _ _).trans rfl
theorem Ik(os:Os)(args:Array Value):laidMet Tryz.prog qM ((gx os).forCall (λ _ _=>0) ⟨#[],args,[]⟩).memory:=by
  have e1:(qM.filter λ x=>(qM.map (·.1)).contains x.1)=qM:=List.filter_eq_self.2 λ x hx=>List.contains_iff_mem.2 (List.mem_map.2 ⟨x,hx,rfl⟩);have e2:(qM.filter λ x=>!(qM.map (·.1)).contains x.1)=[]:=List.filter_eq_nil_iff.2 λ x hx=>by rw[List.contains_iff_mem.2 (List.mem_map.2 ⟨x,hx,rfl⟩)]; simp
  have h:laidMet Tryz.prog qM (gx os):=laidMet_layVars (w0:=World.holding Tryz.prog os ⟨#[],#[],[]⟩) (qM.map (·.1)) [] (by rw[e1]; rfl) (by rw[e1]; kernel_rfl) (by rw[e1]; kernel_rfl) (by rw[e2]; exact LaidIn.none);exact h.of_heap (by simp[World.memory,World.forCall,Input.heap])
theorem DY:(Rows.reportTotalsRow.laid.all λ x=>x.2.handleName?.isNone)=true:=by kernel_rfl
theorem qP(os:Os)(args:Array Value):laidMetH Tryz.prog Rows.reportTotalsRow.laid ((gx os).forCall (λ _ _=>0) ⟨#[],args,[]⟩).memory:=by
  rw[KB _ _ _ DY];have e:qM=Rows.reportTotalsRow.laid:=List.filter_eq_self.2 (List.all_eq_true.1 DY);rw[<- e]; exact Ik os args
theorem yJ(os:Os)(args:Array Value):laidMetH Tryz.prog Rows.reportRefusesRow.laid ((gx os).forCall (λ _ _=>0) ⟨#[],args,[]⟩).memory:=qP os args
end Go.Proofs.YtjpbdjhaajdepaaGreatDoor
