import Derived.Test.YtpihmghnbplohaaGreatDoorTie
import Derived.Test.YtpihmghnbplohaaGreatDoorCards
import Derived.DataReads
import Derived.ProofKit
import Derived.ChangeOld
import Derived.ChangeSlices
import Derived.Below
import Derived.Lay
import Derived.Lib.SmallJoins
import Derived.Lib.LaidTab
import Derived.ChangeSame
import Derived.ChangeVars
import Derived.JoinedOf
import Derived.LaidLaws
import Derived.LaidHandle
import Derived.Stop.Joined
import Derived.Stop.LaidErr
import Derived.SevenTiedAt
import Derived.Test.YtpihmghnbplohaaGreatDoorQ17
set_option linter.unusedVariables false
set_option maxRecDepth 100000
namespace Go.Proofs.YtpihmghnbplohaaGreatDoor
open Go Go.Vc Go.RowKit Go.Deep
theorem dN{P:Program}{w:World}{d:Nat}{t:TypeId}{cs:List Value}{fs:Array Field}(h:rQ P w (d+1) t cs)(hu:P.underlying t=some (.struct fs))(i:Nat)(f:Field)(hf:fs[i]?=some f) :
  rQ P w d f.type ((cs.drop f.offset).take (P.cellsOf f.type)):=by
 unfold rQ at h;simp only[hu] at h;exact h.2 f (by simpa using Array.mem_of_getElem? hf)
theorem JK{α:Type}{Q:Nat->α->Prop}:∀ {l:Nat},(∀ i,i<l->∃ a,Q i a)->∃ L:List α,L.length=l/\∀ i a,L[i]?=some a->Q i a
 | 0,_=>⟨[],rfl,λ i a h=>by simp at h⟩
 | l+1,h=>by
  obtain⟨L,h1,h2⟩:=JK (l:=l) λ i hi=>h i (by omega);obtain⟨a,ha⟩:=h l (by omega);refine⟨L++[a],by simp[h1],λ i b hb=>?_⟩;rcases Nat.lt_or_ge i L.length with hi|hi
  ·rw[List.getElem?_append_left hi] at hb; exact h2 i b hb
  ·rw[List.getElem?_append_right hi] at hb;have h0:i-L.length=0:=by
    have:=(List.getElem?_eq_some_iff.1 hb).1;simp at this; omega
   rw[h0] at hb;simp at hb;subst hb;rw[show i=l by omega]; exact ha
theorem JD:∀ {cs:List Value},(∀ v∈cs,∃ n,v=iv n/\In n)->∃ ns:List Int,cs=ns.map iv/\∀ n∈ns,In n
 | [],_=>⟨[],rfl,by simp⟩
 | v :: cs,h=>by
  obtain⟨n,rfl,hn⟩:=h v (List.mem_cons_self ..);obtain⟨ns,rfl,hs⟩:=JD (cs:=cs) λ u hu=>h u (List.mem_cons_of_mem _ hu);refine⟨n :: ns,rfl,λ x hx=>?_⟩;rcases List.mem_cons.1 hx with rfl|hx
  ·exact hn
  ·exact hs x hx
theorem kI{w:World}{d t:Nat}{cs:List Value}(h:rQ Tryz.prog w (d+1) t cs)(hu:Tryz.prog.underlying t=some (.int .i64)):∃ n,cs=[iv n]/\In n:=by
 unfold rQ at h;simp only[hu] at h;obtain⟨n,rfl,hw⟩:=h;refine⟨n,rfl,?_⟩;simp[Lit.wf,IntKind.min,IntKind.max,IntKind.signed,IntKind.bits] at hw;exact⟨by omega,by omega⟩
theorem R3{w:World}{d t k e:Nat}{cs:List Value}(h:rQ Tryz.prog w (d+2) t cs)(hu:Tryz.prog.underlying t=some (.array k e))(he:Tryz.prog.underlying e=some (.int .i64))(hc:Tryz.prog.cellsOf t=k)(h1:Tryz.prog.cellsOf e=1) :
  ∃ ns:List Int,cs=ns.map iv/\ns.length=k/\∀ n∈ns,In n:=by
 unfold rQ at h;simp only[hu] at h;obtain⟨hl,hi⟩:=h;rw[hc] at hl;obtain⟨ns,rfl,hs⟩:=JD (cs:=cs) λ v hv=>by
  obtain⟨i,hlt,rfl⟩:=List.mem_iff_getElem.1 hv;obtain⟨n,hn,hI⟩:=kI (hi i (by omega)) he;rw[h1,Nat.mul_one] at hn;have e1:(cs.drop i).take 1=[cs[i]]:=by
   rw[List.drop_eq_getElem_cons hlt]; rfl
  rw[e1] at hn;exact⟨n,by simpa using hn,hI⟩
 exact⟨ns,rfl,by simpa using hl,hs⟩
theorem Lz{w:World}{d t e:Nat}{cs:List Value}(h:rQ Tryz.prog w (d+1) t cs)(hu:Tryz.prog.underlying t=some (.slice e)) :
  ∃ (a:OA) (l c:Nat),cs=[.slice a l c]/\l<=c/\l<=9223372036854775807/\l*Tryz.prog.bytesOf e<=140737488351232 /\
   ∀ i,i<l->∃ q cs',a=some q/\cs'.length=Tryz.prog.cellsOf e/\af w (q.add (i*Tryz.prog.cellsOf e)) 0 cs'/\rQ Tryz.prog w d e cs':=by
 unfold rQ at h;simp only[hu] at h;obtain⟨a,l,c,rfl,hlc,hcm,_,hb,hi⟩:=h;refine⟨a,l,c,rfl,hlc,by unfold maxLen at hcm; omega,hb,λ i hl=>?_⟩;obtain⟨q,cs',ha,hcs,ho⟩:=hi i hl;obtain⟨_,hlen,hg⟩:=World.cells?_some hcs;exact⟨q,cs',ha,hlen,bH _ 0 λ j v hj=>by
  rw[Nat.zero_add,hg j (by have:=(List.getElem?_eq_some_iff.1 hj).1; omega)]; exact hj,ho⟩
theorem Hv:Tryz.prog.cellsOf 3=1:=by kernel_rfl
theorem MJ:Tryz.prog.cellsOf 2=1:=by kernel_rfl
theorem Jd:Tryz.prog.cellsOf 41=6:=by kernel_rfl
theorem Qk:Tryz.prog.cellsOf 9=1:=by kernel_rfl
theorem Qh:Tryz.prog.cellsOf 37=1:=by kernel_rfl
theorem Qi:Tryz.prog.cellsOf 43=11:=by kernel_rfl
theorem Qj:Tryz.prog.cellsOf 23=4:=by kernel_rfl
theorem VK{w:World}{cs:List Value}(h:rQ Tryz.prog w 5 43 cs)(hlen:cs.length=11):∃ e:Ev,cs=e.cells/\e.In:=by
 match cs,hlen with
 | [x0,x1,x2,x3,x4,x5,x6,x7,x8,x9,x10],_ =>
  have q0:rQ Tryz.prog w 4 3 (([x0,x1,x2,x3,x4,x5,x6,x7,x8,x9,x10].drop 0).take (Tryz.prog.cellsOf 3)):=dN h Tryz.underlying43 0 _ rfl;have q1:rQ Tryz.prog w 4 3 (([x0,x1,x2,x3,x4,x5,x6,x7,x8,x9,x10].drop 1).take (Tryz.prog.cellsOf 3)):=dN h Tryz.underlying43 1 _ rfl;have q2:rQ Tryz.prog w 4 3 (([x0,x1,x2,x3,x4,x5,x6,x7,x8,x9,x10].drop 2).take (Tryz.prog.cellsOf 3)):=dN h Tryz.underlying43 2 _ rfl;have q3:rQ Tryz.prog w 4 41 (([x0,x1,x2,x3,x4,x5,x6,x7,x8,x9,x10].drop 3).take (Tryz.prog.cellsOf 41)):=dN h Tryz.underlying43 3 _ rfl;have q4:rQ Tryz.prog w 4 9 (([x0,x1,x2,x3,x4,x5,x6,x7,x8,x9,x10].drop 9).take (Tryz.prog.cellsOf 9)):=dN h Tryz.underlying43 4 _ rfl;have q5:rQ Tryz.prog w 4 37 (([x0,x1,x2,x3,x4,x5,x6,x7,x8,x9,x10].drop 10).take (Tryz.prog.cellsOf 37)):=dN h Tryz.underlying43 5 _ rfl;rw[Hv] at q0 q1 q2; rw[Jd] at q3; rw[Qk] at q4; rw[Qh] at q5;obtain⟨n0,e0,_⟩:=kI q0 Tryz.underlying3;obtain⟨n1,e1,_⟩:=kI q1 Tryz.underlying3;obtain⟨n2,e2,_⟩:=kI q2 Tryz.underlying3;obtain⟨ns,e3,l3,_⟩:=R3 q3 Tryz.underlying41 Tryz.underlying3 Jd Hv;unfold rQ at q4 q5;simp only[Tryz.underlying9] at q4;simp only[Tryz.underlying37] at q5;obtain⟨s,e4,_⟩:=q4;obtain⟨d,e5,hd⟩:=q5
  match ns,l3 with
  | [u0,u1,u2,u3,u4,u5],_ =>
   simp at e0 e1 e2 e3 e4 e5;obtain⟨rfl,rfl,rfl,rfl,rfl,rfl⟩:=e3;subst e0 e1 e2 e4 e5;refine⟨⟨n0,n1,n2,⟨u0,u1,u2,u3,u4,u5⟩,s.data.toList,d⟩,rfl,⟨?_⟩⟩;simp[Lit.wf,IntKind.min,IntKind.max,IntKind.signed,IntKind.bits] at hd;show 0<=d/\d<18446744073709551616;omega
theorem Ot{w:World}{cs:List Value}(h:rQ Tryz.prog w 6 24 cs):∃ (a:OA) (c:Nat) (l:List Ev),cs=[.slice a l.length c]/\l.length<=c/\dx 11 Ev.cells w a l/\∀ e∈l,e.In:=by
 obtain⟨a,n,c,rfl,hc,_,_,hi⟩:=Lz h Tryz.underlying24;obtain⟨L,h1,h2⟩:=JK (Q:=λ i (e:Ev)=>e.In/\∃ q,a=some q/\af w (q.add (i*11)) 0 e.cells) (l:=n) λ i hl=>by
  obtain⟨q,cs',ha,hlen,hc,ho⟩:=hi i hl;rw[Qi] at hlen hc;obtain⟨e,rfl,he⟩:=VK ho hlen;exact⟨e,he,q,ha,hc⟩
 refine⟨a,c,L,by rw[h1],by omega,λ i e he=>let ⟨_,q,hq,hc⟩:=h2 i e he; ⟨q,_,hq,hc,rfl,rfl⟩,λ e he=>?_⟩;obtain⟨i,hlt,rfl⟩:=List.mem_iff_getElem.1 he;exact(h2 i _ (gE hlt)).1
theorem R2{w:World}{cs:List Value}(h:rQ Tryz.prog w 6 23 cs):∃ o:Po,cs=o.cells:=by
 have hlen:cs.length=4:=by
  have h':=h;unfold rQ at h';simp only[Tryz.underlying23] at h';rw[<- Qj]; exact h'.1
 match cs,hlen with
 | [x0,x1,x2,x3],_ =>
  have q0:rQ Tryz.prog w 5 2 (([x0,x1,x2,x3].drop 0).take (Tryz.prog.cellsOf 2)):=dN h Tryz.underlying23 0 _ rfl;have q1:rQ Tryz.prog w 5 3 (([x0,x1,x2,x3].drop 1).take (Tryz.prog.cellsOf 3)):=dN h Tryz.underlying23 1 _ rfl;have q2:rQ Tryz.prog w 5 3 (([x0,x1,x2,x3].drop 2).take (Tryz.prog.cellsOf 3)):=dN h Tryz.underlying23 2 _ rfl;have q3:rQ Tryz.prog w 5 3 (([x0,x1,x2,x3].drop 3).take (Tryz.prog.cellsOf 3)):=dN h Tryz.underlying23 3 _ rfl;rw[MJ] at q0; rw[Hv] at q1 q2 q3;obtain⟨n0,e0,_⟩:=kI q0 Tryz.underlying2;obtain⟨n1,e1,_⟩:=kI q1 Tryz.underlying3;obtain⟨n2,e2,_⟩:=kI q2 Tryz.underlying3;obtain⟨n3,e3,_⟩:=kI q3 Tryz.underlying3;simp at e0 e1 e2 e3;subst e0 e1 e2 e3;exact⟨⟨n0,n1,n2,n3⟩,rfl⟩
theorem Yh{f:FuncId}{e:Array Value->Sem Value} (h:∃ fn,Tryz.prog.funcs[f]?=some fn/\(fn.name== "runtime.NumGoroutine")=false/\fn.body.isNone=true/\(Extern.findNext fn).isNone=true/\Extern.find fn=some e):Gx.Uh Tryz.prog f e:=by
 obtain⟨fn,h1,h2,h3,h4,h5⟩:=h;exact⟨fn,h1,h2,h3,by simpa using h4,h5⟩
theorem ZX:xt.OK Tryz.prog where
 noEsc:=Yh ⟨_,Tryz.func157,by kernel_rfl,by kernel_rfl,by kernel_rfl,by kernel_rfl⟩
 idx:=Yh ⟨_,Tryz.func301,by kernel_rfl,by kernel_rfl,by kernel_rfl,by kernel_rfl⟩
 cnt:=Yh ⟨_,Tryz.func262,by kernel_rfl,by kernel_rfl,by kernel_rfl,by kernel_rfl⟩
 mnz:=Yh ⟨_,Tryz.func256,by kernel_rfl,by kernel_rfl,by kernel_rfl,by kernel_rfl⟩
 me:=Tryz.underlying125
theorem P6:MB:=λ w =>
 (Gx.Q0 (λ _=>Gx.Nh (λ _ _ _ _ _ _ _ hg _ _ _ hr hv=>Gx.Q6 ZX hg hr hv) 100) WU w).mono λ _ _ ⟨h1,h2⟩=>⟨_,h1,rfl,h2⟩
end Go.Proofs.YtpihmghnbplohaaGreatDoor
namespace Go.Proofs.YtpihmghnbplohaaGreatDoor
open Go Go.Vc Go.ChangeShapes Go.WideShapes Go.ChangeAt Go.RowKit
theorem own:ownKnob Tryz.prog.godebug=none:=by kernel_rfl
theorem laidOut:laidOutB Tryz.prog=true:=by kernel_rfl
theorem ZQ:mapsRowed Tryz.prog=true:=by kernel_rfl
theorem ZR:(Tryz.prog.stops==[])=true:=by kernel_rfl
theorem ZS:(Tryz.prog.stopKnobs==[])=true:=by kernel_rfl
theorem Zo:Tryz.prog.stopsHeard=true:=by kernel_rfl
theorem Zp:Tryz.prog.mayEnter=true:=by kernel_rfl
theorem ZT:true=Tryz.pinned.checked.prog.looks []:=by kernel_rfl
theorem MC{w w' : World}(h:aD w w' []):Below w.heap.size w w':=⟨h.env.os,h.env.tape,h.env.out,h.size,λ k hk=>h.same k hk (by simp)⟩
def ue:List (String×DataW Unit):=Rows.reportReadsRow.laid.filter λ x=>x.2.handleName?.isNone
noncomputable def PK(os:Os):World :=
 let w0:=World.holding Tryz.prog os ⟨#[],#[],[]⟩
 { w0 with heap:=w0.heap.modify 0 fun
   | .cells _ t frozen=>.cells #[.iface 265 (.agg #[.pointer (some ⟨9,141,none⟩)])] t frozen
   | o=>o }
noncomputable def lY(os:Os):World:=(PK os).layVars Tryz.prog ue
theorem DW(os:Os):(lY os).os=os:=(World.layVars_os _ _ _).trans rfl
theorem La(os:Os)(args:Array Value):laidMet Tryz.prog ue ((lY os).forCall (λ _ _=>0) ⟨#[],args,[]⟩).memory:=by
 have e1:(ue.filter λ x=>(ue.map (·.1)).contains x.1)=ue:=List.filter_eq_self.2 λ x hx=>List.contains_iff_mem.2 (List.mem_map.2 ⟨x,hx,rfl⟩);have e2:(ue.filter λ x=>!(ue.map (·.1)).contains x.1)=[]:=List.filter_eq_nil_iff.2 λ x hx=>by rw[List.contains_iff_mem.2 (List.mem_map.2 ⟨x,hx,rfl⟩)]; simp
 have h:laidMet Tryz.prog ue (lY os):=laidMet_layVars (w0:=PK os) (ue.map (·.1)) [] (by rw[e1]; rfl) (by rw[e1]; kernel_rfl) (by rw[e1]; kernel_rfl) (by rw[e2]; exact LaidIn.none);exact h.of_heap (by simp[World.memory,World.forCall,Input.heap])
theorem Bv(os:Os)(args:Array Value):laidMetH Tryz.prog Rows.reportReadsRow.laid ((lY os).forCall (λ _ _=>0) ⟨#[],args,[]⟩).memory :=
 laidMetH_of_parts (La os args) (by kernel_rfl)
theorem ZN{n:Int}(h:(Lit.int .u8 n).wf=true):0<=n/\n<=255:=by
 simp[Lit.wf,IntKind.min,IntKind.max,IntKind.signed,IntKind.bits] at h;exact⟨by omega,by omega⟩
