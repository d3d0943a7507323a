import Derived.Test.YtdpcgfcabikjmaaGreatDoorr5I
namespace Go.Proofs.YtdpcgfcabikjmaaGreatDoor
open Go Go.Vc Go.Sort Go.RowKit
set_option maxRecDepth 100000

/-! Two summaries together. -/
def ad (a b : Int) : Int := IntKind.i64.wrap (a + b)
theorem wrap_in (n : Int) : In (IntKind.i64.wrap n) := by
  constructor
  · simp only [IntKind.wrap, IntKind.signed, IntKind.bits]; simp; omega
  · simp only [IntKind.wrap, IntKind.signed, IntKind.bits]; simp; omega
theorem ad_in (a b : Int) : In (ad a b) := wrap_in _
theorem ad_assoc (a b c : Int) : ad (ad a b) c = ad a (ad b c) := by
  unfold ad
  simp only [IntKind.wrap, IntKind.signed, IntKind.bits]
  simp
  omega

def AB.pl (x y : AB) : AB := ⟨x.nm, ad x.d y.d, ad x.b y.b, ad x.wd y.wd, x.out || y.out, x.pts ++ y.pts⟩
theorem AB.pl_assoc (x y z : AB) : (x.pl y).pl z = x.pl (y.pl z) := by simp [AB.pl, ad_assoc, Bool.or_assoc]
theorem zip_assoc {α : Type} {f : α → α → α} (hf : ∀ a b c, f (f a b) c = f a (f b c)) : ∀ (l m r : List α), List.zipWith f (List.zipWith f l m) r = List.zipWith f l (List.zipWith f m r)
  | [], _, _ => by simp
  | _ :: _, [], _ => by simp
  | _ :: _, _ :: _, [] => by simp
  | a :: l, b :: m, c :: r => by simp [hf, zip_assoc hf l m r]

def AS.pl (a b : AS) : AS := ⟨List.zipWith ad a.cs b.cs, ad a.ref b.ref, a.ps ++ b.ps, a.rer ++ b.rer, List.zipWith AB.pl a.bds b.bds⟩
theorem AS.pl_assoc (a b c : AS) : (a.pl b).pl c = a.pl (b.pl c) := by
  simp [AS.pl, ad_assoc, zip_assoc ad_assoc, zip_assoc AB.pl_assoc]

def AS.nms (a : AS) : List (List UInt8) := a.bds.map AB.nm
theorem pl_aux : ∀ (l m : List AB), l.length = m.length → (List.zipWith AB.pl l m).map AB.nm = l.map AB.nm
  | [], _, _ => by simp
  | _ :: _, [], h => by simp at h
  | x :: l, y :: m, h => by
    have := pl_aux l m (by simpa using h)
    simp only [List.zipWith_cons_cons, List.map_cons, this]
    rfl
theorem pl_nms {a b : AS} (h : a.nms = b.nms) : (a.pl b).nms = a.nms := by
  have hl : a.bds.length = b.bds.length := by have := congrArg List.length h; simpa [AS.nms] using this
  unfold AS.nms AS.pl
  simp only
  exact pl_aux _ _ hl

def AS.zero : AS := ⟨[0, 0, 0, 0, 0, 0, 0, 0, 0, 0, 0], 0, [], [], []⟩
def mg (a b : AS) : AS × Int := if a.nms = b.nms then (a.pl b, 0) else (AS.zero, 2)

def Sm.zero : Sm := ⟨[0, 0, 0, 0, 0, 0, 0, 0, 0, 0, 0], 0, none, 0, [], none, 0, [], none, 0, []⟩
theorem Sm.zero_in (w : World) : Sm.zero.In w where
  n11 := rfl
  cs := by intro n hn; simp [Sm.zero] at hn; subst hn; exact ⟨by decide, by decide⟩
  ref := ⟨by decide, by decide⟩
  ps := fun i p h => by simp [Sm.zero] at h
  bds := fun i b h => by simp [Sm.zero] at h
  rer := fun i v h => by simp [Sm.zero] at h
  reri := by intro n hn; simp [Sm.zero] at hn
  l1 := by simp [Sm.zero]
  l2 := by simp [Sm.zero]
  l3 := by simp [Sm.zero]
  lp := by intro b hb; simp [Sm.zero] at hb

structure Sm.Mid (s : Sm) : Prop where
  l1 : s.ps.length ≤ 1000
  l2 : s.bds.length ≤ 1000
  l3 : s.rer.length ≤ 1000
  pt : ∀ b ∈ s.bds, b.pts.length ≤ 1000

/-! The rows of the bidders' points, held together. -/
def ptsA (x : Bd) : Asn := rowA 3 1 (.slice x.pa x.pts.length x.pc) x.pts.length (x.pts.map iv)
def BA (L : List Bd) : Asn := Sep (L.map ptsA)

theorem eqv_snoc (A : Asn) : ∀ l : List Asn, Eqv (star A (Sep l)) (Sep (l ++ [A]))
  | [] => Eqv.refl _
  | B :: l => (Eqv.rot (A := A) (B := B) (C := Sep l)).trans ((eqv_snoc A l).right (A := B))

theorem St.unassoc {w0 w : World} {A B C : Asn} (h : St w0 w (star A (star B C))) : St w0 w (star (star A B) C) := h.swap.assoc.swap.assoc.swap
theorem ba_snoc {w0 w : World} {x : Bd} {L : List Bd} {C : Asn} (h : St w0 w (star (ptsA x) (star (BA L) C))) : St w0 w (star (BA (L ++ [x])) C) := by
  have h1 := St.unassoc h
  have h2 : St w0 w (star C (star (ptsA x) (BA L))) := h1.swap
  have h3 : St w0 w (star C (BA (L ++ [x]))) := by
    have e : Eqv (star (ptsA x) (BA L)) (BA (L ++ [x])) := by
      unfold BA
      rw [List.map_append]
      exact eqv_snoc (ptsA x) (L.map ptsA)
    exact h2.eqv e.right
  exact h3.swap
theorem ba_read {w0 w : World} {L : List Bd} (h : St w0 w (BA L)) : ∀ x ∈ L, Rd w x.pa (x.pts.map iv) := fun x hx => by
  obtain ⟨i, hi, rfl⟩ := List.mem_iff_getElem.1 hx
  have h' : St w0 w (Sep (L.map ptsA)) := h
  have e : (L.map ptsA)[i]? = some (ptsA L[i]) := by simp [hi]
  exact Rd.row (h'.rowAt i e)

theorem bsl (l : List UInt8) : (bs l).toList = l := by rw [Go.ByteArray.toList_eq]; simp [bs]

end Go.Proofs.YtdpcgfcabikjmaaGreatDoor
