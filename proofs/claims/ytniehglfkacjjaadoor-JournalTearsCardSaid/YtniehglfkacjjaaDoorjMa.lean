import Derived.Test.YtniehglfkacjjaaDoorjMd4n
import Derived.Test.YtniehglfkacjjaaDoorSl
import Derived.Laws.Strings
namespace Go.Proofs.YtniehglfkacjjaaDoor
open Go Go.Vc

def medA (x : Nat) (s : MS) : Asn where
  p w F := Med w x s F
  loc := fun h hc hd => Med.keep h hc hd
  lt := fun h => Med.lt h

/-! The medium, as a claim that is carried along. -/
section st
variable {w0 w : World} {x : Nat} {s : MS} {B : Asn}

theorem append_st (h : St w0 w (star (medA x s) B)) (ho : s.Ok) (t : ByteArray) : Calls Tryd.prog 23 #[.pointer (some ⟨x, 0, none⟩), .string t] w
    (RetC fun r w' => r = .int .i64 (s.app t.data.toList).1 ∧ St w0 w' (star (medA x (s.app t.data.toList).2) B)) := by
  obtain ⟨F, hF, k⟩ := h.use
  exact (append_calls hF ho t).mono fun e w' ⟨v, he, hv, hto⟩ => ⟨v, he, hv, k w' (medA x _) hto⟩

theorem sync_st (h : St w0 w (star (medA x s) B)) (ho : s.Ok) : Calls Tryd.prog 37 #[.pointer (some ⟨x, 0, none⟩)] w
    (RetC fun r w' => r = .int .i64 s.syn.1 ∧ St w0 w' (star (medA x s.syn.2) B)) := by
  obtain ⟨F, hF, k⟩ := h.use
  exact (sync_calls hF ho).mono fun e w' ⟨v, he, hv, hto⟩ => ⟨v, he, hv, k w' (medA x _) hto⟩

theorem truncate_st (h : St w0 w (star (medA x s) B)) (ho : s.Ok) (n : Int) : Calls Tryd.prog 36 #[.pointer (some ⟨x, 0, none⟩), .int .i64 n] w
    (RetC fun r w' => r = .int .i64 (s.tru n).1 ∧ St w0 w' (star (medA x (s.tru n).2) B)) := by
  obtain ⟨F, hF, k⟩ := h.use
  exact (truncate_calls hF ho n).mono fun e w' ⟨v, he, hv, hto⟩ => ⟨v, he, hv, k w' (medA x _) hto⟩

theorem crash_st (h : St w0 w (star (medA x s) B)) (ho : s.Ok) {n : Int} (hn : n ≤ 9223372036854775807) : Calls Tryd.prog 15 #[.pointer (some ⟨x, 0, none⟩), .int .i64 n] w
    (RetC fun r w' => r = .tuple #[] ∧ St w0 w' (star (medA x (s.crash n)) B)) := by
  obtain ⟨F, hF, k⟩ := h.use
  exact (crash_calls hF ho hn).mono fun e w' ⟨v, he, hv, hto⟩ => ⟨v, he, hv, k w' (medA x _) hto⟩

theorem arm_st (h : St w0 w (star (medA x s) B)) (n : Int) : Calls Tryd.prog 28 #[.pointer (some ⟨x, 0, none⟩), .int .i64 n] w
    (RetC fun r w' => r = .tuple #[] ∧ St w0 w' (star (medA x (s.arm n)) B)) := by
  obtain ⟨F, hF, k⟩ := h.use
  exact (arm_calls hF n).mono fun e w' ⟨v, he, hv, hto⟩ => ⟨v, he, hv, k w' (medA x _) hto⟩

theorem read_st (h : St w0 w (star (medA x s) B)) : Calls Tryd.prog 19 #[.pointer (some ⟨x, 0, none⟩)] w
    (RetC fun r w' => r = .tuple #[.string ⟨s.rd.1.toArray⟩, .int .i64 s.rd.2] ∧ w' = w) := by
  obtain ⟨F, hF, k⟩ := h.use
  exact read_calls hF

theorem size_st (h : St w0 w (star (medA x s) B)) : Calls Tryd.prog 25 #[.pointer (some ⟨x, 0, none⟩)] w (RetC fun r w' => r = .int .i64 (s.b.length : Int) ∧ w' = w) := by
  obtain ⟨F, hF, k⟩ := h.use
  exact size_calls hF

theorem durable_st (h : St w0 w (star (medA x s) B)) : Calls Tryd.prog 26 #[.pointer (some ⟨x, 0, none⟩)] w (RetC fun r w' => r = .int .i64 (s.dur : Int) ∧ w' = w) := by
  obtain ⟨F, hF, k⟩ := h.use
  exact durable_calls hF

theorem new_st {A : Asn} (h : St w0 w A) {n : Int} (hn : ¬ (n < 1 ∨ 262144 < n)) : Calls Tryd.prog 11 #[.int .i64 n] w
    (RetC fun r w' => ∃ y, r = .tuple #[.pointer (some ⟨y, 0, none⟩), .int .i64 0] ∧ St w0 w' (star A (medA y ⟨n, [], 0, false, none⟩))) := by
  refine (new_calls w n).mono fun e w' ⟨v, he, h'⟩ => ?_
  dsimp only at h'
  rw [if_neg hn] at h'
  obtain ⟨y, hv, hM, hc, hy⟩ := h'
  exact ⟨v, he, y, hv, h.add hc (B := medA y _) hM (by simpa using hy)⟩

theorem St.shape {A A' : Asn} (h : St w0 w A) (k : ∀ w F, A.p w F → ∃ F', A'.p w F' ∧ ∀ j ∈ F', j ∈ F) : St w0 w A' := by
  obtain ⟨F, hF, hc, hn⟩ := h
  obtain ⟨F', hF', hs⟩ := k w F hF
  exact ⟨F', hF', hc, fun j hj => hn j (hs j hj)⟩
end st

theorem bytes_beq (a b : ByteArray) (h : a.data.toList = b.data.toList) : (a.toList == b.toList) = true := by
  rw [Go.ByteArray.toList_eq, Go.ByteArray.toList_eq, h]; simp
theorem bytes_bne (a b : ByteArray) (h : a.data.toList = b.data.toList) : (!(a.toList == b.toList)) = false := by rw [bytes_beq a b h]; rfl

theorem okNew {n : Int} (h : ¬ (n < 1 ∨ 262144 < n)) : MS.Ok ⟨n, [], 0, false, none⟩ :=
  ⟨by simp; omega, by simp; omega, by simp, fun _ h => by cases h⟩


end Go.Proofs.YtniehglfkacjjaaDoor
