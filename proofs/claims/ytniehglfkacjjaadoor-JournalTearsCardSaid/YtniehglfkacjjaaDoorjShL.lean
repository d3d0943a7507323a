/- What each function of the seat comes to, printed by program (sh.py); the kernel holds each print against the loaded code. -/
import Derived.Test.YtniehglfkacjjaaDoorVc5
import Derived.Test.YtniehglfkacjjaaDoorProg
import Derived.KernelRfl
set_option linter.unusedVariables false
namespace Go.Proofs.YtniehglfkacjjaaDoor
open Go Go.Vc
-- saleroom/saleroomlaw43.lives
def llives  (w : World) (K : Value → World → Prop) : Prop :=
 Calls Tryd.prog 11 #[(.int .i64 (1000 : Int))] w fun e1 w1 => ∃ (p1 : Option Addr) (n1 : Int),
 e1 = .returned (.tuple #[(.pointer p1), (.int .i64 n1)]) ∧
 ∃ J1 : Bool → World → Prop, (∀ (w2 : World) (b1 : Bool), J1 b1 w2 → ∀ x1 : Nat → Value,
  cond b1
  (K (.bool false) w2)
  (Calls Tryd.prog 12 #[(.pointer p1)] w2 fun e2 w3 => ∃ (p2 : Option Addr) (n2 : Int),
   e2 = .returned (.tuple #[(.pointer p2), (.int .i64 n2)]) ∧
   ∃ J2 : Bool → World → Prop, (∀ (w4 : World) (b2 : Bool), J2 b2 w4 → ∀ x2 : Nat → Value,
    cond b2
    (K (.bool false) w4)
    (Calls Tryd.prog 14 #[(.pointer p2), (.string (bs [97]))] w4 fun e3 w5 => ∃ (n3 : Int) (n4 : Int),
     e3 = .returned (.tuple #[(.int .u64 n3), (.int .i64 n4)]) ∧
     Calls Tryd.prog 13 #[(.pointer p2)] w5 fun e4 w6 => ∃ (n5 : Int),
     e4 = .returned (.int .i64 n5) ∧
     Calls Tryd.prog 14 #[(.pointer p2), (.string (bs [98]))] w6 fun e5 w7 => ∃ (n6 : Int) (n7 : Int),
     e5 = .returned (.tuple #[(.int .u64 n6), (.int .i64 n7)]) ∧
     Calls Tryd.prog 15 #[(.pointer p1), (.int .i64 (3 : Int))] w7 fun e6 w8 => e6 = .returned (.tuple #[]) ∧
     Calls Tryd.prog 12 #[(.pointer p1)] w8 fun e7 w9 => ∃ (p3 : Option Addr) (n8 : Int),
     e7 = .returned (.tuple #[(.pointer p3), (.int .i64 n8)]) ∧
     ∃ J3 : Bool → World → Prop, (∀ (w10 : World) (b3 : Bool), J3 b3 w10 → ∀ x3 : Nat → Value,
      cond b3
      (K (.bool false) w10)
      (Calls Tryd.prog 18 #[(.pointer p3), (.int .i64 (0 : Int))] w10 fun e8 w11 => ∃ (s1 : ByteArray) (n9 : Int),
       e8 = .returned (.tuple #[(.string s1), (.int .i64 n9)]) ∧
       cond (n4 == (0 : Int))
       (Calls Tryd.prog 33 #[(.int .u64 (0 : Int)), (.string (bs [97]))] w11 fun e9 w12 => ∃ (n10 : Int),
        e9 = .returned (.int .u64 n10) ∧
        cond (n3 == n10)
        (cond (n5 == (0 : Int))
         (Calls Tryd.prog 16 #[(.pointer p3)] w12 fun e10 w13 => ∃ (n11 : Int),
          e10 = .returned (.int .i64 n11) ∧
          cond (n11 == (1 : Int))
          (Calls Tryd.prog 17 #[(.pointer p3)] w13 fun e11 w14 => ∃ (n12 : Int),
           e11 = .returned (.int .i64 n12) ∧
           cond (n12 == (1 : Int))
           (cond (n9 == (0 : Int))
            (cond (s1.toList == (bs [97]).toList)
             (Calls Tryd.prog 27 #[(.pointer p3)] w14 fun e12 w15 => ∃ (n13 : Int),
              e12 = .returned (.int .u64 n13) ∧
              cond (n13 == n3)
              (Calls Tryd.prog 25 #[(.pointer p1)] w15 fun e13 w16 => ∃ (n14 : Int),
               e13 = .returned (.int .i64 n14) ∧
               K (.bool (n14 == (10 : Int))) w16)
              (K (.bool false) w15))
             (K (.bool false) w14))
            (K (.bool false) w14))
           (K (.bool false) w14))
          (K (.bool false) w13))
         (K (.bool false) w12))
        (K (.bool false) w12))
       (K (.bool false) w11))) ∧
     cond (n8 != (0 : Int))
     (J3 true w9)
     (J3 (p3).isNone w9))) ∧
   cond (n2 != (0 : Int))
   (J2 true w3)
   (J2 (p2).isNone w3))) ∧
 cond (n1 != (0 : Int))
 (J1 true w1)
 (J1 (p1).isNone w1)
def llives_ann : List (Nat × Live) := [(14, [(21, .s (.bool))]), (62, [(32, .s (.bool))]), (4094, [(54, .s (.bool))])]
theorem llives_ok {w : World} {K : Value → World → Prop} (h : llives w K) : Calls Tryd.prog 22 #[] w fun e w' => ∃ v, e = .returned v ∧ K v w' :=
  calls_sh (annL llives_ann) Tryd.func22 (by kernel_rfl) (args := []) (by kernel_rfl) h

-- saleroom/saleroomlaw43.short
def lshort (a1 : Option Addr) (l1 c1 : Nat) (w : World) (K : Value → World → Prop) : Prop :=
 ∃ J1 : Option Addr → Nat → Nat → World → Prop, (∀ (w1 : World) (a2 : Option Addr) (l2 c2 : Nat), J1 a2 l2 c2 w1 → ∀ x1 : Nat → Value,
  ∃ I1 : Option Addr → Nat → Nat → Int → World → Nat → Prop, (∃ m1, I1 none 0 0 (0 : Int) w1 m1) ∧
  ∀ (w2 : World) (m1 : Nat) (a3 : Option Addr) (l3 c3 : Nat) (n1 : Int), I1 a3 l3 c3 n1 w2 m1 → ∀ x2 : Nat → Value,
  cond (decide (n1 < ((l2 : Nat) : Int)))
  (onSome a2 fun q1 =>
   0 ≤ n1 ∧ n1 < ((l2 : Nat) : Int) ∧
   ∃ (s1 : ByteArray),
   w2.cell? (Addr.add q1 ((n1).toNat * 1)) = some (.string s1) ∧
   ∃ J2 : ByteArray → World → Prop, (∀ (w3 : World) (s2 : ByteArray), J2 s2 w3 → ∀ x3 : Nat → Value,
    newK w3 (.cells #[(.string s2)] 9) fun r1 w4 =>
    rnS Tryd.prog (Builtin.append_ #[22, 22] 22 #[(.slice a3 l3 c3), (.slice (some ⟨r1, 0, none⟩) 1 1)]) w4 fun e1 w5 => ∃ (a4 : Option Addr) (l4 c4 : Nat),
    e1 = (.slice a4 l4 c4) ∧
    ∃ m2, m2 < m1 ∧ I1 a4 l4 c4 (IntKind.i64.wrap (n1 + (1 : Int))) w5 m2) ∧
   cond (decide (((s1.size : Nat) : Int) > (60 : Int)))
   (0 ≤ (60 : Int) ∧ (60 : Int) ≤ ((s1.size : Nat) : Int) ∧
    J2 (s1.extract 0 (((60 : Int)).toNat)) w2)
   (J2 s1 w2))
  (K (.slice a3 l3 c3) w2)) ∧
 cond (decide (((l1 : Nat) : Int) > (6 : Int)))
 (0 ≤ (6 : Int) ∧ (6 : Int) ≤ ((c1 : Nat) : Int) ∧
  J1 (if c1 = 0 then a1 else Option.map (fun x => Addr.add x (0 * 1)) a1) (((6 : Int)).toNat - 0) (c1 - 0) w)
 (J1 a1 l1 c1 w)
def lshort_ann : List (Nat × Live) := [(3, [(0, .s (.slice))]), (122, [(3, .s (.slice)), (4, .s (.int .i64))]), (3913, [(5, .s (.str))])]
theorem lshort_ok {a1 : Option Addr} {l1 c1 : Nat} {w : World} {K : Value → World → Prop} (h : lshort a1 l1 c1 w K) : Calls Tryd.prog 10 #[(.slice a1 l1 c1)] w fun e w' => ∃ v, e = .returned v ∧ K v w' :=
  calls_sh (annL lshort_ann) Tryd.func10 (by kernel_rfl) (args := [(.slice a1 l1 c1)]) (by kernel_rfl) h

-- saleroom/saleroomlaw43.JournalVerifies
def lJournalVerifies (s1 : ByteArray) (w : World) (K : Value → World → Prop) : Prop :=
 ∃ J1 : ByteArray → World → Prop, (∀ (w1 : World) (s2 : ByteArray), J1 s2 w1 → ∀ x1 : Nat → Value,
  Calls Tryd.prog 29 #[(.string s2)] w1 fun e1 w2 => ∃ (a1 : Option Addr) (l1 c1 : Nat) (n1 : Int),
  e1 = .returned (.tuple #[(.slice a1 l1 c1), (.int .i64 n1)]) ∧
  Calls Tryd.prog 24 #[(.string s2)] w2 fun e2 w3 => ∃ (a2 : Option Addr) (l2 c2 : Nat) (n2 : Int),
  e2 = .returned (.tuple #[(.slice a2 l2 c2), (.int .i64 n2)]) ∧
  cond (n1 == n2)
  (Calls Tryd.prog 30 #[(.slice a1 l1 c1), (.slice a2 l2 c2)] w3 fun e3 w4 => ∃ (b1 : Bool),
   e3 = .returned (.bool b1) ∧
   cond b1
   (Calls Tryd.prog 22 #[] w4 fun e4 w5 => ∃ (b2 : Bool),
    e4 = .returned (.bool b2) ∧
    K (.bool b2) w5)
   (K (.bool false) w4))
  (K (.bool false) w3)) ∧
 cond (decide (((s1.size : Nat) : Int) > (3000 : Int)))
 (0 ≤ (3000 : Int) ∧ (3000 : Int) ≤ ((s1.size : Nat) : Int) ∧
  J1 (s1.extract 0 (((3000 : Int)).toNat)) w)
 (J1 s1 w)
def lJournalVerifies_ann : List (Nat × Live) := [(3, [(0, .s (.str))])]
theorem lJournalVerifies_ok {s1 : ByteArray} {w : World} {K : Value → World → Prop} (h : lJournalVerifies s1 w K) : Calls Tryd.prog 7 #[(.string s1)] w fun e w' => ∃ v, e = .returned v ∧ K v w' :=
  calls_sh (annL lJournalVerifies_ann) Tryd.func7 (by kernel_rfl) (args := [(.string s1)]) (by kernel_rfl) h

-- saleroom/saleroomlaw43.JournalFrames
def lJournalFrames (a1 : Option Addr) (l1 c1 : Nat) (n1 : Int) (w : World) (K : Value → World → Prop) : Prop :=
 Calls Tryd.prog 10 #[(.slice a1 l1 c1)] w fun e1 w1 => ∃ (a2 : Option Addr) (l2 c2 : Nat),
 e1 = .returned (.slice a2 l2 c2) ∧
 Calls Tryd.prog 11 #[(.int .i64 (2000 : Int))] w1 fun e2 w2 => ∃ (p1 : Option Addr) (n2 : Int),
 e2 = .returned (.tuple #[(.pointer p1), (.int .i64 n2)]) ∧
 ∃ J1 : Bool → World → Prop, (∀ (w3 : World) (b1 : Bool), J1 b1 w3 → ∀ x1 : Nat → Value,
  cond b1
  (K (.bool false) w3)
  (Calls Tryd.prog 12 #[(.pointer p1)] w3 fun e3 w4 => ∃ (p2 : Option Addr) (n3 : Int),
   e3 = .returned (.tuple #[(.pointer p2), (.int .i64 n3)]) ∧
   ∃ J2 : Bool → World → Prop, (∀ (w5 : World) (b2 : Bool), J2 b2 w5 → ∀ x2 : Nat → Value,
    cond b2
    (K (.bool false) w5)
    (Calls Tryd.prog 20 #[(.slice a2 l2 c2)] w5 fun e4 w6 => ∃ (a3 : Option Addr) (l3 c3 : Nat),
     e4 = .returned (.slice a3 l3 c3) ∧
     ∃ I1 : Int → World → Nat → Prop, (∃ m1, I1 (0 : Int) w6 m1) ∧
     ∀ (w7 : World) (m1 : Nat) (n4 : Int), I1 n4 w7 m1 → ∀ x3 : Nat → Value,
     cond (decide (n4 < ((l2 : Nat) : Int)))
     (onSome a2 fun q1 =>
      0 ≤ n4 ∧ n4 < ((l2 : Nat) : Int) ∧
      ∃ (s1 : ByteArray),
      w7.cell? (Addr.add q1 ((n4).toNat * 1)) = some (.string s1) ∧
      Calls Tryd.prog 14 #[(.pointer p2), (.string s1)] w7 fun e5 w8 => ∃ (n5 : Int) (n6 : Int),
      e5 = .returned (.tuple #[(.int .u64 n5), (.int .i64 n6)]) ∧
      Calls Tryd.prog 18 #[(.pointer p2), (.int .i64 n4)] w8 fun e6 w9 => ∃ (s2 : ByteArray) (n7 : Int),
      e6 = .returned (.tuple #[(.string s2), (.int .i64 n7)]) ∧
      ∃ J3 : Bool → World → Prop, (∀ (w10 : World) (b3 : Bool), J3 b3 w10 → ∀ x4 : Nat → Value,
       cond b3
       (K (.bool false) w10)
       (∃ m2, m2 < m1 ∧ I1 (IntKind.i64.wrap (n4 + (1 : Int))) w10 m2)) ∧
      cond (n6 != (0 : Int))
      (J3 true w9)
      (onSome a3 fun q2 =>
       0 ≤ (IntKind.i64.wrap (n4 + (1 : Int))) ∧ (IntKind.i64.wrap (n4 + (1 : Int))) < ((l3 : Nat) : Int) ∧
       ∃ (n8 : Int),
       w9.cell? (Addr.add q2 (((IntKind.i64.wrap (n4 + (1 : Int)))).toNat * 1)) = some (.int .u64 n8) ∧
       cond (n5 != n8)
       (J3 true w9)
       (Calls Tryd.prog 27 #[(.pointer p2)] w9 fun e7 w11 => ∃ (n9 : Int),
        e7 = .returned (.int .u64 n9) ∧
        cond (n9 != n5)
        (J3 true w11)
        (Calls Tryd.prog 16 #[(.pointer p2)] w11 fun e8 w12 => ∃ (n10 : Int),
         e8 = .returned (.int .i64 n10) ∧
         cond (n10 != (IntKind.i64.wrap (n4 + (1 : Int))))
         (J3 true w12)
         (Calls Tryd.prog 17 #[(.pointer p2)] w12 fun e9 w13 => ∃ (n11 : Int),
          e9 = .returned (.int .i64 n11) ∧
          cond (n11 != (0 : Int))
          (J3 true w13)
          (cond (n7 != (0 : Int))
           (J3 true w13)
           (onSome a2 fun q3 =>
            0 ≤ n4 ∧ n4 < ((l2 : Nat) : Int) ∧
            ∃ (s3 : ByteArray),
            w13.cell? (Addr.add q3 ((n4).toNat * 1)) = some (.string s3) ∧
            J3 (!(s2.toList == s3.toList)) w13)))))))
     (Calls Tryd.prog 19 #[(.pointer p1)] w7 fun e10 w14 => ∃ (s4 : ByteArray) (n12 : Int),
      e10 = .returned (.tuple #[(.string s4), (.int .i64 n12)]) ∧
      Calls Tryd.prog 34 #[(.pointer p2), (.int .i64 n1)] w14 fun e11 w15 => ∃ (n13 : Int) (n14 : Int),
      e11 = .returned (.tuple #[(.int .u64 n13), (.int .i64 n14)]) ∧
      Calls Tryd.prog 18 #[(.pointer p2), (.int .i64 n1)] w15 fun e12 w16 => ∃ (s5 : ByteArray) (n15 : Int),
      e12 = .returned (.tuple #[(.string s5), (.int .i64 n15)]) ∧
      ∃ J4 : Bool → World → Prop, (∀ (w17 : World) (b4 : Bool), J4 b4 w17 → ∀ x5 : Nat → Value,
       cond b4
       (K (.bool false) w17)
       (∃ J5 : Bool → World → Prop, (∀ (w18 : World) (b5 : Bool), J5 b5 w18 → ∀ x6 : Nat → Value,
         cond b5
         (K (.bool false) w18)
         (Calls Tryd.prog 13 #[(.pointer p2)] w18 fun e13 w19 => ∃ (n16 : Int),
          e13 = .returned (.int .i64 n16) ∧
          cond (n16 == (0 : Int))
          (Calls Tryd.prog 17 #[(.pointer p2)] w19 fun e14 w20 => ∃ (n17 : Int),
           e14 = .returned (.int .i64 n17) ∧
           cond (n17 == ((l2 : Nat) : Int))
           (Calls Tryd.prog 22 #[] w20 fun e15 w21 => ∃ (b6 : Bool),
            e15 = .returned (.bool b6) ∧
            K (.bool b6) w21)
           (K (.bool false) w20))
          (K (.bool false) w19))) ∧
        cond (n14 == (0 : Int))
        (onSome a3 fun q4 =>
         0 ≤ n1 ∧ n1 < ((l3 : Nat) : Int) ∧
         ∃ (n18 : Int),
         w17.cell? (Addr.add q4 ((n1).toNat * 1)) = some (.int .u64 n18) ∧
         cond (n13 != n18)
         (J5 true w17)
         (cond (n14 != (0 : Int))
          (cond (n14 != (4 : Int))
           (J5 true w17)
           (cond (n13 != (0 : Int))
            (J5 true w17)
            (cond (n15 != (0 : Int))
             (J5 (n15 != (4 : Int)) w17)
             (J5 false w17))))
          (cond (n15 != (0 : Int))
           (J5 (n15 != (4 : Int)) w17)
           (J5 false w17))))
        (cond (n14 != (0 : Int))
         (cond (n14 != (4 : Int))
          (J5 true w17)
          (cond (n13 != (0 : Int))
           (J5 true w17)
           (cond (n15 != (0 : Int))
            (J5 (n15 != (4 : Int)) w17)
            (J5 false w17))))
         (cond (n15 != (0 : Int))
          (J5 (n15 != (4 : Int)) w17)
          (J5 false w17))))) ∧
      cond (n12 != (0 : Int))
      (J4 true w16)
      (Calls Tryd.prog 21 #[(.slice a2 l2 c2)] w16 fun e16 w22 => ∃ (s6 : ByteArray),
       e16 = .returned (.string s6) ∧
       cond (!(s4.toList == s6.toList))
       (J4 true w22)
       (cond (decide (n1 ≥ (0 : Int)))
        (cond (!((n14 == (0 : Int)) == (decide (n1 ≤ ((l2 : Nat) : Int)))))
         (J4 true w22)
         (cond (decide (n1 ≥ (0 : Int)))
          (J4 (!((n15 == (0 : Int)) == (decide (n1 < ((l2 : Nat) : Int))))) w22)
          (J4 (!((n15 == (0 : Int)) == false)) w22)))
        (cond (!((n14 == (0 : Int)) == false))
         (J4 true w22)
         (cond (decide (n1 ≥ (0 : Int)))
          (J4 (!((n15 == (0 : Int)) == (decide (n1 < ((l2 : Nat) : Int))))) w22)
          (J4 (!((n15 == (0 : Int)) == false)) w22)))))))) ∧
   cond (n3 != (0 : Int))
   (J2 true w4)
   (cond (p2).isNone
    (J2 true w4)
    (Calls Tryd.prog 16 #[(.pointer p2)] w4 fun e17 w23 => ∃ (n19 : Int),
     e17 = .returned (.int .i64 n19) ∧
     cond (n19 != (0 : Int))
     (J2 true w23)
     (Calls Tryd.prog 27 #[(.pointer p2)] w23 fun e18 w24 => ∃ (n20 : Int),
      e18 = .returned (.int .u64 n20) ∧
      J2 (n20 != (0 : Int)) w24))))) ∧
 cond (n2 != (0 : Int))
 (J1 true w2)
 (J1 (p1).isNone w2)
def lJournalFrames_ann : List (Nat × Live) := [(30, [(33, .s (.bool))]), (126, [(54, .s (.bool))]), (2042, [(11, .s (.int .i64))]), (130707, [(118, .s (.bool))]), (8190, [(169, .s (.bool))]), (16382, [(199, .s (.bool))])]
theorem lJournalFrames_ok {a1 : Option Addr} {l1 c1 : Nat} {n1 : Int} {w : World} {K : Value → World → Prop} (h : lJournalFrames a1 l1 c1 n1 w K) : Calls Tryd.prog 9 #[(.slice a1 l1 c1), (.int .i64 n1)] w fun e w' => ∃ v, e = .returned v ∧ K v w' :=
  calls_sh (annL lJournalFrames_ann) Tryd.func9 (by kernel_rfl) (args := [(.slice a1 l1 c1), (.int .i64 n1)]) (by kernel_rfl) h

-- saleroom/saleroomlaw43.JournalPrefix
def lJournalPrefix (a1 : Option Addr) (l1 c1 : Nat) (n1 : Int) (n2 : Int) (s1 : ByteArray) (w : World) (K : Value → World → Prop) : Prop :=
 Calls Tryd.prog 10 #[(.slice a1 l1 c1)] w fun e1 w1 => ∃ (a2 : Option Addr) (l2 c2 : Nat),
 e1 = .returned (.slice a2 l2 c2) ∧
 ∃ J1 : ByteArray → World → Prop, (∀ (w2 : World) (s2 : ByteArray), J1 s2 w2 → ∀ x1 : Nat → Value,
  Calls Tryd.prog 11 #[(.int .i64 (2000 : Int))] w2 fun e2 w3 => ∃ (p1 : Option Addr) (n3 : Int),
  e2 = .returned (.tuple #[(.pointer p1), (.int .i64 n3)]) ∧
  ∃ J2 : Bool → World → Prop, (∀ (w4 : World) (b1 : Bool), J2 b1 w4 → ∀ x2 : Nat → Value,
   cond b1
   (K (.bool false) w4)
   (Calls Tryd.prog 12 #[(.pointer p1)] w4 fun e3 w5 => ∃ (p2 : Option Addr) (n4 : Int),
    e3 = .returned (.tuple #[(.pointer p2), (.int .i64 n4)]) ∧
    ∃ J3 : Bool → World → Prop, (∀ (w6 : World) (b2 : Bool), J3 b2 w6 → ∀ x3 : Nat → Value,
     cond b2
     (K (.bool false) w6)
     ((IntKind.i64.wrap (((l2 : Nat) : Int) + (1 : Int))) ≠ 0 ∧ ∃ I1 : Int → World → Nat → Prop, (∃ m1, I1 (0 : Int) w6 m1) ∧
      ∀ (w7 : World) (m1 : Nat) (n5 : Int), I1 n5 w7 m1 → ∀ x4 : Nat → Value,
      cond (decide (n5 < ((l2 : Nat) : Int)))
      (∃ J4 : Bool → World → Prop, (∀ (w8 : World) (b3 : Bool), J4 b3 w8 → ∀ x5 : Nat → Value,
        cond b3
        (K (.bool false) w8)
        (onSome a2 fun q1 =>
         0 ≤ n5 ∧ n5 < ((l2 : Nat) : Int) ∧
         ∃ (s3 : ByteArray),
         w8.cell? (Addr.add q1 ((n5).toNat * 1)) = some (.string s3) ∧
         Calls Tryd.prog 14 #[(.pointer p2), (.string s3)] w8 fun e4 w9 => ∃ (n6 : Int) (n7 : Int),
         e4 = .returned (.tuple #[(.int .u64 n6), (.int .i64 n7)]) ∧
         cond (n7 != (0 : Int))
         (K (.bool false) w9)
         (∃ m2, m2 < m1 ∧ I1 (IntKind.i64.wrap (n5 + (1 : Int))) w9 m2))) ∧
       cond (n5 == (Int.tmod (IntKind.i64.wrap n1) (IntKind.i64.wrap (((l2 : Nat) : Int) + (1 : Int)))))
       (Calls Tryd.prog 13 #[(.pointer p2)] w7 fun e5 w10 => ∃ (n8 : Int),
        e5 = .returned (.int .i64 n8) ∧
        J4 (n8 != (0 : Int)) w10)
       (J4 false w7))
      (∃ J5 : World → Prop, (∀ (w11 : World), J5 w11 → ∀ x6 : Nat → Value,
        Calls Tryd.prog 15 #[(.pointer p1), (.int .i64 n2)] w11 fun e6 w12 => e6 = .returned (.tuple #[]) ∧
        Calls Tryd.prog 12 #[(.pointer p1)] w12 fun e7 w13 => ∃ (p3 : Option Addr) (n9 : Int),
        e7 = .returned (.tuple #[(.pointer p3), (.int .i64 n9)]) ∧
        ∃ J6 : Bool → World → Prop, (∀ (w14 : World) (b4 : Bool), J6 b4 w14 → ∀ x7 : Nat → Value,
         cond b4
         (K (.bool false) w14)
         (Calls Tryd.prog 16 #[(.pointer p3)] w14 fun e8 w15 => ∃ (n10 : Int),
          e8 = .returned (.int .i64 n10) ∧
          ∃ I2 : Int → World → Nat → Prop, (∃ m3, I2 (0 : Int) w15 m3) ∧
          ∀ (w16 : World) (m3 : Nat) (n11 : Int), I2 n11 w16 m3 → ∀ x8 : Nat → Value,
          cond (decide (n11 < n10))
          (Calls Tryd.prog 18 #[(.pointer p3), (.int .i64 n11)] w16 fun e9 w17 => ∃ (s4 : ByteArray) (n12 : Int),
           e9 = .returned (.tuple #[(.string s4), (.int .i64 n12)]) ∧
           ∃ J7 : Bool → World → Prop, (∀ (w18 : World) (b5 : Bool), J7 b5 w18 → ∀ x9 : Nat → Value,
            cond b5
            (K (.bool false) w18)
            (∃ m4, m4 < m3 ∧ I2 (IntKind.i64.wrap (n11 + (1 : Int))) w18 m4)) ∧
           cond (n12 != (0 : Int))
           (J7 true w17)
           (onSome a2 fun q2 =>
            0 ≤ n11 ∧ n11 < ((l2 : Nat) : Int) ∧
            ∃ (s5 : ByteArray),
            w17.cell? (Addr.add q2 ((n11).toNat * 1)) = some (.string s5) ∧
            J7 (!(s4.toList == s5.toList)) w17))
          (newK w16 (.cells #[] 9) fun r1 w19 =>
           0 ≤ n10 ∧ n10 ≤ ((c2 : Nat) : Int) ∧
           rnS Tryd.prog (Builtin.append_ #[22, 22] 22 #[(.slice (some ⟨r1, 0, none⟩) 0 0), (.slice (if c2 = 0 then a2 else Option.map (fun x => Addr.add x (0 * 1)) a2) ((n10).toNat - 0) (c2 - 0))]) w19 fun e10 w20 => ∃ (a3 : Option Addr) (l3 c3 : Nat),
           e10 = (.slice a3 l3 c3) ∧
           newK w20 (.cells #[(.string s2)] 9) fun r2 w21 =>
           rnS Tryd.prog (Builtin.append_ #[22, 22] 22 #[(.slice a3 l3 c3), (.slice (some ⟨r2, 0, none⟩) 1 1)]) w21 fun e11 w22 => ∃ (a4 : Option Addr) (l4 c4 : Nat),
           e11 = (.slice a4 l4 c4) ∧
           Calls Tryd.prog 14 #[(.pointer p3), (.string s2)] w22 fun e12 w23 => ∃ (n13 : Int) (n14 : Int),
           e12 = .returned (.tuple #[(.int .u64 n13), (.int .i64 n14)]) ∧
           Calls Tryd.prog 19 #[(.pointer p1)] w23 fun e13 w24 => ∃ (s6 : ByteArray) (n15 : Int),
           e13 = .returned (.tuple #[(.string s6), (.int .i64 n15)]) ∧
           cond (n14 == (0 : Int))
           (Calls Tryd.prog 20 #[(.slice a4 l4 c4)] w24 fun e14 w25 => ∃ (a5 : Option Addr) (l5 c5 : Nat),
            e14 = .returned (.slice a5 l5 c5) ∧
            onSome a5 fun q3 =>
            0 ≤ (IntKind.i64.wrap (n10 + (1 : Int))) ∧ (IntKind.i64.wrap (n10 + (1 : Int))) < ((l5 : Nat) : Int) ∧
            ∃ (n16 : Int),
            w25.cell? (Addr.add q3 (((IntKind.i64.wrap (n10 + (1 : Int)))).toNat * 1)) = some (.int .u64 n16) ∧
            cond (n13 == n16)
            (cond (n15 == (0 : Int))
             (Calls Tryd.prog 21 #[(.slice a4 l4 c4)] w25 fun e15 w26 => ∃ (s7 : ByteArray),
              e15 = .returned (.string s7) ∧
              cond (s6.toList == s7.toList)
              (Calls Tryd.prog 22 #[] w26 fun e16 w27 => ∃ (b6 : Bool),
               e16 = .returned (.bool b6) ∧
               K (.bool b6) w27)
              (K (.bool false) w26))
             (K (.bool false) w25))
            (K (.bool false) w25))
           (K (.bool false) w24)))) ∧
        cond (n9 != (0 : Int))
        (J6 true w13)
        (cond (p3).isNone
         (J6 true w13)
         (Calls Tryd.prog 16 #[(.pointer p3)] w13 fun e17 w28 => ∃ (n17 : Int),
          e17 = .returned (.int .i64 n17) ∧
          cond (decide (n17 < (Int.tmod (IntKind.i64.wrap n1) (IntKind.i64.wrap (((l2 : Nat) : Int) + (1 : Int))))))
          (J6 true w28)
          (Calls Tryd.prog 16 #[(.pointer p3)] w28 fun e18 w29 => ∃ (n18 : Int),
           e18 = .returned (.int .i64 n18) ∧
           cond (decide (n18 > ((l2 : Nat) : Int)))
           (J6 true w29)
           (Calls Tryd.prog 17 #[(.pointer p3)] w29 fun e19 w30 => ∃ (n19 : Int),
            e19 = .returned (.int .i64 n19) ∧
            Calls Tryd.prog 16 #[(.pointer p3)] w30 fun e20 w31 => ∃ (n20 : Int),
            e20 = .returned (.int .i64 n20) ∧
            J6 (n19 != n20) w31))))) ∧
       cond ((Int.tmod (IntKind.i64.wrap n1) (IntKind.i64.wrap (((l2 : Nat) : Int) + (1 : Int)))) == ((l2 : Nat) : Int))
       (Calls Tryd.prog 13 #[(.pointer p2)] w7 fun e21 w32 => ∃ (n21 : Int),
        e21 = .returned (.int .i64 n21) ∧
        J5 w32)
       (J5 w7)))) ∧
    cond (n4 != (0 : Int))
    (J3 true w5)
    (J3 (p2).isNone w5))) ∧
  cond (n3 != (0 : Int))
  (J2 true w3)
  (J2 (p1).isNone w3)) ∧
 cond (decide (((s1.size : Nat) : Int) > (60 : Int)))
 (0 ≤ (60 : Int) ∧ (60 : Int) ≤ ((s1.size : Nat) : Int) ∧
  J1 (s1.extract 0 (((60 : Int)).toNat)) w1)
 (J1 s1 w1)
def lJournalPrefix_ann : List (Nat × Live) := [(7, [(3, .s (.str))]), (62, [(45, .s (.bool))]), (254, [(56, .s (.bool))]), (4090, [(15, .s (.int .i64))]), (130888, [(76, .s (.bool))]), (1023, []), (16382, [(127, .s (.bool))]), (262138, [(21, .s (.int .i64))]), (8388425, [(150, .s (.bool))])]
theorem lJournalPrefix_ok {a1 : Option Addr} {l1 c1 : Nat} {n1 : Int} {n2 : Int} {s1 : ByteArray} {w : World} {K : Value → World → Prop} (h : lJournalPrefix a1 l1 c1 n1 n2 s1 w K) : Calls Tryd.prog 3 #[(.slice a1 l1 c1), (.int .u8 n1), (.int .i64 n2), (.string s1)] w fun e w' => ∃ v, e = .returned v ∧ K v w' :=
  calls_sh (annL lJournalPrefix_ann) Tryd.func3 (by kernel_rfl) (args := [(.slice a1 l1 c1), (.int .u8 n1), (.int .i64 n2), (.string s1)]) (by kernel_rfl) h

-- saleroom/saleroomlaw43.JournalTears
def lJournalTears (a1 : Option Addr) (l1 c1 : Nat) (n1 : Int) (n2 : Int) (w : World) (K : Value → World → Prop) : Prop :=
 Calls Tryd.prog 10 #[(.slice a1 l1 c1)] w fun e1 w1 => ∃ (a2 : Option Addr) (l2 c2 : Nat),
 e1 = .returned (.slice a2 l2 c2) ∧
 Calls Tryd.prog 11 #[(.int .i64 (2000 : Int))] w1 fun e2 w2 => ∃ (p1 : Option Addr) (n3 : Int),
 e2 = .returned (.tuple #[(.pointer p1), (.int .i64 n3)]) ∧
 ∃ J1 : Bool → World → Prop, (∀ (w3 : World) (b1 : Bool), J1 b1 w3 → ∀ x1 : Nat → Value,
  cond b1
  (K (.bool false) w3)
  (Calls Tryd.prog 12 #[(.pointer p1)] w3 fun e3 w4 => ∃ (p2 : Option Addr) (n4 : Int),
   e3 = .returned (.tuple #[(.pointer p2), (.int .i64 n4)]) ∧
   ∃ J2 : Bool → World → Prop, (∀ (w5 : World) (b2 : Bool), J2 b2 w5 → ∀ x2 : Nat → Value,
    cond b2
    (K (.bool false) w5)
    ((500 : Int) ≠ 0 ∧ Calls Tryd.prog 28 #[(.pointer p1), (.int .i64 (IntKind.i64.wrap (Int.tmod n1 (500 : Int))))] w5 fun e4 w6 => e4 = .returned (.tuple #[]) ∧
     ∃ I1 : Int → Bool → Int → World → Nat → Prop, (∃ m1, I1 (0 : Int) false (0 : Int) w6 m1) ∧
     ∀ (w7 : World) (m1 : Nat) (n5 : Int) (b3 : Bool) (n6 : Int), I1 n5 b3 n6 w7 m1 → ∀ x3 : Nat → Value,
     cond (decide (n6 < ((l2 : Nat) : Int)))
     (∃ J3 : Int → Bool → World → Prop, (∀ (w8 : World) (n7 : Int) (b4 : Bool), J3 n7 b4 w8 → ∀ x4 : Nat → Value,
       ∃ m2, m2 < m1 ∧ I1 n7 b4 (IntKind.i64.wrap (n6 + (1 : Int))) w8 m2) ∧
      onSome a2 fun q1 =>
      0 ≤ n6 ∧ n6 < ((l2 : Nat) : Int) ∧
      ∃ (s1 : ByteArray),
      w7.cell? (Addr.add q1 ((n6).toNat * 1)) = some (.string s1) ∧
      Calls Tryd.prog 14 #[(.pointer p2), (.string s1)] w7 fun e5 w9 => ∃ (n8 : Int) (n9 : Int),
      e5 = .returned (.tuple #[(.int .u64 n8), (.int .i64 n9)]) ∧
      ∃ J4 : Bool → World → Prop, (∀ (w10 : World) (b5 : Bool), J4 b5 w10 → ∀ x5 : Nat → Value,
       cond b5
       (K (.bool false) w10)
       (∃ J5 : Bool → World → Prop, (∀ (w11 : World) (b6 : Bool), J5 b6 w11 → ∀ x6 : Nat → Value,
         cond (!b6)
         (J3 (IntKind.i64.wrap (n5 + (1 : Int))) b6 w11)
         (J3 n5 b6 w11)) ∧
        cond b3
        (J5 true w10)
        (J5 (n9 != (0 : Int)) w10))) ∧
      cond (n9 != (0 : Int))
      (cond (n9 != (19 : Int))
       (J4 true w9)
       (cond b3
        (J4 (n9 == (0 : Int)) w9)
        (J4 false w9)))
      (cond b3
       (J4 (n9 == (0 : Int)) w9)
       (J4 false w9)))
     (Calls Tryd.prog 16 #[(.pointer p2)] w7 fun e6 w12 => ∃ (n10 : Int),
      e6 = .returned (.int .i64 n10) ∧
      cond (n10 != n5)
      (K (.bool false) w12)
      (∃ J6 : Bool → World → Prop, (∀ (w13 : World) (b7 : Bool), J6 b7 w13 → ∀ x7 : Nat → Value,
        cond b7
        (K (.bool false) w13)
        ((600 : Int) ≠ 0 ∧ Calls Tryd.prog 15 #[(.pointer p1), (.int .i64 (IntKind.i64.wrap (Int.tmod n2 (600 : Int))))] w13 fun e7 w14 => e7 = .returned (.tuple #[]) ∧
         Calls Tryd.prog 12 #[(.pointer p1)] w14 fun e8 w15 => ∃ (p3 : Option Addr) (n11 : Int),
         e8 = .returned (.tuple #[(.pointer p3), (.int .i64 n11)]) ∧
         ∃ J7 : Bool → World → Prop, (∀ (w16 : World) (b8 : Bool), J7 b8 w16 → ∀ x8 : Nat → Value,
          cond b8
          (K (.bool false) w16)
          (∃ I2 : Int → World → Nat → Prop, (∃ m3, I2 (0 : Int) w16 m3) ∧
           ∀ (w17 : World) (m3 : Nat) (n12 : Int), I2 n12 w17 m3 → ∀ x9 : Nat → Value,
           Calls Tryd.prog 16 #[(.pointer p3)] w17 fun e9 w18 => ∃ (n13 : Int),
           e9 = .returned (.int .i64 n13) ∧
           cond (decide (n12 < n13))
           (Calls Tryd.prog 18 #[(.pointer p3), (.int .i64 n12)] w18 fun e10 w19 => ∃ (s2 : ByteArray) (n14 : Int),
            e10 = .returned (.tuple #[(.string s2), (.int .i64 n14)]) ∧
            ∃ J8 : Bool → World → Prop, (∀ (w20 : World) (b9 : Bool), J8 b9 w20 → ∀ x10 : Nat → Value,
             cond b9
             (K (.bool false) w20)
             (∃ m4, m4 < m3 ∧ I2 (IntKind.i64.wrap (n12 + (1 : Int))) w20 m4)) ∧
            cond (n14 != (0 : Int))
            (J8 true w19)
            (onSome a2 fun q2 =>
             0 ≤ n12 ∧ n12 < ((l2 : Nat) : Int) ∧
             ∃ (s3 : ByteArray),
             w19.cell? (Addr.add q2 ((n12).toNat * 1)) = some (.string s3) ∧
             J8 (!(s2.toList == s3.toList)) w19))
           (∃ I3 : Int → World → Nat → Prop, (∃ m5, I3 (0 : Int) w18 m5) ∧
            ∀ (w21 : World) (m5 : Nat) (n15 : Int), I3 n15 w21 m5 → ∀ x11 : Nat → Value,
            ∃ J9 : Bool → World → Prop, (∀ (w22 : World) (b10 : Bool), J9 b10 w22 → ∀ x12 : Nat → Value,
             cond b10
             (∃ m6, m6 < m5 ∧ I3 (IntKind.i64.wrap (n15 + (1 : Int))) w22 m6)
             (Calls Tryd.prog 16 #[(.pointer p3)] w22 fun e11 w23 => ∃ (n16 : Int),
              e11 = .returned (.int .i64 n16) ∧
              cond (n16 == n15)
              (Calls Tryd.prog 22 #[] w23 fun e12 w24 => ∃ (b11 : Bool),
               e12 = .returned (.bool b11) ∧
               K (.bool b11) w24)
              (K (.bool false) w23))) ∧
            cond (decide (n15 < n5))
            (0 ≤ (IntKind.i64.wrap (n15 + (1 : Int))) ∧ (IntKind.i64.wrap (n15 + (1 : Int))) ≤ ((c2 : Nat) : Int) ∧
             Calls Tryd.prog 21 #[(.slice (if c2 = 0 then a2 else Option.map (fun x => Addr.add x (0 * 1)) a2) (((IntKind.i64.wrap (n15 + (1 : Int)))).toNat - 0) (c2 - 0))] w21 fun e13 w25 => ∃ (s4 : ByteArray),
             e13 = .returned (.string s4) ∧
             (600 : Int) ≠ 0 ∧ J9 (decide (((s4.size : Nat) : Int) ≤ (IntKind.i64.wrap (Int.tmod n2 (600 : Int))))) w25)
            (J9 false w21)))) ∧
         cond (n11 != (0 : Int))
         (J7 true w15)
         (cond (p3).isNone
          (J7 true w15)
          (Calls Tryd.prog 16 #[(.pointer p3)] w15 fun e14 w26 => ∃ (n17 : Int),
           e14 = .returned (.int .i64 n17) ∧
           J7 (decide (n17 > n5)) w26)))) ∧
       cond b3
       (Calls Tryd.prog 13 #[(.pointer p2)] w12 fun e15 w27 => ∃ (n18 : Int),
        e15 = .returned (.int .i64 n18) ∧
        J6 (n18 != (19 : Int)) w27)
       (J6 false w12))))) ∧
   cond (n4 != (0 : Int))
   (J2 true w4)
   (J2 (p2).isNone w4))) ∧
 cond (n3 != (0 : Int))
 (J1 true w2)
 (J1 (p1).isNone w2)
def lJournalTears_ann : List (Nat × Live) := [(30, [(34, .s (.bool))]), (126, [(45, .s (.bool))]), (8186, [(12, .s (.int .i64)), (13, .s (.bool)), (14, .s (.int .i64))]), (32745, [(12, .s (.int .i64)), (13, .s (.bool))]), (523922, [(78, .s (.bool))]), (523923, [(13, .s (.bool))]), (8190, [(97, .s (.bool))]), (65534, [(119, .s (.bool))]), (524282, [(19, .s (.int .i64))]), (16777033, [(141, .s (.bool))]), (1048572, [(22, .s (.int .i64))]), (4194288, [(156, .s (.bool))])]
theorem lJournalTears_ok {a1 : Option Addr} {l1 c1 : Nat} {n1 : Int} {n2 : Int} {w : World} {K : Value → World → Prop} (h : lJournalTears a1 l1 c1 n1 n2 w K) : Calls Tryd.prog 6 #[(.slice a1 l1 c1), (.int .u16 n1), (.int .u16 n2)] w fun e w' => ∃ v, e = .returned v ∧ K v w' :=
  calls_sh (annL lJournalTears_ann) Tryd.func6 (by kernel_rfl) (args := [(.slice a1 l1 c1), (.int .u16 n1), (.int .u16 n2)]) (by kernel_rfl) h

-- saleroom/saleroomlaw43.JournalOpens
def lJournalOpens (s1 : ByteArray) (w : World) (K : Value → World → Prop) : Prop :=
 ∃ J1 : ByteArray → World → Prop, (∀ (w1 : World) (s2 : ByteArray), J1 s2 w1 → ∀ x1 : Nat → Value,
  Calls Tryd.prog 11 #[(.int .i64 (2000 : Int))] w1 fun e1 w2 => ∃ (p1 : Option Addr) (n1 : Int),
  e1 = .returned (.tuple #[(.pointer p1), (.int .i64 n1)]) ∧
  ∃ J2 : Bool → World → Prop, (∀ (w3 : World) (b1 : Bool), J2 b1 w3 → ∀ x2 : Nat → Value,
   cond b1
   (K (.bool false) w3)
   (Calls Tryd.prog 24 #[(.string s2)] w3 fun e2 w4 => ∃ (a1 : Option Addr) (l1 c1 : Nat) (n2 : Int),
    e2 = .returned (.tuple #[(.slice a1 l1 c1), (.int .i64 n2)]) ∧
    ∃ I1 : Int → World → Nat → Prop, (∃ m1, I1 (0 : Int) w4 m1) ∧
    ∀ (w5 : World) (m1 : Nat) (n3 : Int), I1 n3 w5 m1 → ∀ x3 : Nat → Value,
    cond (decide (n3 < (2 : Int)))
    (Calls Tryd.prog 12 #[(.pointer p1)] w5 fun e3 w6 => ∃ (p2 : Option Addr) (n4 : Int),
     e3 = .returned (.tuple #[(.pointer p2), (.int .i64 n4)]) ∧
     ∃ J3 : Bool → World → Prop, (∀ (w7 : World) (b2 : Bool), J3 b2 w7 → ∀ x4 : Nat → Value,
      cond b2
      (K (.bool false) w7)
      (∃ I2 : Int → World → Nat → Prop, (∃ m3, I2 (0 : Int) w7 m3) ∧
       ∀ (w8 : World) (m3 : Nat) (n5 : Int), I2 n5 w8 m3 → ∀ x5 : Nat → Value,
       cond (decide (n5 < ((l1 : Nat) : Int)))
       (Calls Tryd.prog 18 #[(.pointer p2), (.int .i64 n5)] w8 fun e4 w9 => ∃ (s3 : ByteArray) (n6 : Int),
        e4 = .returned (.tuple #[(.string s3), (.int .i64 n6)]) ∧
        ∃ J4 : Bool → World → Prop, (∀ (w10 : World) (b3 : Bool), J4 b3 w10 → ∀ x6 : Nat → Value,
         cond b3
         (K (.bool false) w10)
         (∃ m4, m4 < m3 ∧ I2 (IntKind.i64.wrap (n5 + (1 : Int))) w10 m4)) ∧
        cond (n6 != (0 : Int))
        (J4 true w9)
        (onSome a1 fun q1 =>
         0 ≤ n5 ∧ n5 < ((l1 : Nat) : Int) ∧
         ∃ (s4 : ByteArray),
         w9.cell? (Addr.add q1 ((n5).toNat * 1)) = some (.string s4) ∧
         J4 (!(s3.toList == s4.toList)) w9))
       (∃ m2, m2 < m1 ∧ I1 (IntKind.i64.wrap (n3 + (1 : Int))) w8 m2))) ∧
     cond (n4 != (0 : Int))
     (J3 true w6)
     (cond (p2).isNone
      (J3 true w6)
      (Calls Tryd.prog 16 #[(.pointer p2)] w6 fun e5 w11 => ∃ (n7 : Int),
       e5 = .returned (.int .i64 n7) ∧
       cond (n7 != ((l1 : Nat) : Int))
       (J3 true w11)
       (Calls Tryd.prog 17 #[(.pointer p2)] w11 fun e6 w12 => ∃ (n8 : Int),
        e6 = .returned (.int .i64 n8) ∧
        cond (n8 != ((l1 : Nat) : Int))
        (J3 true w12)
        (Calls Tryd.prog 25 #[(.pointer p1)] w12 fun e7 w13 => ∃ (n9 : Int),
         e7 = .returned (.int .i64 n9) ∧
         cond (n9 != n2)
         (J3 true w13)
         (Calls Tryd.prog 26 #[(.pointer p1)] w13 fun e8 w14 => ∃ (n10 : Int),
          e8 = .returned (.int .i64 n10) ∧
          J3 (n10 != n2) w14))))))
    (Calls Tryd.prog 22 #[] w5 fun e9 w15 => ∃ (b4 : Bool),
     e9 = .returned (.bool b4) ∧
     K (.bool b4) w15))) ∧
  cond (n1 != (0 : Int))
  (J2 true w2)
  (cond (p1).isNone
   (J2 true w2)
   (Calls Tryd.prog 23 #[(.pointer p1), (.string s2)] w2 fun e10 w16 => ∃ (n11 : Int),
    e10 = .returned (.int .i64 n11) ∧
    J2 (n11 != (0 : Int)) w16))) ∧
 cond (decide (((s1.size : Nat) : Int) > (1500 : Int)))
 (0 ≤ (1500 : Int) ∧ (1500 : Int) ≤ ((s1.size : Nat) : Int) ∧
  J1 (s1.extract 0 (((1500 : Int)).toNat)) w)
 (J1 s1 w)
def lJournalOpens_ann : List (Nat × Live) := [(3, [(0, .s (.str))]), (30, [(33, .s (.bool))]), (506, [(7, .s (.int .i64))]), (32402, [(79, .s (.bool))]), (129614, [(10, .s (.int .i64))]), (4147657, [(101, .s (.bool))])]
theorem lJournalOpens_ok {s1 : ByteArray} {w : World} {K : Value → World → Prop} (h : lJournalOpens s1 w K) : Calls Tryd.prog 4 #[(.string s1)] w fun e w' => ∃ v, e = .returned v ∧ K v w' :=
  calls_sh (annL lJournalOpens_ann) Tryd.func4 (by kernel_rfl) (args := [(.string s1)]) (by kernel_rfl) h

-- saleroom/saleroomlaw43.JournalProves
def lJournalProves (a1 : Option Addr) (l1 c1 : Nat) (n1 : Int) (w : World) (K : Value → World → Prop) : Prop :=
 ∃ J1 : Option Addr → Nat → Nat → World → Prop, (∀ (w1 : World) (a2 : Option Addr) (l2 c2 : Nat), J1 a2 l2 c2 w1 → ∀ x1 : Nat → Value,
  ∃ I1 : Int → World → Nat → Prop, (∃ m1, I1 (0 : Int) w1 m1) ∧
  ∀ (w2 : World) (m1 : Nat) (n2 : Int), I1 n2 w2 m1 → ∀ x2 : Nat → Value,
  cond (decide (n2 < ((l2 : Nat) : Int)))
  (onSome a2 fun q1 =>
   0 ≤ n2 ∧ n2 < ((l2 : Nat) : Int) ∧
   ∃ (s1 : ByteArray),
   w2.cell? (Addr.add q1 ((n2).toNat * 1)) = some (.string s1) ∧
   cond (decide (((s1.size : Nat) : Int) > (200 : Int)))
   (Calls Tryd.prog 22 #[] w2 fun e1 w3 => ∃ (b1 : Bool),
    e1 = .returned (.bool b1) ∧
    K (.bool b1) w3)
   (∃ m2, m2 < m1 ∧ I1 (IntKind.i64.wrap (n2 + (1 : Int))) w2 m2))
  (Calls Tryd.prog 31 #[(.slice a2 l2 c2), (.int .i64 n1)] w2 fun e2 w4 => ∃ (n3 : Int) (a3 : Option Addr) (l3 c3 : Nat) (n4 : Int),
   e2 = .returned (.tuple #[(.int .u64 n3), (.slice a3 l3 c3), (.int .i64 n4)]) ∧
   Calls Tryd.prog 32 #[(.slice a2 l2 c2), (.int .i64 n1)] w4 fun e3 w5 => ∃ (n5 : Int) (a4 : Option Addr) (l4 c4 : Nat) (n6 : Int),
   e3 = .returned (.tuple #[(.int .u64 n5), (.slice a4 l4 c4), (.int .i64 n6)]) ∧
   ∃ J2 : Bool → World → Prop, (∀ (w6 : World) (b2 : Bool), J2 b2 w6 → ∀ x3 : Nat → Value,
    cond b2
    (K (.bool false) w6)
    (∃ I2 : Int → Int → World → Nat → Prop, (∃ m3, I2 n3 (0 : Int) w6 m3) ∧
     ∀ (w7 : World) (m3 : Nat) (n7 : Int) (n8 : Int), I2 n7 n8 w7 m3 → ∀ x4 : Nat → Value,
     cond (decide (n8 < ((l3 : Nat) : Int)))
     (onSome a3 fun q2 =>
      0 ≤ n8 ∧ n8 < ((l3 : Nat) : Int) ∧
      ∃ (s2 : ByteArray),
      w7.cell? (Addr.add q2 ((n8).toNat * 1)) = some (.string s2) ∧
      Calls Tryd.prog 33 #[(.int .u64 n7), (.string s2)] w7 fun e4 w8 => ∃ (n9 : Int),
      e4 = .returned (.int .u64 n9) ∧
      ∃ m4, m4 < m3 ∧ I2 n9 (IntKind.i64.wrap (n8 + (1 : Int))) w8 m4)
     (cond (n4 != (0 : Int))
      (Calls Tryd.prog 22 #[] w7 fun e5 w9 => ∃ (b3 : Bool),
       e5 = .returned (.bool b3) ∧
       K (.bool b3) w9)
      (Calls Tryd.prog 20 #[(.slice a2 l2 c2)] w7 fun e6 w10 => ∃ (a5 : Option Addr) (l5 c5 : Nat),
       e6 = .returned (.slice a5 l5 c5) ∧
       onSome a5 fun q3 =>
       0 ≤ ((l2 : Nat) : Int) ∧ ((l2 : Nat) : Int) < ((l5 : Nat) : Int) ∧
       ∃ (n10 : Int),
       w10.cell? (Addr.add q3 ((((l2 : Nat) : Int)).toNat * 1)) = some (.int .u64 n10) ∧
       cond (n7 == n10)
       (Calls Tryd.prog 22 #[] w10 fun e7 w11 => ∃ (b4 : Bool),
        e7 = .returned (.bool b4) ∧
        K (.bool b4) w11)
       (K (.bool false) w10))))) ∧
   cond (n3 != n5)
   (J2 true w5)
   (cond (n4 != n6)
    (J2 true w5)
    (Calls Tryd.prog 30 #[(.slice a3 l3 c3), (.slice a4 l4 c4)] w5 fun e8 w12 => ∃ (b5 : Bool),
     e8 = .returned (.bool b5) ∧
     J2 (!b5) w12)))) ∧
 cond (decide (((l1 : Nat) : Int) > (40 : Int)))
 (0 ≤ (40 : Int) ∧ (40 : Int) ≤ ((c1 : Nat) : Int) ∧
  J1 (if c1 = 0 then a1 else Option.map (fun x => Addr.add x (0 * 1)) a1) (((40 : Int)).toNat - 0) (c1 - 0) w)
 (J1 a1 l1 c1 w)
def lJournalProves_ann : List (Nat × Live) := [(3, [(0, .s (.slice))]), (58, [(5, .s (.int .i64))]), (126, [(58, .s (.bool))]), (1018, [(6, .s (.int .u64)), (12, .s (.int .i64))])]
theorem lJournalProves_ok {a1 : Option Addr} {l1 c1 : Nat} {n1 : Int} {w : World} {K : Value → World → Prop} (h : lJournalProves a1 l1 c1 n1 w K) : Calls Tryd.prog 8 #[(.slice a1 l1 c1), (.int .i64 n1)] w fun e w' => ∃ v, e = .returned v ∧ K v w' :=
  calls_sh (annL lJournalProves_ann) Tryd.func8 (by kernel_rfl) (args := [(.slice a1 l1 c1), (.int .i64 n1)]) (by kernel_rfl) h

-- saleroom/saleroomlaw43.JournalRefuses
def lJournalRefuses (s1 : ByteArray) (n1 : Int) (w : World) (K : Value → World → Prop) : Prop :=
 cond (decide (((s1.size : Nat) : Int) > (5000 : Int)))
 (Calls Tryd.prog 22 #[] w fun e1 w1 => ∃ (b1 : Bool),
  e1 = .returned (.bool b1) ∧
  K (.bool b1) w1)
 (Calls Tryd.prog 14 #[(.pointer none), (.string s1)] w fun e2 w2 => ∃ (n2 : Int) (n3 : Int),
  e2 = .returned (.tuple #[(.int .u64 n2), (.int .i64 n3)]) ∧
  Calls Tryd.prog 12 #[(.pointer none)] w2 fun e3 w3 => ∃ (p1 : Option Addr) (n4 : Int),
  e3 = .returned (.tuple #[(.pointer p1), (.int .i64 n4)]) ∧
  ∃ J1 : Bool → World → Prop, (∀ (w4 : World) (b2 : Bool), J1 b2 w4 → ∀ x1 : Nat → Value,
   cond b2
   (K (.bool false) w4)
   (Calls Tryd.prog 11 #[(.int .i64 (IntKind.i64.wrap ((IntKind.i64.wrap n1) + (1 : Int))))] w4 fun e4 w5 => ∃ (p2 : Option Addr) (n5 : Int),
    e4 = .returned (.tuple #[(.pointer p2), (.int .i64 n5)]) ∧
    ∃ J2 : Bool → World → Prop, (∀ (w6 : World) (b3 : Bool), J2 b3 w6 → ∀ x2 : Nat → Value,
     cond b3
     (K (.bool false) w6)
     (Calls Tryd.prog 12 #[(.pointer p2)] w6 fun e5 w7 => ∃ (p3 : Option Addr) (n6 : Int),
      e5 = .returned (.tuple #[(.pointer p3), (.int .i64 n6)]) ∧
      ∃ J3 : Bool → World → Prop, (∀ (w8 : World) (b4 : Bool), J3 b4 w8 → ∀ x3 : Nat → Value,
       cond b4
       (K (.bool false) w8)
       (Calls Tryd.prog 14 #[(.pointer p3), (.string s1)] w8 fun e6 w9 => ∃ (n7 : Int) (n8 : Int),
        e6 = .returned (.tuple #[(.int .u64 n7), (.int .i64 n8)]) ∧
        ∃ J4 : Int → World → Prop, (∀ (w10 : World) (n9 : Int), J4 n9 w10 → ∀ x4 : Nat → Value,
         ∃ J5 : Bool → World → Prop, (∀ (w11 : World) (b5 : Bool), J5 b5 w11 → ∀ x5 : Nat → Value,
          cond b5
          (K (.bool false) w11)
          (Calls Tryd.prog 14 #[(.pointer p3), (.string (bs []))] w11 fun e7 w12 => ∃ (n10 : Int) (n11 : Int),
           e7 = .returned (.tuple #[(.int .u64 n10), (.int .i64 n11)]) ∧
           cond (n11 == (0 : Int))
           (Calls Tryd.prog 22 #[] w12 fun e8 w13 => ∃ (b6 : Bool),
            e8 = .returned (.bool b6) ∧
            K (.bool b6) w13)
           (cond (n11 == (18 : Int))
            (Calls Tryd.prog 22 #[] w12 fun e9 w14 => ∃ (b7 : Bool),
             e9 = .returned (.bool b7) ∧
             K (.bool b7) w14)
            (K (.bool false) w12)))) ∧
         cond (n8 != n9)
         (J5 true w10)
         (cond (n9 != (0 : Int))
          (Calls Tryd.prog 16 #[(.pointer p3)] w10 fun e10 w15 => ∃ (n12 : Int),
           e10 = .returned (.int .i64 n12) ∧
           cond (n12 != (0 : Int))
           (J5 true w15)
           (Calls Tryd.prog 25 #[(.pointer p2)] w15 fun e11 w16 => ∃ (n13 : Int),
            e11 = .returned (.int .i64 n13) ∧
            J5 (n13 != (0 : Int)) w16))
          (J5 false w10))) ∧
        cond (decide (((s1.size : Nat) : Int) > (4000 : Int)))
        (J4 (3 : Int) w9)
        (newK w9 (.cells #[(.string s1)] 9) fun r1 w17 =>
         Calls Tryd.prog 21 #[(.slice (some ⟨r1, 0, none⟩) 1 1)] w17 fun e12 w18 => ∃ (s2 : ByteArray),
         e12 = .returned (.string s2) ∧
         cond (decide (((s2.size : Nat) : Int) > (IntKind.i64.wrap ((IntKind.i64.wrap n1) + (1 : Int)))))
         (J4 (18 : Int) w18)
         (J4 (0 : Int) w18)))) ∧
      cond (n6 != (0 : Int))
      (J3 true w7)
      (J3 (p3).isNone w7))) ∧
    cond (n5 != (0 : Int))
    (J2 true w5)
    (J2 (p2).isNone w5))) ∧
  cond (n3 != (6 : Int))
  (J1 true w3)
  (cond (n4 != (6 : Int))
   (J1 true w3)
   (Calls Tryd.prog 13 #[(.pointer none)] w3 fun e13 w19 => ∃ (n14 : Int),
    e13 = .returned (.int .i64 n14) ∧
    cond (n14 != (6 : Int))
    (J1 true w19)
    (Calls Tryd.prog 16 #[(.pointer none)] w19 fun e14 w20 => ∃ (n15 : Int),
     e14 = .returned (.int .i64 n15) ∧
     cond (n15 != (0 : Int))
     (J1 true w20)
     (Calls Tryd.prog 17 #[(.pointer none)] w20 fun e15 w21 => ∃ (n16 : Int),
      e15 = .returned (.int .i64 n16) ∧
      cond (n16 != (0 : Int))
      (J1 true w21)
      (Calls Tryd.prog 27 #[(.pointer none)] w21 fun e16 w22 => ∃ (n17 : Int),
       e16 = .returned (.int .u64 n17) ∧
       J1 (n17 != (0 : Int)) w22))))))
def lJournalRefuses_ann : List (Nat × Live) := [(126, [(58, .s (.bool))]), (510, [(71, .s (.bool))]), (2046, [(82, .s (.bool))]), (8191, [(16, .s (.int .i64))]), (32766, [(116, .s (.bool))])]
theorem lJournalRefuses_ok {s1 : ByteArray} {n1 : Int} {w : World} {K : Value → World → Prop} (h : lJournalRefuses s1 n1 w K) : Calls Tryd.prog 5 #[(.string s1), (.int .u8 n1)] w fun e w' => ∃ v, e = .returned v ∧ K v w' :=
  calls_sh (annL lJournalRefuses_ann) Tryd.func5 (by kernel_rfl) (args := [(.string s1), (.int .u8 n1)]) (by kernel_rfl) h

end Go.Proofs.YtniehglfkacjjaaDoor
