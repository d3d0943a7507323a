import Derived.Test.YtbjbfppaghfpcaaMl1
namespace Go.Proofs.Ytbjbfppaghfpcaa
open Go Go.Vc

theorem mediaNil_c (n : Int) (t : ByteArray) (w : World) : Calls Try.prog 6 #[.int .i64 n, .string t] w (RetC fun r w' => r = .bool true ∧ Chg w w' []) := by
  refine lMediaNil_ok ?_
  unfold lMediaNil
  refine useC (crashN_c w n) ?_
  rintro _ w1 ⟨rfl, rfl⟩
  refine ⟨rfl, useC (armN_c _ n) ?_⟩
  rintro _ w1 ⟨rfl, rfl⟩
  refine ⟨rfl, useC (readN_c _) ?_⟩
  rintro _ w1 ⟨rfl, rfl⟩
  refine ⟨_, _, rfl, useC (appendN_c _ t) ?_⟩
  rintro _ w1 ⟨rfl, rfl⟩
  refine ⟨_, rfl, cT rfl (useC (syncN_c _) ?_)⟩
  rintro _ w1 ⟨rfl, rfl⟩
  refine ⟨_, rfl, cT rfl (useC (truncateN_c _ n) ?_)⟩
  rintro _ w1 ⟨rfl, rfl⟩
  refine ⟨_, rfl, cT rfl (cT (bytes_beq _ _ rfl) (cT rfl (useC (sizeN_c _) ?_)))⟩
  rintro _ w1 ⟨rfl, rfl⟩
  refine ⟨_, rfl, cT rfl (useC (durableN_c _) ?_)⟩
  rintro _ w1 ⟨rfl, rfl⟩
  refine ⟨_, rfl, cT rfl (useC (flipN_c _ n 1) ?_)⟩
  rintro _ w1 ⟨rfl, rfl⟩
  refine ⟨_, rfl, cT rfl (useC (copyN_c _) ?_)⟩
  rintro _ w1 ⟨rfl, rfl⟩
  refine ⟨_, rfl, cT rfl (useC (awake_c _) ?_)⟩
  rintro _ w1 ⟨rfl, hc⟩
  exact ⟨_, rfl, rfl, hc⟩

end Go.Proofs.Ytbjbfppaghfpcaa
