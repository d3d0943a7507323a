/-
  No cell of these rows narrows 'for every input' (looked for: loops, veiled, ifaces, maps, wideKeys, modest, calm, conditions, laid).
  DERIVED. THE GIVEN ROWS OF THIS SEAT. 5 by the template 'for every input the law returns true; each argument reads behind the call as it read before'; 0 by the template 'total and deterministic' (their statements: YtbjbfppaghfpcaaTotals.lean).
  GIVEN WITH THE SEED: the statements are not yours to turn. If you find one false, say at which input.
  Laid BY PROGRAM, IN A SANDBOX (cutbox-rows.mjs): the forced cells as the released guide's own fill.sh prints them over the translation 010e7c1c60e06b2b… (all of the seat's roots in one cut). By AI agents, Wed Nov 11 2026. No macro, syntax, notation, axiom, sorry.
-/
import Derived.Test.YtbjbfppaghfpcaaChecked
import GoSem.Claim
import GoSem.ClaimJoined
import GoSem.ClaimMapViews
import Derived.JoinedTies
import Derived.KernelRfl
namespace Go.Proofs.Ytbjbfppaghfpcaa
/- THE CELL 'sum', in the pinned program and in every row, IS THE sha256 OF THE DUMP (.gsa) THAT YtbjbfppaghfpcaaProg.lean LOADS. Nothing in Lean hashes anything: it is a label: what it is worth is what the hold of that sum in a sandbox is worth. -/
noncomputable def Try.pinned : Pinned := { name := "ytbjbfppaghfpcaa", sum := "010e7c1c60e06b2b60096d1d57bf5a05d191f13fea4a8c4a7c7eb54299e50c29", checked := Try.checked }
namespace Rows
def none {H : Type} : Left H := { results := [], args := [] }

/-- 'saleroomlaw41.MediaExact': WHATEVER THE INPUT: true; the input reads as it did. -/
def mediaExactSpec : ChangeSpec := { name := "mediaExact", fn := fun _ => fun
  | [d1, d2] => { results := [.lit (.bool true)], args := [d1, d2] }
  | _ => none }
def mediaExactRow : OpenClaim := { program := "ytbjbfppaghfpcaa", sum := "010e7c1c60e06b2b60096d1d57bf5a05d191f13fea4a8c4a7c7eb54299e50c29", func := "saleroom/saleroomlaw41.MediaExact", spec := "mediaExact", inPlace := ["internal/reflectlite.TypeOf"], unfollowed := true, recurses := true, apart := false }
def MediaExactSaid : Prop := mediaExactRow.holds Try.pinned (OpenSpec.ofChange mediaExactSpec)

/-- ITS FALSE NEIGHBOUR: 'it returns false'. Refute it at one input. -/
def mediaExactWrong : ChangeSpec := { name := "mediaExact", fn := fun _ => fun
  | [d1, d2] => { results := [.lit (.bool false)], args := [d1, d2] }
  | _ => none }
def MediaExactWrongFalsely : Prop := mediaExactRow.holds Try.pinned (OpenSpec.ofChange mediaExactWrong)

/-- 'saleroomlaw41.MediaDurable': WHATEVER THE INPUT: true; the input reads as it did. -/
def mediaDurableSpec : ChangeSpec := { name := "mediaDurable", fn := fun _ => fun
  | [d1, d2, d3] => { results := [.lit (.bool true)], args := [d1, d2, d3] }
  | _ => none }
def mediaDurableRow : OpenClaim := { program := "ytbjbfppaghfpcaa", sum := "010e7c1c60e06b2b60096d1d57bf5a05d191f13fea4a8c4a7c7eb54299e50c29", func := "saleroom/saleroomlaw41.MediaDurable", spec := "mediaDurable", inPlace := ["internal/reflectlite.TypeOf"], unfollowed := true, recurses := true, apart := false }
def MediaDurableSaid : Prop := mediaDurableRow.holds Try.pinned (OpenSpec.ofChange mediaDurableSpec)

/-- ITS FALSE NEIGHBOUR: 'it returns false'. Refute it at one input. -/
def mediaDurableWrong : ChangeSpec := { name := "mediaDurable", fn := fun _ => fun
  | [d1, d2, d3] => { results := [.lit (.bool false)], args := [d1, d2, d3] }
  | _ => none }
def MediaDurableWrongFalsely : Prop := mediaDurableRow.holds Try.pinned (OpenSpec.ofChange mediaDurableWrong)

/-- 'saleroomlaw41.MediaCopies': WHATEVER THE INPUT: true; the input reads as it did. -/
def mediaCopiesSpec : ChangeSpec := { name := "mediaCopies", fn := fun _ => fun
  | [d1, d2, d3] => { results := [.lit (.bool true)], args := [d1, d2, d3] }
  | _ => none }
def mediaCopiesRow : OpenClaim := { program := "ytbjbfppaghfpcaa", sum := "010e7c1c60e06b2b60096d1d57bf5a05d191f13fea4a8c4a7c7eb54299e50c29", func := "saleroom/saleroomlaw41.MediaCopies", spec := "mediaCopies", inPlace := ["internal/reflectlite.TypeOf"], unfollowed := true, recurses := true, apart := false }
def MediaCopiesSaid : Prop := mediaCopiesRow.holds Try.pinned (OpenSpec.ofChange mediaCopiesSpec)

/-- ITS FALSE NEIGHBOUR: 'it returns false'. Refute it at one input. -/
def mediaCopiesWrong : ChangeSpec := { name := "mediaCopies", fn := fun _ => fun
  | [d1, d2, d3] => { results := [.lit (.bool false)], args := [d1, d2, d3] }
  | _ => none }
def MediaCopiesWrongFalsely : Prop := mediaCopiesRow.holds Try.pinned (OpenSpec.ofChange mediaCopiesWrong)

/-- 'saleroomlaw41.MediaNil': WHATEVER THE INPUT: true; the input reads as it did. -/
def mediaNilSpec : ChangeSpec := { name := "mediaNil", fn := fun _ => fun
  | [d1, d2] => { results := [.lit (.bool true)], args := [d1, d2] }
  | _ => none }
def mediaNilRow : OpenClaim := { program := "ytbjbfppaghfpcaa", sum := "010e7c1c60e06b2b60096d1d57bf5a05d191f13fea4a8c4a7c7eb54299e50c29", func := "saleroom/saleroomlaw41.MediaNil", spec := "mediaNil", inPlace := ["internal/reflectlite.TypeOf"], unfollowed := true, recurses := true, apart := false }
def MediaNilSaid : Prop := mediaNilRow.holds Try.pinned (OpenSpec.ofChange mediaNilSpec)

/-- ITS FALSE NEIGHBOUR: 'it returns false'. Refute it at one input. -/
def mediaNilWrong : ChangeSpec := { name := "mediaNil", fn := fun _ => fun
  | [d1, d2] => { results := [.lit (.bool false)], args := [d1, d2] }
  | _ => none }
def MediaNilWrongFalsely : Prop := mediaNilRow.holds Try.pinned (OpenSpec.ofChange mediaNilWrong)

/-- 'saleroomlaw41.MediaArms': WHATEVER THE INPUT: true; the input reads as it did. -/
def mediaArmsSpec : ChangeSpec := { name := "mediaArms", fn := fun _ => fun
  | [d1, d2] => { results := [.lit (.bool true)], args := [d1, d2] }
  | _ => none }
def mediaArmsRow : OpenClaim := { program := "ytbjbfppaghfpcaa", sum := "010e7c1c60e06b2b60096d1d57bf5a05d191f13fea4a8c4a7c7eb54299e50c29", func := "saleroom/saleroomlaw41.MediaArms", spec := "mediaArms", inPlace := ["internal/reflectlite.TypeOf"], unfollowed := true, recurses := true, apart := false }
def MediaArmsSaid : Prop := mediaArmsRow.holds Try.pinned (OpenSpec.ofChange mediaArmsSpec)

/-- ITS FALSE NEIGHBOUR: 'it returns false'. Refute it at one input. -/
def mediaArmsWrong : ChangeSpec := { name := "mediaArms", fn := fun _ => fun
  | [d1, d2] => { results := [.lit (.bool false)], args := [d1, d2] }
  | _ => none }
def MediaArmsWrongFalsely : Prop := mediaArmsRow.holds Try.pinned (OpenSpec.ofChange mediaArmsWrong)

/- THE SECOND FORM. 'bulk': how many values and letters a reading holds, each counted each time it is reached (what is shared counts as often as it is met; a slice's spare places count too). A statement '..UptoSaid' is the law's where the arguments, and the package variables that the reading takes, are together of bulk at most 1048576: NARROWER than '..Said'. Prove '..Said' where nothing that the law and all that it calls make is longer than what came in: it says more and counts as full. Else prove '..UptoSaid'. A law counts once. -/
mutual
def uptoBulk {H : Type} : DataW H → Nat
  | .lit (.string bytes) => bytes.length + 1
  | .lit _ => 1
  | .nil => 1
  | .ptr d => uptoBulk d + 1
  | .slice elems spare => uptoBulkAll elems + uptoBulkAll spare + 1
  | .agg parts => uptoBulkAll parts + 1
  | .iface _ d => uptoBulk d + 1
  | .map entries => uptoBulkEntries entries + 1
  | .held _ => 1
def uptoBulkAll {H : Type} : List (DataW H) → Nat
  | [] => 0
  | d :: r => uptoBulk d + uptoBulkAll r
def uptoBulkEntries {H : Type} : List (Lit × DataW H) → Nat
  | [] => 0
  | x :: r => uptoBulkEntry x + uptoBulkEntries r
def uptoBulkEntry {H : Type} : Lit × DataW H → Nat
  | (.string bytes, d) => bytes.length + uptoBulk d + 1
  | (_, d) => uptoBulk d + 1
 end
def uptoSmall : (H : Type) → List (DataW H) → Bool := fun _ ds => decide (uptoBulkAll ds ≤ 1048576)
def OpenSpec.upto (s : _root_.Go.ChangeSpec) : _root_.Go.OpenSpec := { _root_.Go.OpenSpec.ofChange s with cond := some uptoSmall }

/-- 'saleroomlaw41.MediaExact', WHERE WHAT IT READS IS OF BULK AT MOST 1048576: true; the input reads as it did. -/
def mediaExactUptoRow : OpenClaim := { program := "ytbjbfppaghfpcaa", sum := "010e7c1c60e06b2b60096d1d57bf5a05d191f13fea4a8c4a7c7eb54299e50c29", func := "saleroom/saleroomlaw41.MediaExact", spec := "mediaExact", inPlace := ["internal/reflectlite.TypeOf"], unfollowed := true, recurses := true, apart := false, narrowed := true }
def MediaExactUptoSaid : Prop := mediaExactUptoRow.holds Try.pinned (OpenSpec.upto mediaExactSpec)

/-- 'saleroomlaw41.MediaDurable', WHERE WHAT IT READS IS OF BULK AT MOST 1048576: true; the input reads as it did. -/
def mediaDurableUptoRow : OpenClaim := { program := "ytbjbfppaghfpcaa", sum := "010e7c1c60e06b2b60096d1d57bf5a05d191f13fea4a8c4a7c7eb54299e50c29", func := "saleroom/saleroomlaw41.MediaDurable", spec := "mediaDurable", inPlace := ["internal/reflectlite.TypeOf"], unfollowed := true, recurses := true, apart := false, narrowed := true }
def MediaDurableUptoSaid : Prop := mediaDurableUptoRow.holds Try.pinned (OpenSpec.upto mediaDurableSpec)

/-- 'saleroomlaw41.MediaCopies', WHERE WHAT IT READS IS OF BULK AT MOST 1048576: true; the input reads as it did. -/
def mediaCopiesUptoRow : OpenClaim := { program := "ytbjbfppaghfpcaa", sum := "010e7c1c60e06b2b60096d1d57bf5a05d191f13fea4a8c4a7c7eb54299e50c29", func := "saleroom/saleroomlaw41.MediaCopies", spec := "mediaCopies", inPlace := ["internal/reflectlite.TypeOf"], unfollowed := true, recurses := true, apart := false, narrowed := true }
def MediaCopiesUptoSaid : Prop := mediaCopiesUptoRow.holds Try.pinned (OpenSpec.upto mediaCopiesSpec)

/-- 'saleroomlaw41.MediaNil', WHERE WHAT IT READS IS OF BULK AT MOST 1048576: true; the input reads as it did. -/
def mediaNilUptoRow : OpenClaim := { program := "ytbjbfppaghfpcaa", sum := "010e7c1c60e06b2b60096d1d57bf5a05d191f13fea4a8c4a7c7eb54299e50c29", func := "saleroom/saleroomlaw41.MediaNil", spec := "mediaNil", inPlace := ["internal/reflectlite.TypeOf"], unfollowed := true, recurses := true, apart := false, narrowed := true }
def MediaNilUptoSaid : Prop := mediaNilUptoRow.holds Try.pinned (OpenSpec.upto mediaNilSpec)

/-- 'saleroomlaw41.MediaArms', WHERE WHAT IT READS IS OF BULK AT MOST 1048576: true; the input reads as it did. -/
def mediaArmsUptoRow : OpenClaim := { program := "ytbjbfppaghfpcaa", sum := "010e7c1c60e06b2b60096d1d57bf5a05d191f13fea4a8c4a7c7eb54299e50c29", func := "saleroom/saleroomlaw41.MediaArms", spec := "mediaArms", inPlace := ["internal/reflectlite.TypeOf"], unfollowed := true, recurses := true, apart := false, narrowed := true }
def MediaArmsUptoSaid : Prop := mediaArmsUptoRow.holds Try.pinned (OpenSpec.upto mediaArmsSpec)

end Rows
end Go.Proofs.Ytbjbfppaghfpcaa
