/-
  The contracts of the helper functions of the laws over slices of int64: size, copy, comparison, marks. Conditions: each theorem's own.
-/
import Derived.Test.YtlfdcefgelpgmaaGreatDoorRows
import Derived.WalkKit
import Derived.ProofKit
import Derived.OpenShut
import Derived.Outline
import Derived.WalkLawsBesides
import Derived.Handy
import Derived.Deep.QuietTactic
import Derived.BigQuiet
import Derived.Deep.RegionHeld3
import Derived.Lib.Hide
import Derived.Test.YtlfdcefgelpgmaaGreatDoorBase
namespace Go.Proofs.YtlfdcefgelpgmaaGreatDoor.Ints
open Go.ChangeShapes Go.WideShapes Go.ChangeAt Go.RowKit Base

theorem info : (Tryz.prog.info? 2).map (fun i => (i.zero, i.size, i.bytes)) = some (some (.int .i64 0), 1, 8) := by kernel_rfl







end Go.Proofs.YtlfdcefgelpgmaaGreatDoor.Ints
