/-
  The contracts of the laws' helper functions over []Verdict. Conditions: each theorem's own.
-/
import Derived.Test.YtahpdboehpicoaaDoorBase2
import Derived.Test.YtahpdboehpicoaaDoorRows
import Derived.WalkKit
import Derived.ProofKit
import Derived.OpenShut
import Derived.Outline
import Derived.WalkLawsBesides
import Derived.Handy
import Derived.Deep.QuietTactic
import Derived.BigQuiet
import Derived.Deep.RegionHeld3
import Derived.Lib.Hide
set_option linter.unusedVariables false
namespace Go.Proofs.YtahpdboehpicoaaDoor.VdS
open Go.ChangeShapes Go.WideShapes Go.ChangeAt Go.RowKit Base Base2


theorem copy1 (p q r s : Int) (w : World) :
    Calls Tryd.prog 6 #[.agg #[.int .i64 p, .int .i64 q, .int .i64 r, .int .i64 s]] w fun e w' => e = .returned (.agg #[.int .i64 p, .int .i64 q, .int .i64 r, .int .i64 s]) ∧ Below w.heap.size w w' := by
  go_enter Tryd.func6, Tryd.ntmps6
  go_wp2
  go_returns
  exact ⟨rfl, by go_grown⟩






end Go.Proofs.YtahpdboehpicoaaDoor.VdS
