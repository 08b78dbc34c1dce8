/-
  The weight of a roll: of the reference. Conditions: each theorem's own.
-/
import Derived.Test.YtfgkkmhafdbicaaPlP2
import Derived.Test.YtfgkkmhafdbicaaOwn
import Derived.Test.YtfgkkmhafdbicaaInts
import Derived.Deep.DeepCutAuto
set_option linter.unusedVariables false
set_option linter.unusedSimpArgs false
namespace Go.Proofs.Ytfgkkmhafdbicaa.Bd14
open Go.ChangeShapes Go.WideShapes Go.ChangeAt Go.RowKit Base Ints Own PlP

theorem weight_s (a b : Int) (w : World) : Calls Try.prog 73 #[.agg #[.int .i64 a, .int .i64 b]] w fun e w' => e = .returned (.int .i64 (wtP (a, b))) ∧ Below w.heap.size w w' := by
  by_cases h : a = b
  · have HO : Hid (wtP (a, b) = 1) := Lib.hid (by unfold wtP; rw [if_pos h])
    have e1 : (a == b) = true := by simp [h]
    clear h
    go_enter Try.func73, Try.ntmps73
    go_wp2_with fail
    go_ret
    exact ⟨ret1 HO.out.symm, by go_grown⟩
  · have HO : Hid (wtP (a, b) = 2) := Lib.hid (by unfold wtP; rw [if_neg h])
    have e1 : (a == b) = false := by simp [h]
    clear h
    go_enter Try.func73, Try.ntmps73
    go_wp2_with fail
    go_ret
    exact ⟨ret1 HO.out.symm, by go_grown⟩
end Go.Proofs.Ytfgkkmhafdbicaa.Bd14
