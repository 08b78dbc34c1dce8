/-
  The contracts of the clock's rules and states, of the program and of the reference. Conditions: each theorem's own.
-/
import Derived.Test.YtdjopnhbcchedaaClockState
import Derived.BigGuardPart
set_option linter.unusedVariables false
namespace Go.Proofs.Ytdjopnhbcchedaa.Clock
open Go.ChangeShapes Go.WideShapes Go.ChangeAt Go.RowKit Base Ints

/-- Are they rules? -/
def okCR (r d b : Int) : Bool := decide (1 ≤ r ∧ r ≤ 100000000 ∧ 0 ≤ d ∧ d ≤ 100000000 ∧ 0 ≤ b ∧ b ≤ 100000000)
def okCS (r d b : Int) (xs : List Int) (turn since used : Int) (run : Bool) (fallen : Int) : Bool :=
  okCR r d b && (match xs with | [x, y] => decide (0 ≤ x ∧ x ≤ 100000000 ∧ 0 ≤ y ∧ y ≤ 100000000 ∧ 0 ≤ turn ∧ turn ≤ 1 ∧ 0 ≤ since ∧ since ≤ 100000000 ∧ 0 ≤ used ∧ used ≤ 100000000 ∧ (fallen = -1 ∨ fallen = turn ∧ run = false)) | _ => false)

theorem isCR_spec (r d b : Int) (w : World) :
    Calls Try.prog 13 #[.agg #[.int .i64 r, .int .i64 d, .int .i64 b]] w fun e w' => e = .returned (.bool (okCR r d b)) ∧ Below w.heap.size w w' := by
  unfold okCR
  by_cases h1 : 1 ≤ r
  · by_cases h2 : r ≤ 100000000
    · by_cases h3 : 0 ≤ d
      · by_cases h4 : d ≤ 100000000
        · by_cases h5 : 0 ≤ b
          · by_cases h6 : b ≤ 100000000
            · go_enter Try.func13, Try.ntmps13
              go_wp2
              all_goals go_ret
              all_goals exact ⟨by simp; try omega, by go_grown⟩
            · go_enter Try.func13, Try.ntmps13
              go_wp2
              all_goals go_ret
              all_goals exact ⟨by simp; try omega, by go_grown⟩
          · go_enter Try.func13, Try.ntmps13
            go_wp2
            all_goals go_ret
            all_goals exact ⟨by simp; try omega, by go_grown⟩
        · go_enter Try.func13, Try.ntmps13
          go_wp2
          all_goals go_ret
          all_goals exact ⟨by simp; try omega, by go_grown⟩
      · go_enter Try.func13, Try.ntmps13
        go_wp2
        all_goals go_ret
        all_goals exact ⟨by simp; try omega, by go_grown⟩
    · go_enter Try.func13, Try.ntmps13
      go_wp2
      all_goals go_ret
      all_goals exact ⟨by simp; try omega, by go_grown⟩
  · go_enter Try.func13, Try.ntmps13
    go_wp2
    all_goals go_ret
    all_goals exact ⟨by simp; try omega, by go_grown⟩

theorem isCR_impl (r d b : Int) (w : World) :
    Calls Try.prog 15 #[.agg #[.int .i64 r, .int .i64 d, .int .i64 b]] w fun e w' => e = .returned (.bool (okCR r d b)) ∧ Below w.heap.size w w' := by
  unfold okCR
  by_cases h1 : 1 ≤ r
  · by_cases h2 : r ≤ 100000000
    · by_cases h3 : 0 ≤ d
      · by_cases h4 : d ≤ 100000000
        · by_cases h5 : 0 ≤ b
          · by_cases h6 : b ≤ 100000000
            · go_enter Try.func15, Try.ntmps15
              go_wp2
              all_goals go_ret
              all_goals exact ⟨by simp; try omega, by go_grown⟩
            · go_enter Try.func15, Try.ntmps15
              go_wp2
              all_goals go_ret
              all_goals exact ⟨by simp; try omega, by go_grown⟩
          · go_enter Try.func15, Try.ntmps15
            go_wp2
            all_goals go_ret
            all_goals exact ⟨by simp; try omega, by go_grown⟩
        · go_enter Try.func15, Try.ntmps15
          go_wp2
          all_goals go_ret
          all_goals exact ⟨by simp; try omega, by go_grown⟩
      · go_enter Try.func15, Try.ntmps15
        go_wp2
        all_goals go_ret
        all_goals exact ⟨by simp; try omega, by go_grown⟩
    · go_enter Try.func15, Try.ntmps15
      go_wp2
      all_goals go_ret
      all_goals exact ⟨by simp; try omega, by go_grown⟩
  · go_enter Try.func15, Try.ntmps15
    go_wp2
    all_goals go_ret
    all_goals exact ⟨by simp; try omega, by go_grown⟩

theorem copyCR (r d b : Int) (w : World) :
    Calls Try.prog 14 #[.agg #[.int .i64 r, .int .i64 d, .int .i64 b]] w fun e w' => e = .returned (.agg #[.int .i64 r, .int .i64 d, .int .i64 b]) ∧ Below w.heap.size w w' := by
  go_enter Try.func14, Try.ntmps14
  go_wp2
  go_returns
  exact ⟨rfl, by go_grown⟩

end Go.Proofs.Ytdjopnhbcchedaa.Clock
