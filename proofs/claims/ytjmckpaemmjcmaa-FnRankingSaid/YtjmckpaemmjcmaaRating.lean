/-
  The contracts of the small functions on ratings, of the program and of the reference, and the laws on IsRating, WeightFor and LengthFactor. Conditions: each theorem's own.
-/
import Derived.Test.YtjmckpaemmjcmaaRows
import Derived.WalkKit
import Derived.ProofKit
import Derived.OpenShut
import Derived.Outline
import Derived.WalkLawsBesides
import Derived.Handy
import Derived.Lib.Hide
import Derived.Test.YtjmckpaemmjcmaaBase
set_option linter.unusedVariables false
namespace Go.Proofs.Ytjmckpaemmjcmaa.Rating
open Go.ChangeShapes Go.WideShapes Go.ChangeAt Go.RowKit Base

/-- Is it a rating? -/
def okR (v e : Int) : Bool := decide (0 ≤ v ∧ v ≤ 1000000 ∧ 0 ≤ e ∧ e ≤ 100000)

theorem isR_spec (v e : Int) (w : World) :
    Calls Try.prog 9 #[.agg #[.int .i64 v, .int .i64 e]] w fun r w' => r = .returned (.bool (okR v e)) ∧ Below w.heap.size w w' := by
  unfold okR
  by_cases h1 : 0 ≤ v
  · by_cases h2 : v ≤ 1000000
    · by_cases h3 : 0 ≤ e
      · by_cases h4 : e ≤ 100000
        all_goals
          go_enter Try.func9, Try.ntmps9
          go_wp2
          go_ret
          exact ⟨by simp; omega, by go_grown⟩
      · go_enter Try.func9, Try.ntmps9
        go_wp2
        go_ret
        exact ⟨by simp; omega, by go_grown⟩
    · go_enter Try.func9, Try.ntmps9
      go_wp2
      go_ret
      exact ⟨by simp; omega, by go_grown⟩
  · go_enter Try.func9, Try.ntmps9
    go_wp2
    go_ret
    exact ⟨by simp; omega, by go_grown⟩
theorem isR_impl (v e : Int) (w : World) :
    Calls Try.prog 11 #[.agg #[.int .i64 v, .int .i64 e]] w fun r w' => r = .returned (.bool (okR v e)) ∧ Below w.heap.size w w' := by
  unfold okR
  by_cases h1 : 0 ≤ v
  · by_cases h2 : v ≤ 1000000
    · by_cases h3 : 0 ≤ e
      · by_cases h4 : e ≤ 100000
        all_goals
          go_enter Try.func11, Try.ntmps11
          go_wp2
          go_ret
          exact ⟨by simp; omega, by go_grown⟩
      · go_enter Try.func11, Try.ntmps11
        go_wp2
        go_ret
        exact ⟨by simp; omega, by go_grown⟩
    · go_enter Try.func11, Try.ntmps11
      go_wp2
      go_ret
      exact ⟨by simp; omega, by go_grown⟩
  · go_enter Try.func11, Try.ntmps11
    go_wp2
    go_ret
    exact ⟨by simp; omega, by go_grown⟩

theorem toR (v e : Int) (w : World) :
    Calls Try.prog 10 #[.agg #[.int .i64 v, .int .i64 e]] w fun r w' => r = .returned (.agg #[.int .i64 v, .int .i64 e]) ∧ Below w.heap.size w w' := by
  go_enter Try.func10, Try.ntmps10
  go_wp2
  go_returns
  exact ⟨rfl, by go_grown⟩

theorem lawIsRating (v e : Int) (W : World) (w1 : (Lit.int .i64 v).wf = true) (w2 : (Lit.int .i64 e).wf = true) :
    Calls Try.prog 3 #[.agg #[.int .i64 v, .int .i64 e]] W fun r w' => r = .returned (.bool true) ∧ Below W.heap.size W w' := by
  have eb : (okR v e != okR v e) = false := by simp
  go_enter Try.func3, Try.ntmps3
  go_wp2_with fail
  refine (toR v e _).mono ?_
  rintro r w1 ⟨rfl, hb1⟩
  have q1 : Below W.heap.size W w1 := Below.then_ (by go_grown) hb1 (by go_size)
  have ra := (RowB.new _ _ _).below hb1 (by go_size)
  have z1 := ra.lt
  go_wp2_with fail
  refine (isR_spec v e _).mono ?_
  rintro r w2 ⟨rfl, hb2⟩
  have ra := ra.below hb2 z1
  have z2 := ra.lt
  obtain ⟨p0, p1⟩ := ra.c2
  have q2 := q1.trans (hb2.mono q1.size)
  go_wp2_with fail
  refine (toR v e _).mono ?_
  rintro r w3 ⟨rfl, hb3⟩
  have q3 := q2.trans (hb3.mono q2.size)
  go_wp2_with fail
  refine (isR_impl v e _).mono ?_
  rintro r w4 ⟨rfl, hb4⟩
  have q4 := q3.trans (hb4.mono q3.size)
  go_wp2_with fail
  go_ret
  exact ⟨rfl, q4⟩

/-- The weight of an experience. -/
def wt (e : Int) : Int := if 400 < e then 100 else 500 - e
theorem lawWeightFor (e : Int) (W : World) (w1 : (Lit.int .i64 e).wf = true) :
    Calls Try.prog 4 #[.int .i64 e] W fun r w' => r = .returned (.bool true) ∧ Below W.heap.size W w' := by
  by_cases h1 : 0 ≤ e
  · by_cases h2 : e ≤ 100000
    · by_cases h3 : 400 < e
      all_goals
        go_enter Try.func4, Try.ntmps4
        go_wp2
        all_goals go_ret
        all_goals exact ⟨rfl, by go_grown⟩
    · go_enter Try.func4, Try.ntmps4
      go_wp2
      go_ret
      exact ⟨rfl, by go_grown⟩
  · go_enter Try.func4, Try.ntmps4
    go_wp2
    go_ret
    exact ⟨rfl, by go_grown⟩

/-! ### The factor of a length: the whole root -/
def facGo (L : Int) : Nat → Int
  | 0 => 0
  | n + 1 => if ((n : Int) + 1) * ((n : Int) + 1) ≤ 10000 * L then (n : Int) + 1 else facGo L n
def fac (L : Int) : Int := facGo L 500

theorem facGo_eq (L f : Int) (h0 : 0 ≤ f) (h1 : f * f ≤ 10000 * L) (h2 : 10000 * L < (f + 1) * (f + 1)) : ∀ n : Nat, f ≤ n → facGo L n = f := by
  intro n
  induction n with
  | zero => intro h; unfold facGo; omega
  | succ n ih =>
    intro h
    unfold facGo
    by_cases hf : f = (n : Int) + 1
    · rw [if_pos (by rw [← hf]; exact h1), hf]
    · rw [if_neg, ih (by omega)]
      have : (f + 1) * (f + 1) ≤ ((n : Int) + 1) * ((n : Int) + 1) := Int.mul_le_mul (by omega) (by omega) (by omega) (by omega)
      omega
theorem fac_eq (L f : Int) (h0 : 0 ≤ f) (hf : f ≤ 500) (h1 : f * f ≤ 10000 * L) (h2 : 10000 * L < (f + 1) * (f + 1)) : fac L = f := facGo_eq L f h0 h1 h2 500 (by omega)

theorem fac_spec (L : Int) (w : World) (h1 : 1 ≤ L) (h2 : L ≤ 25) :
    Calls Try.prog 37 #[.int .i64 L] w fun r w' => r = .returned (.int .i64 (fac L)) ∧ w = w' := by
  go_enter Try.func37, Try.ntmps37
  go_wp2
  go_loop [3] (fun t => ∃ f : Int, 0 ≤ f ∧ f ≤ 500 ∧ Hid (f * f ≤ 10000 * L) ∧ t = .int .i64 f) (fun t => (501 - intOf t).toNat)
  case atStart => exact ⟨0, by omega, by omega, by unfold Hid; omega, rfl⟩
  case round =>
    obtain ⟨f, hf0, hf1, hsq, rfl⟩ := hrel
    have hb : (f + 1) * (f + 1) ≤ 251001 := by
      have : (f + 1) * (f + 1) ≤ 501 * 501 := Int.mul_le_mul (by omega) (by omega) (by omega) (by omega)
      omega
    have hp : 0 ≤ (f + 1) * (f + 1) := Int.mul_nonneg (by omega) (by omega)
    by_cases hc : (f + 1) * (f + 1) ≤ 10000 * L
    · have hf2 : f + 1 ≤ 500 := by
        rcases Int.lt_or_le 500 (f + 1) with h | h
        · have : 501 * 501 ≤ (f + 1) * (f + 1) := Int.mul_le_mul (by omega) (by omega) (by omega) (by omega)
          omega
        · exact h
      have hcH := Lib.hid hc
      go_wp2
      go_round
      case rel => exact ⟨f + 1, by omega, by omega, hcH, rfl⟩
      case measure => simp [intOf]; omega
    · have hr := Lib.hid (fac_eq L f hf0 hf1 hsq.out (by omega))
      go_wp2
      go_ret
      exact ⟨by rw [hr.out]; rfl, rfl⟩

theorem fac_impl (L : Int) (w : World) (h1 : 1 ≤ L) (h2 : L ≤ 25) :
    Calls Try.prog 39 #[.int .i64 L] w fun r w' => r = .returned (.int .i64 (fac L)) ∧ w = w' := by
  go_enter Try.func39, Try.ntmps39
  go_wp2
  go_loop [3] (fun t => ∃ f : Int, 0 ≤ f ∧ f ≤ 500 ∧ Hid (f * f ≤ 10000 * L) ∧ t = .int .i64 f) (fun t => (501 - intOf t).toNat)
  case atStart => exact ⟨0, by omega, by omega, by unfold Hid; omega, rfl⟩
  case round =>
    obtain ⟨f, hf0, hf1, hsq, rfl⟩ := hrel
    have hb : (f + 1) * (f + 1) ≤ 251001 := by
      have : (f + 1) * (f + 1) ≤ 501 * 501 := Int.mul_le_mul (by omega) (by omega) (by omega) (by omega)
      omega
    have hp : 0 ≤ (f + 1) * (f + 1) := Int.mul_nonneg (by omega) (by omega)
    by_cases hc : (f + 1) * (f + 1) ≤ 10000 * L
    · have hf2 : f + 1 ≤ 500 := by
        rcases Int.lt_or_le 500 (f + 1) with h | h
        · have : 501 * 501 ≤ (f + 1) * (f + 1) := Int.mul_le_mul (by omega) (by omega) (by omega) (by omega)
          omega
        · exact h
      have hcH := Lib.hid hc
      go_wp2
      go_round
      case rel => exact ⟨f + 1, by omega, by omega, hcH, rfl⟩
      case measure => simp [intOf]; omega
    · have hr := Lib.hid (fac_eq L f hf0 hf1 hsq.out (by omega))
      go_wp2
      go_ret
      exact ⟨by rw [hr.out]; rfl, rfl⟩

theorem lawLengthFactor (L : Int) (W : World) (w1 : (Lit.int .i64 L).wf = true) :
    Calls Try.prog 5 #[.int .i64 L] W fun r w' => r = .returned (.bool true) ∧ Below W.heap.size W w' := by
  have eb : (fac L != fac L) = false := by simp
  by_cases h1 : 1 ≤ L
  · by_cases h2 : L ≤ 25
    · go_enter Try.func5, Try.ntmps5
      go_wp2_with (first | (go_at_call 37; refine (fac_spec L _ h1 h2).mono ?_; rintro r w' ⟨rfl, rfl⟩) | (go_at_call 39; refine (fac_impl L _ h1 h2).mono ?_; rintro r w' ⟨rfl, rfl⟩) | go_in)
      go_ret
      exact ⟨rfl, by go_grown⟩
    · go_enter Try.func5, Try.ntmps5
      go_wp2
      go_ret
      exact ⟨rfl, by go_grown⟩
  · go_enter Try.func5, Try.ntmps5
    go_wp2
    go_ret
    exact ⟨rfl, by go_grown⟩
end Go.Proofs.Ytjmckpaemmjcmaa.Rating
