/-
  The contracts of the small functions on ratings, of the program and of the reference, and the laws on IsRating, WeightFor and LengthFactor. Conditions: each theorem's own.
-/
import Derived.Test.YtjmckpaemmjcmaaDoorRows
import Derived.WalkKit
import Derived.ProofKit
import Derived.OpenShut
import Derived.Outline
import Derived.WalkLawsBesides
import Derived.Handy
import Derived.Lib.Hide
import Derived.Test.YtjmckpaemmjcmaaDoorBase
set_option linter.unusedVariables false
namespace Go.Proofs.YtjmckpaemmjcmaaDoor.Rating
open Go.ChangeShapes Go.WideShapes Go.ChangeAt Go.RowKit Base

/-- Is it a rating? -/
def okR (v e : Int) : Bool := decide (0 ≤ v ∧ v ≤ 1000000 ∧ 0 ≤ e ∧ e ≤ 100000)

theorem isR_spec (v e : Int) (w : World) :
    Calls Tryd.prog 48 #[.agg #[.int .i64 v, .int .i64 e]] w fun r w' => r = .returned (.bool (okR v e)) ∧ Below w.heap.size w w' := by
  unfold okR
  by_cases h1 : 0 ≤ v
  · by_cases h2 : v ≤ 1000000
    · by_cases h3 : 0 ≤ e
      · by_cases h4 : e ≤ 100000
        all_goals
          go_enter Tryd.func48, Tryd.ntmps48
          go_wp2
          go_ret
          exact ⟨by simp; omega, by go_grown⟩
      · go_enter Tryd.func48, Tryd.ntmps48
        go_wp2
        go_ret
        exact ⟨by simp; omega, by go_grown⟩
    · go_enter Tryd.func48, Tryd.ntmps48
      go_wp2
      go_ret
      exact ⟨by simp; omega, by go_grown⟩
  · go_enter Tryd.func48, Tryd.ntmps48
    go_wp2
    go_ret
    exact ⟨by simp; omega, by go_grown⟩
theorem isR_impl (v e : Int) (w : World) :
    Calls Tryd.prog 26 #[.agg #[.int .i64 v, .int .i64 e]] w fun r w' => r = .returned (.bool (okR v e)) ∧ Below w.heap.size w w' := by
  unfold okR
  by_cases h1 : 0 ≤ v
  · by_cases h2 : v ≤ 1000000
    · by_cases h3 : 0 ≤ e
      · by_cases h4 : e ≤ 100000
        all_goals
          go_enter Tryd.func26, Tryd.ntmps26
          go_wp2
          go_ret
          exact ⟨by simp; omega, by go_grown⟩
      · go_enter Tryd.func26, Tryd.ntmps26
        go_wp2
        go_ret
        exact ⟨by simp; omega, by go_grown⟩
    · go_enter Tryd.func26, Tryd.ntmps26
      go_wp2
      go_ret
      exact ⟨by simp; omega, by go_grown⟩
  · go_enter Tryd.func26, Tryd.ntmps26
    go_wp2
    go_ret
    exact ⟨by simp; omega, by go_grown⟩

theorem toR (v e : Int) (w : World) :
    Calls Tryd.prog 18 #[.agg #[.int .i64 v, .int .i64 e]] w fun r w' => r = .returned (.agg #[.int .i64 v, .int .i64 e]) ∧ Below w.heap.size w w' := by
  go_enter Tryd.func18, Tryd.ntmps18
  go_wp2
  go_returns
  exact ⟨rfl, by go_grown⟩


/-- The weight of an experience. -/
def wt (e : Int) : Int := if 400 < e then 100 else 500 - e

/-! ### The factor of a length: the whole root -/
def facGo (L : Int) : Nat → Int
  | 0 => 0
  | n + 1 => if ((n : Int) + 1) * ((n : Int) + 1) ≤ 10000 * L then (n : Int) + 1 else facGo L n
def fac (L : Int) : Int := facGo L 500

theorem facGo_eq (L f : Int) (h0 : 0 ≤ f) (h1 : f * f ≤ 10000 * L) (h2 : 10000 * L < (f + 1) * (f + 1)) : ∀ n : Nat, f ≤ n → facGo L n = f := by
  intro n
  induction n with
  | zero => intro h; unfold facGo; omega
  | succ n ih =>
    intro h
    unfold facGo
    by_cases hf : f = (n : Int) + 1
    · rw [if_pos (by rw [← hf]; exact h1), hf]
    · rw [if_neg, ih (by omega)]
      have : (f + 1) * (f + 1) ≤ ((n : Int) + 1) * ((n : Int) + 1) := Int.mul_le_mul (by omega) (by omega) (by omega) (by omega)
      omega
theorem fac_eq (L f : Int) (h0 : 0 ≤ f) (hf : f ≤ 500) (h1 : f * f ≤ 10000 * L) (h2 : 10000 * L < (f + 1) * (f + 1)) : fac L = f := facGo_eq L f h0 h1 h2 500 (by omega)

theorem fac_spec (L : Int) (w : World) (h1 : 1 ≤ L) (h2 : L ≤ 25) :
    Calls Tryd.prog 56 #[.int .i64 L] w fun r w' => r = .returned (.int .i64 (fac L)) ∧ w = w' := by
  go_enter Tryd.func56, Tryd.ntmps56
  go_wp2
  go_loop [3] (fun t => ∃ f : Int, 0 ≤ f ∧ f ≤ 500 ∧ Hid (f * f ≤ 10000 * L) ∧ t = .int .i64 f) (fun t => (501 - intOf t).toNat)
  case atStart => exact ⟨0, by omega, by omega, by unfold Hid; omega, rfl⟩
  case round =>
    obtain ⟨f, hf0, hf1, hsq, rfl⟩ := hrel
    have hb : (f + 1) * (f + 1) ≤ 251001 := by
      have : (f + 1) * (f + 1) ≤ 501 * 501 := Int.mul_le_mul (by omega) (by omega) (by omega) (by omega)
      omega
    have hp : 0 ≤ (f + 1) * (f + 1) := Int.mul_nonneg (by omega) (by omega)
    by_cases hc : (f + 1) * (f + 1) ≤ 10000 * L
    · have hf2 : f + 1 ≤ 500 := by
        rcases Int.lt_or_le 500 (f + 1) with h | h
        · have : 501 * 501 ≤ (f + 1) * (f + 1) := Int.mul_le_mul (by omega) (by omega) (by omega) (by omega)
          omega
        · exact h
      have hcH := Lib.hid hc
      go_wp2
      go_round
      case rel => exact ⟨f + 1, by omega, by omega, hcH, rfl⟩
      case measure => simp [intOf]; omega
    · have hr := Lib.hid (fac_eq L f hf0 hf1 hsq.out (by omega))
      go_wp2
      go_ret
      exact ⟨by rw [hr.out]; rfl, rfl⟩

theorem fac_impl (L : Int) (w : World) (h1 : 1 ≤ L) (h2 : L ≤ 25) :
    Calls Tryd.prog 47 #[.int .i64 L] w fun r w' => r = .returned (.int .i64 (fac L)) ∧ w = w' := by
  go_enter Tryd.func47, Tryd.ntmps47
  go_wp2
  go_loop [3] (fun t => ∃ f : Int, 0 ≤ f ∧ f ≤ 500 ∧ Hid (f * f ≤ 10000 * L) ∧ t = .int .i64 f) (fun t => (501 - intOf t).toNat)
  case atStart => exact ⟨0, by omega, by omega, by unfold Hid; omega, rfl⟩
  case round =>
    obtain ⟨f, hf0, hf1, hsq, rfl⟩ := hrel
    have hb : (f + 1) * (f + 1) ≤ 251001 := by
      have : (f + 1) * (f + 1) ≤ 501 * 501 := Int.mul_le_mul (by omega) (by omega) (by omega) (by omega)
      omega
    have hp : 0 ≤ (f + 1) * (f + 1) := Int.mul_nonneg (by omega) (by omega)
    by_cases hc : (f + 1) * (f + 1) ≤ 10000 * L
    · have hf2 : f + 1 ≤ 500 := by
        rcases Int.lt_or_le 500 (f + 1) with h | h
        · have : 501 * 501 ≤ (f + 1) * (f + 1) := Int.mul_le_mul (by omega) (by omega) (by omega) (by omega)
          omega
        · exact h
      have hcH := Lib.hid hc
      go_wp2
      go_round
      case rel => exact ⟨f + 1, by omega, by omega, hcH, rfl⟩
      case measure => simp [intOf]; omega
    · have hr := Lib.hid (fac_eq L f hf0 hf1 hsq.out (by omega))
      go_wp2
      go_ret
      exact ⟨by rw [hr.out]; rfl, rfl⟩

end Go.Proofs.YtjmckpaemmjcmaaDoor.Rating
