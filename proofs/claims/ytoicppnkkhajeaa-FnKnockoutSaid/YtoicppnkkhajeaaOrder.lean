/-
  The order of seeds, of the program and of the reference. Conditions: each theorem's own.
-/
import Derived.Test.YtoicppnkkhajeaaTourn1
import Derived.Deep.AppendLies
set_option linter.unusedVariables false
namespace Go.Proofs.Ytoicppnkkhajeaa.Order
open Go.ChangeShapes Go.WideShapes Go.ChangeAt Go.RowKit Base Ints Tourn1

/-- One round more. -/
def nxt (n : Int) (l : List Int) : List Int := l.flatMap fun s => [s, 2 * n - 1 - s]
def ordn : Nat → Int × List Int
  | 0 => (2, [0, 1])
  | k + 1 => (2 * (ordn k).1, nxt (ordn k).1 (ordn k).2)
def last (size : Int) : Nat := if size = 2 then 0 else if size = 4 then 1 else if size = 8 then 2 else if size = 16 then 3 else 4
/-- The order of seeds at a size. -/
def seeds (size : Int) : List Int := (ordn (last size)).2

theorem nxt_len (n : Int) (l : List Int) : (nxt n l).length = 2 * l.length := by
  unfold nxt
  induction l with
  | nil => rfl
  | cons a l ih => simp only [List.flatMap_cons, List.length_append, List.length_cons, List.length_nil] at ih ⊢; omega
theorem nxt_succ (n : Int) (l : List Int) (k : Nat) (x : Int) (h : l[k]? = some x) : nxt n (l.take (k + 1)) = nxt n (l.take k) ++ [x, 2 * n - 1 - x] := by
  rw [take_succ l k x h]; simp [nxt]
theorem ord_facts : ∀ k, k ≤ 4 → (ordn k).1 = ((ordn k).2.length : Int) ∧ 2 ≤ (ordn k).1 ∧ (ordn k).1 ≤ 32 ∧ ∀ x ∈ (ordn k).2, 0 ≤ x ∧ x < (ordn k).1 := by
  intro k hk
  have key : ∀ k : Fin 5, (ordn k.val).1 = ((ordn k.val).2.length : Int) ∧ 2 ≤ (ordn k.val).1 ∧ (ordn k.val).1 ≤ 32 ∧ ∀ x ∈ (ordn k.val).2, 0 ≤ x ∧ x < (ordn k.val).1 := by decide +kernel
  exact key ⟨k, by omega⟩
theorem last_facts (size : Int) (h : okSz size = true) : last size ≤ 4 ∧ (ordn (last size)).1 = size := by
  have h := of_decide_eq_true h
  rcases h with rfl | rfl | rfl | rfl | rfl <;> decide
theorem ord_lt : ∀ k K, k < K → K ≤ 4 → (ordn k).1 < (ordn K).1 := by
  have key : ∀ k K : Fin 5, k.val < K.val → (ordn k.val).1 < (ordn K.val).1 := by decide +kernel
  intro k K h1 h2
  exact key ⟨k, by omega⟩ ⟨K, by omega⟩ h1

end Go.Proofs.Ytoicppnkkhajeaa.Order
