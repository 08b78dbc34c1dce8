/-
  In plain Lean: the two entrants of a match are not the same. Conditions: each theorem's own.
-/
import Derived.Test.YtoicppnkkhajeaaPairs
set_option linter.unusedVariables false
namespace Go.Proofs.Ytoicppnkkhajeaa.Pairs2
open Go.ChangeShapes Go.WideShapes Go.ChangeAt Go.RowKit Base Ints Tourn1 Order Pairs

/-- Who may stand in each slot. -/
def lvl (s : List Int) : Nat → List (List Int)
  | 0 => s.map fun x => [x]
  | k + 1 => lvl s k ++ [(lvl s k).getD (2 * k) [] ++ (lvl s k).getD (2 * k + 1) []]
theorem lvl_len (s : List Int) (k : Nat) : (lvl s k).length = s.length + k := by
  induction k with
  | zero => simp [lvl]
  | succ k ih => simp [lvl, ih]; omega
theorem lvl_get (s : List Int) {k K i : Nat} (h : k ≤ K) (hi : i < s.length + k) : (lvl s K).getD i [] = (lvl s k).getD i [] := by
  induction K with
  | zero => obtain rfl : k = 0 := by omega
            rfl
  | succ K ih =>
    by_cases hk : k = K + 1
    · subst hk; rfl
    · rw [lvl, List.getD_eq_getElem?_getD, List.getElem?_append_left (by rw [lvl_len]; omega), ← List.getD_eq_getElem?_getD]
      exact ih (by omega)
theorem lvl_new (s : List Int) {k K : Nat} (h : k < K) : (lvl s K).getD (s.length + k) [] = (lvl s k).getD (2 * k) [] ++ (lvl s k).getD (2 * k + 1) [] := by
  rw [lvl_get s (k := k + 1) (by omega) (by omega), lvl, List.getD_eq_getElem?_getD, List.getElem?_append_right (by rw [lvl_len]; exact Nat.le_refl _), lvl_len]; simp
theorem en_lvl {size : Int} (R : List Int) (h : okSz size = true) : ∀ i, i < 2 * size.toNat - 1 → en size R i = -1 ∨ en size R i ∈ (lvl (seeds size) (size.toNat - 1)).getD i [] := by
  have hl := seeds_len h
  have h2 := (seeds_facts h).1
  intro i
  induction i using Nat.strongRecOn with
  | ind i ih =>
    intro hi
    by_cases hs : i < size.toNat
    · right
      rw [lvl_get _ (Nat.zero_le _) (by omega)]
      have := seeds_en R h hs
      simp [lvl, this]
    · obtain ⟨k, rfl⟩ : ∃ k, i = size.toNat + k := ⟨i - size.toNat, by omega⟩
      rw [en_wi R h (by omega), ← hl, lvl_new _ (by omega), ← lvl_get (seeds size) (k := k) (K := size.toNat - 1) (by omega) (by omega), ← lvl_get (seeds size) (k := k) (K := size.toNat - 1) (by omega) (by omega)]
      have i1 := ih (2 * k) (by omega) (by omega)
      have i2 := ih (2 * k + 1) (by omega) (by omega)
      unfold wi
      rw [List.mem_append]
      split
      · split
        · rcases i2 with i2 | i2
          · exact .inl i2
          · exact .inr (.inr i2)
        · rcases i1 with i1 | i1
          · exact .inl i1
          · exact .inr (.inl i1)
      · exact .inl rfl
def disj (size : Int) : Bool := (List.range (size.toNat - 1)).all fun k => ((lvl (seeds size) (size.toNat - 1)).getD (2 * k) []).all fun x => !((lvl (seeds size) (size.toNat - 1)).getD (2 * k + 1) []).contains x
theorem disj_all : disj 2 = true ∧ disj 4 = true ∧ disj 8 = true ∧ disj 16 = true ∧ disj 32 = true := by decide +kernel
theorem disj_ok {size : Int} (h : okSz size = true) : disj size = true := by
  have h := of_decide_eq_true h
  obtain ⟨d1, d2, d3, d4, d5⟩ := disj_all
  rcases h with rfl | rfl | rfl | rfl | rfl <;> assumption
/-- The entrants of a match are two. -/
theorem en_ne {size : Int} (R : List Int) (h : okSz size = true) {k : Nat} (hk : k + 1 < size.toNat) (h0 : 0 ≤ en size R (2 * k)) : en size R (2 * k) ≠ en size R (2 * k + 1) := by
  intro he
  have hd := disj_ok h
  unfold disj at hd
  rw [List.all_eq_true] at hd
  have hd := hd k (List.mem_range.2 (by omega))
  rw [List.all_eq_true] at hd
  have e1 := en_lvl R h (2 * k) (by omega)
  have e2 := en_lvl R h (2 * k + 1) (by omega)
  rcases e1 with e1 | e1
  · omega
  rcases e2 with e2 | e2
  · omega
  have := hd _ e1
  rw [he] at this
  simp at this
  exact this e2
end Go.Proofs.Ytoicppnkkhajeaa.Pairs2
