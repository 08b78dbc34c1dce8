/-
  The plain law of a ranking: indices inserted one after the other, each as far to the left as it goes before its neighbour. No program in sight.
-/
import Derived.Test.YtjmckpaemmjcmaaBase
set_option linter.unusedVariables false
namespace Go.Proofs.Ytjmckpaemmjcmaa.RankPlain

/-- The value and the experience of entry i. -/
def va (xs : List (Int × Int)) (i : Nat) : Int := (xs.getD i (0, 0)).1
def ex (xs : List (Int × Int)) (i : Nat) : Int := (xs.getD i (0, 0)).2
/-- Entry i ranks before entry j. -/
def bef (xs : List (Int × Int)) (i j : Nat) : Bool := decide (va xs j < va xs i) || (decide (va xs j = va xs i) && decide (ex xs j < ex xs i))
/-- Where x goes in l, among the first k places. -/
def pos (xs : List (Int × Int)) (x : Nat) (l : List Nat) : Nat → Nat
  | 0 => 0
  | k + 1 => if bef xs x (l.getD k 0) then pos xs x l k else k + 1
def insr (xs : List (Int × Int)) (x : Nat) (l : List Nat) : List Nat := l.take (pos xs x l l.length) ++ x :: l.drop (pos xs x l l.length)
def rank (xs : List (Int × Int)) : Nat → List Nat
  | 0 => []
  | n + 1 => insr xs n (rank xs n)
theorem bef_iff (xs : List (Int × Int)) (i j : Nat) : bef xs i j = true ↔ va xs j < va xs i ∨ va xs j = va xs i ∧ ex xs j < ex xs i := by
  unfold bef; simp
theorem pos_le (xs : List (Int × Int)) (x : Nat) (l : List Nat) : ∀ k, pos xs x l k ≤ k := by
  intro k
  induction k with
  | zero => exact Nat.le_refl _
  | succ k ih => unfold pos; split <;> omega
theorem pos_after (xs : List (Int × Int)) (x : Nat) (l : List Nat) : ∀ k j, pos xs x l k ≤ j → j < k → bef xs x (l.getD j 0) = true := by
  intro k
  induction k with
  | zero => intro j _ h; omega
  | succ k ih =>
    intro j h1 h2
    unfold pos at h1
    split at h1
    · rename_i hb
      by_cases hj : j = k
      · rw [hj]; exact hb
      · exact ih j h1 (by omega)
    · omega
theorem pos_at (xs : List (Int × Int)) (x : Nat) (l : List Nat) : ∀ k, 0 < pos xs x l k → bef xs x (l.getD (pos xs x l k - 1) 0) = false := by
  intro k
  induction k with
  | zero => intro h; exact absurd h (by simp [pos])
  | succ k ih =>
    intro h
    unfold pos at h ⊢
    split
    · rename_i hb
      rw [if_pos hb] at h
      exact ih h
    · rename_i hb
      simpa using hb
theorem insr_len (xs : List (Int × Int)) (x : Nat) (l : List Nat) : (insr xs x l).length = l.length + 1 := by
  have := pos_le xs x l l.length
  unfold insr
  simp
  omega
theorem rank_len (xs : List (Int × Int)) : ∀ n, (rank xs n).length = n := by
  intro n
  induction n with
  | zero => rfl
  | succ n ih => show (insr xs n (rank xs n)).length = _; rw [insr_len, ih]
theorem insr_mem (xs : List (Int × Int)) (x y : Nat) (l : List Nat) : y ∈ insr xs x l ↔ y = x ∨ y ∈ l := by
  unfold insr
  rw [List.mem_append, List.mem_cons]
  constructor
  · rintro (h | h | h)
    · exact .inr (List.mem_of_mem_take h)
    · exact .inl h
    · exact .inr (List.mem_of_mem_drop h)
  · rintro (h | h)
    · exact .inr (.inl h)
    · rw [← List.take_append_drop (pos xs x l l.length) l, List.mem_append] at h
      rcases h with h | h
      · exact .inl h
      · exact .inr (.inr h)
theorem rank_lt (xs : List (Int × Int)) : ∀ n, ∀ y ∈ rank xs n, y < n := by
  intro n
  induction n with
  | zero => intro y h; exact absurd h (by simp [rank])
  | succ n ih =>
    intro y h
    rcases (insr_mem xs n y (rank xs n)).1 h with h | h
    · omega
    · have := ih y h; omega
/-- a may stand ahead of b. -/
def R (xs : List (Int × Int)) (a b : Nat) : Prop := a ≠ b ∧ (va xs b < va xs a ∨ va xs b = va xs a ∧ (ex xs b < ex xs a ∨ ex xs b = ex xs a ∧ a < b))
theorem rank_pw (xs : List (Int × Int)) : ∀ n, (rank xs n).Pairwise (R xs) := by
  intro n
  induction n with
  | zero => exact List.Pairwise.nil
  | succ n ih =>
    have hlt := rank_lt xs n
    show (insr xs n (rank xs n)).Pairwise (R xs)
    unfold insr
    have h1 := pos_after xs n (rank xs n) (rank xs n).length
    have h2 := pos_at xs n (rank xs n) (rank xs n).length
    have h3 := pos_le xs n (rank xs n) (rank xs n).length
    generalize pos xs n (rank xs n) (rank xs n).length = p at *
    generalize hl : rank xs n = l at *
    have hsp : l = l.take p ++ l.drop p := (List.take_append_drop p l).symm
    have ih' := ih
    rw [hsp, List.pairwise_append] at ih'
    obtain ⟨i1, i2, i3⟩ := ih'
    have haft : ∀ y ∈ l.drop p, R xs n y := by
      intro y hy
      obtain ⟨j, hj⟩ := List.mem_iff_getElem?.1 hy
      rw [List.getElem?_drop] at hj
      have hlen := (List.getElem?_eq_some_iff.1 hj).1
      have := h1 (p + j) (by omega) hlen
      rw [List.getD_eq_getElem?_getD, hj] at this
      have hb := (bef_iff xs n y).1 this
      have hyn := hlt y (List.mem_of_mem_drop hy)
      unfold R
      omega
    have hbf : ∀ y ∈ l.take p, R xs y n := by
      intro y hy
      have hyn := hlt y (List.mem_of_mem_take hy)
      have hp : 0 < p := by
        rcases Nat.eq_zero_or_pos p with h | h
        · subst h; simp at hy
        · exact h
      have hz := h2 hp
      have hlen : p - 1 < l.length := by omega
      rw [List.getD_eq_getElem?_getD, List.getElem?_eq_getElem hlen] at hz
      simp only [Option.getD_some] at hz
      have hz' : ¬ (va xs l[p - 1] < va xs n ∨ va xs l[p - 1] = va xs n ∧ ex xs l[p - 1] < ex xs n) := by rw [← bef_iff, hz]; decide
      obtain ⟨j, hj⟩ := List.mem_iff_getElem?.1 hy
      have hjl := (List.getElem?_eq_some_iff.1 hj).1
      rw [List.length_take] at hjl
      rw [List.getElem?_take, if_pos (by omega)] at hj
      by_cases hjp : j = p - 1
      · subst hjp
        rw [List.getElem?_eq_getElem hlen] at hj
        obtain rfl : l[p - 1] = y := by simpa using hj
        unfold R
        omega
      · have hy' : l[j]'(by omega) = y := by
          rw [List.getElem?_eq_getElem (by omega)] at hj
          simpa using hj
        have hR := (List.pairwise_iff_getElem.1 ih) j (p - 1) (by omega) hlen (by omega)
        rw [hy'] at hR
        unfold R at hR ⊢
        omega
    rw [List.pairwise_append]
    refine ⟨i1, List.pairwise_cons.2 ⟨haft, i2⟩, fun a ha b hb => ?_⟩
    rcases List.mem_cons.1 hb with rfl | hb
    · exact hbf a ha
    · exact i3 a ha b hb
end Go.Proofs.Ytjmckpaemmjcmaa.RankPlain
