/-
  The matches of a bracket in plain Lean: the entrants of its slots ('pl', 'en'), winners, losers and rounds. Conditions: each theorem's own.
-/
import Derived.Test.YtoicppnkkhajeaaOrder
set_option linter.unusedVariables false
namespace Go.Proofs.Ytoicppnkkhajeaa.Pairs
open Go.ChangeShapes Go.WideShapes Go.ChangeAt Go.RowKit Base Ints Tourn1 Order

/-- The winner of match k, as far as it is known. -/
def wn (R l : List Int) (k : Nat) : Int := if k < R.length then (if R.getD k 0 = 1 then l.getD (2 * k + 1) 0 else l.getD (2 * k) 0) else -1
/-- The entrants of the slots behind k matches. -/
def pl (R s : List Int) : Nat → List Int
  | 0 => s
  | k + 1 => pl R s k ++ [wn R (pl R s k) k]
theorem pl_len (R s : List Int) (k : Nat) : (pl R s k).length = s.length + k := by
  induction k with
  | zero => rfl
  | succ k ih => simp [pl, ih]; omega
theorem pl_get (R s : List Int) {k K i : Nat} (h : k ≤ K) (hi : i < s.length + k) : (pl R s K)[i]? = (pl R s k)[i]? := by
  induction K with
  | zero => obtain rfl : k = 0 := by omega
            rfl
  | succ K ih =>
    by_cases hk : k = K + 1
    · subst hk; rfl
    · rw [pl, List.getElem?_append_left (by rw [pl_len]; omega)]
      exact ih (by omega)
theorem pl_new (R s : List Int) {k K : Nat} (h : k < K) : (pl R s K)[s.length + k]? = some (wn R (pl R s k) k) := by
  rw [pl_get R s (k := k + 1) (by omega) (by omega), pl, List.getElem?_append_right (by rw [pl_len]; exact Nat.le_refl _), pl_len]; simp
theorem pl_sign (R s : List Int) (hs : ∀ x ∈ s, 0 ≤ x ∧ x < (s.length : Int)) : ∀ K, K < s.length → ∀ i x, (pl R s K)[i]? = some x →
    -1 ≤ x ∧ x < (s.length : Int) ∧ (i < s.length + R.length → 0 ≤ x) ∧ (s.length + R.length ≤ i → x = -1) := by
  intro K
  induction K with
  | zero =>
    intro _ i x hx
    have := hs x (List.mem_of_getElem? hx)
    have hl := (List.getElem?_eq_some_iff.1 hx).1
    simp only [pl] at hl
    exact ⟨by omega, this.2, fun _ => this.1, fun h => by omega⟩
  | succ K ih =>
    intro hK i x hx
    have hl := (List.getElem?_eq_some_iff.1 hx).1
    rw [pl_len] at hl
    by_cases hi : i < s.length + K
    · rw [pl, List.getElem?_append_left (by rw [pl_len]; exact hi)] at hx
      exact ih (by omega) i x hx
    · obtain rfl : i = s.length + K := by omega
      rw [pl_new R s (Nat.lt_succ_self K)] at hx
      obtain rfl : wn R (pl R s K) K = x := by simpa using hx
      unfold wn
      by_cases hR : K < R.length
      · rw [if_pos hR]
        have key : ∀ j, j < s.length + K → j < s.length + R.length → -1 ≤ (pl R s K).getD j 0 ∧ (pl R s K).getD j 0 < (s.length : Int) ∧ 0 ≤ (pl R s K).getD j 0 := by
          intro j h1 h2
          obtain ⟨y, hy⟩ : ∃ y, (pl R s K)[j]? = some y := ⟨_, List.getElem?_eq_getElem (by rw [pl_len]; exact h1)⟩
          rw [List.getD_eq_getElem?_getD, hy]
          have := ih (by omega) j y hy
          exact ⟨this.1, this.2.1, this.2.2.1 h2⟩
        have k1 := key (2 * K + 1) (by omega) (by omega)
        have k2 := key (2 * K) (by omega) (by omega)
        split
        · exact ⟨k1.1, k1.2.1, fun _ => k1.2.2, fun h => by omega⟩
        · exact ⟨k2.1, k2.2.1, fun _ => k2.2.2, fun h => by omega⟩
      · rw [if_neg hR]
        exact ⟨by omega, by omega, fun h => by omega, fun _ => rfl⟩

/-! ### All slots as a function -/
/-- The entrant of slot i. -/
def en (size : Int) (R : List Int) (i : Nat) : Int := (pl R (seeds size) (size.toNat - 1)).getD i 0
/-- The winner and the loser of match k. -/
def wi (size : Int) (R : List Int) (k : Nat) : Int := if k < R.length then (if R.getD k 0 = 1 then en size R (2 * k + 1) else en size R (2 * k)) else -1
def lo (size : Int) (R : List Int) (k : Nat) : Int := if k < R.length then (if R.getD k 0 = 1 then en size R (2 * k) else en size R (2 * k + 1)) else -1
theorem seeds_facts {size : Int} (h : okSz size = true) : 2 ≤ size ∧ size ≤ 32 ∧ ((seeds size).length : Int) = size ∧ ∀ x ∈ seeds size, 0 ≤ x ∧ x < size := by
  obtain ⟨h1, h2⟩ := last_facts size h
  have h3 := ord_facts _ h1
  rw [h2] at h3
  exact ⟨h3.2.1, h3.2.2.1, h3.1.symm, h3.2.2.2⟩
section
variable {size : Int} (R : List Int) (h : okSz size = true)
include h
theorem seeds_len : (seeds size).length = size.toNat := by have := seeds_facts h; omega
theorem pl_en {k i : Nat} (hk : k + 1 ≤ size.toNat) (hi : i < size.toNat + k) : (pl R (seeds size) k)[i]? = some (en size R i) := by
  have hl := seeds_len h
  unfold en
  rw [List.getD_eq_getElem?_getD, pl_get R (seeds size) (k := k) (K := size.toNat - 1) (by omega) (by omega), List.getElem?_eq_getElem (by rw [pl_len]; omega)]
  rfl
theorem seeds_en {i : Nat} (hi : i < size.toNat) : (seeds size)[i]? = some (en size R i) := pl_en (k := 0) R h (by have := seeds_facts h; omega) (by omega)
theorem wn_wi {k : Nat} (hk : k + 1 < size.toNat) : wn R (pl R (seeds size) k) k = wi size R k := by
  unfold wn wi
  rw [List.getD_eq_getElem?_getD (l := pl R (seeds size) k), List.getD_eq_getElem?_getD (l := pl R (seeds size) k), pl_en R h (by omega) (by omega), pl_en R h (by omega) (by omega)]
  rfl
/-- The slot behind match k has its winner. -/
theorem en_wi {k : Nat} (hk : k + 1 < size.toNat) : en size R (size.toNat + k) = wi size R k := by
  have hl := seeds_len h
  have h1 := pl_en (k := k + 1) (i := size.toNat + k) R h (by omega) (by omega)
  rw [← hl, pl_new R (seeds size) (Nat.lt_succ_self k), hl, wn_wi R h hk] at h1
  simpa using h1.symm
theorem en_sign {i : Nat} (hi : i < 2 * size.toNat - 1) : -1 ≤ en size R i ∧ en size R i < size ∧ (i < size.toNat + R.length → 0 ≤ en size R i) ∧ (size.toNat + R.length ≤ i → en size R i = -1) := by
  have hl := seeds_len h
  obtain ⟨h2, _, h3, h4⟩ := seeds_facts h
  have h1 := pl_en (k := size.toNat - 1) (i := i) R h (by omega) (by omega)
  have := pl_sign R (seeds size) (by rw [h3]; exact h4) (size.toNat - 1) (by omega) i _ h1
  rw [h3, hl] at this
  exact this
theorem wi_sign {k : Nat} (hk : k + 1 < size.toNat) : -1 ≤ wi size R k ∧ wi size R k < size ∧ (k < R.length → 0 ≤ wi size R k) ∧ (R.length ≤ k → wi size R k = -1) := by
  have := en_sign R h (i := size.toNat + k) (by omega)
  rw [en_wi R h hk] at this
  exact ⟨this.1, this.2.1, fun hh => this.2.2.1 (by omega), fun hh => this.2.2.2 (by omega)⟩
theorem lo_sign {k : Nat} (hk : k + 1 < size.toNat) : -1 ≤ lo size R k ∧ lo size R k < size ∧ (k < R.length → 0 ≤ lo size R k) ∧ (R.length ≤ k → lo size R k = -1) := by
  unfold lo
  have h1 := en_sign R h (i := 2 * k) (by omega)
  have h2 := en_sign R h (i := 2 * k + 1) (by omega)
  have := (seeds_facts h).1
  split
  · split
    · exact ⟨h1.1, h1.2.1, fun _ => h1.2.2.1 (by omega), fun _ => by omega⟩
    · exact ⟨h2.1, h2.2.1, fun _ => h2.2.2.1 (by omega), fun _ => by omega⟩
  · exact ⟨by omega, by omega, fun _ => by omega, fun _ => rfl⟩
end

/-! ### A stretch of a function -/
def seg {α : Type} (f : Nat → α) (a n : Nat) : List α := (List.range n).map fun i => f (a + i)
theorem seg_len {α : Type} (f : Nat → α) (a n : Nat) : (seg f a n).length = n := by simp [seg]
theorem seg_at {α : Type} (f : Nat → α) (a n i : Nat) (h : i < n) : (seg f a n)[i]? = some (f (a + i)) := by simp [seg, h]
theorem seg_succ {α : Type} (f : Nat → α) (a n : Nat) : seg f a (n + 1) = seg f a n ++ [f (a + n)] := by simp [seg, List.range_succ]
theorem seg_eq {α : Type} (f : Nat → α) (l : List α) (n : Nat) (hl : l.length = n) (h : ∀ i, i < n → l[i]? = some (f i)) : l = seg f 0 n := by
  apply List.ext_getElem?
  intro i
  by_cases hi : i < n
  · rw [h i hi, seg_at _ _ _ _ hi, Nat.zero_add]
  · rw [List.getElem?_eq_none (by omega), List.getElem?_eq_none (by rw [seg_len]; omega)]
theorem seeds_seg {size : Int} (R : List Int) (h : okSz size = true) : seeds size = seg (en size R) 0 size.toNat := seg_eq _ _ _ (seeds_len h) fun i hi => seeds_en R h hi
theorem pl_seg {size : Int} (R : List Int) (h : okSz size = true) {k : Nat} (hk : k + 1 ≤ size.toNat) : pl R (seeds size) k = seg (en size R) 0 (size.toNat + k) :=
  seg_eq _ _ _ (by rw [pl_len, seeds_len h]) fun i hi => pl_en R h hk hi

/-- The marks of those that hold. -/
def pick (p : Nat → Bool) (n : Nat) : List Int := ((List.range n).filter p).map fun i => ((i : Nat) : Int)
theorem pick_yes (p : Nat → Bool) (n : Nat) (h : p n = true) : pick p (n + 1) = pick p n ++ [(n : Int)] := by simp [pick, List.range_succ, h]
theorem pick_no (p : Nat → Bool) (n : Nat) (h : p n = false) : pick p (n + 1) = pick p n := by simp [pick, List.range_succ, h]
theorem pick_none (p : Nat → Bool) (n : Nat) (h : ∀ i, i < n → p i = false) : pick p n = [] := by
  induction n with
  | zero => rfl
  | succ n ih => rw [pick_no p n (h n (by omega)), ih fun i hi => h i (by omega)]
theorem pick_len (p : Nat → Bool) (n : Nat) : (pick p n).length ≤ n := by
  unfold pick
  rw [List.length_map]
  have := List.length_filter_le p (List.range n)
  simpa using this

/-! ### The rounds -/
def rdf : Nat → Nat → Nat → Nat
  | 0, n, _ => n
  | f + 1, n, k => if k < n then n else rdf f (n / 2) (k - n)
/-- The number of matches of the round of match k. -/
def rd (n k : Nat) : Nat := rdf 6 (n / 2) k
/-- The size of a tournament behind r rounds. -/
def szr (size : Int) (r : Nat) : Nat := size.toNat / 2 ^ r
theorem rd_fin : ∀ a : Fin 6, ∀ r : Fin 6, ∀ k : Fin 32, 1 ≤ a.val → r.val < a.val → 2 ^ a.val - 2 ^ a.val / 2 ^ r.val ≤ k.val → k.val < 2 ^ a.val - 2 ^ a.val / 2 ^ r.val / 2 → rd (2 ^ a.val) k.val = 2 ^ a.val / 2 ^ r.val / 2 := by decide +kernel
/-- A size is a power of two. -/
theorem okSz_pow {size : Int} (h : okSz size = true) : ∃ a, 1 ≤ a ∧ a ≤ 5 ∧ size.toNat = 2 ^ a ∧ size = ((2 ^ a : Nat) : Int) := by
  have h := of_decide_eq_true h
  rcases h with rfl | rfl | rfl | rfl | rfl
  · exact ⟨1, by decide, by decide, rfl, rfl⟩
  · exact ⟨2, by decide, by decide, rfl, rfl⟩
  · exact ⟨3, by decide, by decide, rfl, rfl⟩
  · exact ⟨4, by decide, by decide, rfl, rfl⟩
  · exact ⟨5, by decide, by decide, rfl, rfl⟩

end Go.Proofs.Ytoicppnkkhajeaa.Pairs
