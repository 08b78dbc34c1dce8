/-
  The summaries of both players, plainly: turns, losses and grades add up. Conditions: each theorem's own.
-/
import Derived.Test.YtahpdboehpicoaaDoorSummPlain
set_option linter.unusedVariables false
namespace Go.Proofs.YtahpdboehpicoaaDoor.SumTwo
open Go.RowKit Base Base2 Ints Own Summ

/-- The losses of the first k verdicts. -/
def lsum (xs : List V4) : Nat → Int
  | 0 => 0
  | k + 1 => lsum xs k + (xs.getD k (0, 0, 0, 0)).2.2.1
theorem sum_set : ∀ (l : List Int) (i : Nat), i < l.length → (l.set i (l.getD i 0 + 1)).sum = l.sum + 1 := by
  intro l
  induction l with
  | nil => intro i h; simp at h
  | cons x l ih =>
    intro i h
    cases i with
    | zero => simp; omega
    | succ i =>
      have := ih i (by simpa using h)
      simp only [List.set_cons_succ, List.sum_cons, List.getD_cons_succ]
      omega
theorem lsum_bd {xs : List V4} (h : xs.all okV = true) : ∀ k, k ≤ xs.length → 0 ≤ lsum xs k ∧ lsum xs k ≤ 1000000 * (k : Int) := by
  intro k
  induction k with
  | zero => intro _; simp [lsum]
  | succ k ih =>
    intro hk
    have h1 := ih (by omega)
    have ho := okV_at h (k := k) (by omega)
    unfold okV at ho
    have ho := of_decide_eq_true ho
    simp only [lsum]
    omega
/-- The state of one player: grades add up to the turns; no more loss than the turns allow. -/
theorem one_ {xs : List V4} {pl : Int} (h : xs.all okV = true) : ∀ k, k ≤ xs.length → (smS xs pl k).2.2.2.2.sum = (smS xs pl k).1 ∧ 0 ≤ (smS xs pl k).2.1 ∧ (smS xs pl k).2.1 ≤ 1000000 * (smS xs pl k).1 := by
  intro k
  induction k with
  | zero => intro _; simp [smS]
  | succ k ih =>
    intro hk
    obtain ⟨h1, h2, h3⟩ := ih (by omega)
    have ho := okV_at h (k := k) (by omega)
    unfold okV at ho
    have ho := of_decide_eq_true ho
    have hl := (smS_bd (pl := pl) h k (by omega)).2.2.2.2.1
    simp only [smS, stp]
    generalize xs.getD k (0, 0, 0, 0) = x at *
    have hg := grd_bd ho.1.1
    split
    · refine ⟨?_, by simp only; omega, by simp only; omega⟩
      simp only
      rw [sum_set _ _ (by omega), h1]
    · exact ⟨h1, h2, h3⟩
theorem both {xs : List V4} {pl pm : Int} (h : xs.all okV = true) (hp : ∀ x ∈ xs, x.2.1 = 0 ∨ x.2.1 = 1) (hpl : pl = 0 ∧ pm = 1 ∨ pl = 1 ∧ pm = 0) : ∀ k, k ≤ xs.length → (smS xs pl k).1 + (smS xs pm k).1 = (k : Int) ∧ (smS xs pl k).2.1 + (smS xs pm k).2.1 = lsum xs k := by
  intro k
  induction k with
  | zero => intro _; simp [smS, lsum]
  | succ k ih =>
    intro hk
    obtain ⟨h1, h2⟩ := ih (by omega)
    have hm : xs.getD k (0, 0, 0, 0) ∈ xs := by
      rw [List.getD_eq_getElem?_getD, List.getElem?_eq_getElem (by omega)]; exact List.getElem_mem _
    have hx := hp _ hm
    simp only [smS, stp, lsum]
    generalize xs.getD k (0, 0, 0, 0) = x at *
    by_cases e : x.2.1 = pl
    · have e2 : ¬ x.2.1 = pm := by omega
      rw [if_pos e, if_neg e2]
      simp only
      omega
    · have e2 : x.2.1 = pm := by omega
      rw [if_neg e, if_pos e2]
      simp only
      omega
/-- What the code 0 tells. -/
theorem ok_of {xs : List V4} {pl a b c d : Int} {gs : List Int} (h : smR xs pl = ((a, b, c, d, gs), 0)) : xs.length ≤ 300 ∧ (0 ≤ pl ∧ pl ≤ 1) ∧ xs.all okV = true ∧ smS xs pl xs.length = (a, b, c, d, gs) := by
  unfold smR at h
  split at h
  · simp only [Prod.mk.injEq] at h; exact absurd h.2 (by decide)
  · split at h
    · simp only [Prod.mk.injEq] at h; exact absurd h.2 (by decide)
    · split at h
      · rename_i h1 h2 h3
        simp only [Prod.mk.injEq] at h
        exact ⟨by omega, by omega, h3, h.1⟩
      · simp only [Prod.mk.injEq] at h; exact absurd h.2 (by decide)
theorem other_ {xs : List V4} {pl : Int} (hl : xs.length ≤ 300) (hp : 0 ≤ pl ∧ pl ≤ 1) (h : xs.all okV = true) : smR xs pl = (smS xs pl xs.length, 0) := by
  unfold smR
  rw [if_neg (by omega), if_neg (by omega), if_pos h]
/-- All that the law asks of two summaries. -/
theorem two {xs : List V4} {pl a b c d : Int} {gs : List Int} (hpl : ∀ x ∈ xs, x.2.1 = 0 ∨ x.2.1 = 1) (h : smR xs pl = ((a, b, c, d, gs), 0)) :
    ∃ a2 b2 c2 d2 gs2, smR xs (1 - pl) = ((a2, b2, c2, d2, gs2), 0) ∧ a + a2 = (xs.length : Int) ∧ b + b2 = lsum xs xs.length ∧ gs.sum = a ∧ 0 ≤ a ∧ 0 ≤ b ∧ 0 ≤ a2 ∧ 0 ≤ b2 ∧ (a = 0 → b = 0) ∧ gs.length = 4 ∧ (∀ x ∈ gs, 0 ≤ x ∧ x ≤ 300) ∧ a ≤ 300 ∧ b ≤ 300000000 ∧ a2 ≤ 300 ∧ b2 ≤ 300000000 := by
  obtain ⟨h1, h2, h3, h4⟩ := ok_of h
  obtain ⟨⟨a2, b2, c2, d2, gs2⟩, h5⟩ : ∃ s, smS xs (1 - pl) xs.length = s := ⟨_, rfl⟩
  have hb := both (pl := pl) (pm := 1 - pl) h3 hpl (by omega) xs.length (Nat.le_refl _)
  have ho := one_ (pl := pl) h3 xs.length (Nat.le_refl _)
  have ho2 := one_ (pl := 1 - pl) h3 xs.length (Nat.le_refl _)
  have hd := smS_bd (pl := pl) h3 xs.length (Nat.le_refl _)
  have hd2 := smS_bd (pl := 1 - pl) h3 xs.length (Nat.le_refl _)
  rw [h4, h5] at hb
  rw [h4] at ho hd
  rw [h5] at ho2 hd2
  obtain ⟨k1, k2, k3, k4, k5, k6⟩ := hd
  obtain ⟨m1, m2, m3, m4, m5, m6⟩ := hd2
  simp only at *
  refine ⟨a2, b2, c2, d2, gs2, by rw [other_ h1 (by omega) h3, h5], hb.1, hb.2, ho.1, by omega, by omega, by omega, by omega, by omega, k5, fun x hx => by have := k6 x hx; omega, by omega, by omega, by omega, by omega⟩
end Go.Proofs.YtahpdboehpicoaaDoor.SumTwo
