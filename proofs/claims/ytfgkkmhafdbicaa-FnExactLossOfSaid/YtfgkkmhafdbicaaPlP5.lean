/-
  Plays, plainly, V: what the rows of kept sequences are like. Conditions: each theorem's own.
-/
import Derived.Test.YtfgkkmhafdbicaaPlP4
set_option linter.unusedVariables false
set_option linter.unusedSimpArgs false
namespace Go.Proofs.Ytfgkkmhafdbicaa.PlP

/-- A list of rows, each of plays with so many steps, so many at most. -/
def RowsOk (v : Vr) (rows : List (List Pl)) : Prop := ∀ i row, rows[i]? = some row → RowOk v i row ∧ row.length ≤ 25 ^ i
theorem RowsOk.snoc {v : Vr} {rows : List (List Pl)} {row : List Pl} (h : RowsOk v rows) (hr : RowOk v rows.length row ∧ row.length ≤ 25 ^ rows.length) : RowsOk v (rows ++ [row]) := by
  intro i r hi
  rcases Nat.lt_trichotomy i rows.length with h1 | h1 | h1
  · rw [List.getElem?_append_left h1] at hi; exact h i r hi
  · subst h1
    rw [List.getElem?_append_right (Nat.le_refl _), Nat.sub_self] at hi
    simp at hi; subst hi; exact hr
  · rw [List.getElem?_eq_none (by simp; omega)] at hi; cases hi
theorem rowsGo_ok {v : Vr} (hp : v.p.toNat + 1 ≤ 25) : ∀ (ds : List Int) (rows : List (List Pl)) (fine : Bool), (∀ d ∈ ds, 1 ≤ d) → rows ≠ [] → RowsOk v rows →
    RowsOk v (rowsGo v ds rows fine).1 ∧ (rowsGo v ds rows fine).1.length ≤ rows.length + ds.length ∧ rows.length ≤ (rowsGo v ds rows fine).1.length := by
  intro ds
  induction ds with
  | nil => intro rows fine _ _ h; exact ⟨h, Nat.le_refl _, Nat.le_refl _⟩
  | cons d ds ih =>
    intro rows fine hd hne h
    simp only [rowsGo]
    split
    · exact ⟨h, Nat.le_add_right _ _, Nat.le_refl _⟩
    · obtain ⟨m, hm⟩ : ∃ m, rows.length = m + 1 := by cases rows with | nil => exact absurd rfl hne | cons x l => exact ⟨l.length, rfl⟩
      have hl : rows[m]? = some (rows.getLastD []) := by
        rw [List.getLastD_eq_getLast?, List.getLast?_eq_getElem?, hm, Nat.add_sub_cancel, List.getElem?_eq_getElem (by omega)]; rfl
      have h1 := h m _ hl
      have hn : RowOk v (m + 1) (nextP v d (rows.getLastD [])) ∧ (nextP v d (rows.getLastD [])).length ≤ 25 ^ (m + 1) := by
        refine ⟨next_ok (hd d (List.mem_cons_self ..)) h1.1, Nat.le_trans next_len ?_⟩
        rw [Nat.pow_succ]
        exact Nat.mul_le_mul h1.2 hp
      have := ih (rows ++ [nextP v d (rows.getLastD [])]) (fine && decide ((nextP v d (rows.getLastD [])).length ≤ 3000)) (fun x hx => hd x (List.mem_cons_of_mem _ hx)) (by simp) (h.snoc (by rw [hm]; exact hn))
      refine ⟨this.1, ?_, ?_⟩
      · have := this.2.1; simp only [List.length_append, List.length_cons, List.length_nil] at *; omega
      · have := this.2.2; simp only [List.length_append, List.length_cons, List.length_nil] at *; omega
theorem rowsP_ok {v : Vr} {b : Bd} (hb : Ok v b) {ds : List Int} (hd : ∀ d ∈ ds, 1 ≤ d) (hl : ds.length ≤ 4) : RowsOk v (rowsP v b ds).1 ∧ 1 ≤ (rowsP v b ds).1.length ∧ (rowsP v b ds).1.length ≤ 5 := by
  have hv := hb.v1
  have := rowsGo_ok (v := v) (by omega) ds [[([], b)]] true hd (by simp) (by
    intro i row hi
    cases i with
    | zero => simp at hi; subst hi; exact ⟨fun q hq => by simp at hq; subst hq; exact ⟨hb, rfl⟩, by simp⟩
    | succ i => simp at hi)
  refine ⟨this.1, ?_, ?_⟩
  · have := this.2.2; exact this
  · have := this.2.1; simp only [List.length_cons, List.length_nil] at this; unfold rowsP; omega
theorem usedR_bd : ∀ (all : List (List (List Pl))) (m k : Nat), m ≤ k → (∀ R ∈ all, R.length ≤ k + 1) → usedR all m ≤ k := by
  intro all
  induction all with
  | nil => intro m k h _; exact h
  | cons R all ih =>
    intro m k h hR
    have := hR R (List.mem_cons_self ..)
    exact ih _ _ (show max m (R.length - 1) ≤ k by omega) (fun Q hQ => hR Q (List.mem_cons_of_mem _ hQ))
theorem implGo_skip {n : Nat} {R : List (List Pl)} {rest : List (List (List Pl))} {out : List Pl} (h : R.length ≤ n) : implGo n (R :: rest) out = implGo n rest out := by
  simp only [implGo]; rw [if_pos h]
theorem implGo_one {n : Nat} {R : List (List Pl)} {rest : List (List (List Pl))} {out : List Pl} (h : ¬ R.length ≤ n) (h1 : n = 1) : implGo n (R :: rest) out = addAll out (R.getD n []) := by
  simp only [implGo]; rw [if_neg h, if_pos h1]
theorem implGo_more {n : Nat} {R : List (List Pl)} {rest : List (List (List Pl))} {out : List Pl} (h : ¬ R.length ≤ n) (h1 : ¬ n = 1) : implGo n (R :: rest) out = implGo n rest (addAll out (R.getD n [])) := by
  simp only [implGo]; rw [if_neg h, if_neg h1]
theorem drop_cons {α : Type} {l : List α} {k : Nat} {x : α} (h : l[k]? = some x) : l.drop k = x :: l.drop (k + 1) := by
  obtain ⟨hk, hx⟩ := List.getElem?_eq_some_iff.1 h
  rw [List.drop_eq_getElem_cons hk, hx]
theorem allI_eq2 (v : Vr) (b : Bd) (x y : Int) : allI v b x y = (if ((ordP x y).all fun o => (rowsP v b o).2) = true then (if usedR ((ordP x y).map fun o => (rowsP v b o).1) 0 = 0 then ([([], b)], true) else (implGo (usedR ((ordP x y).map fun o => (rowsP v b o).1) 0) ((ordP x y).map fun o => (rowsP v b o).1) [], true)) else ([], false)) := by
  unfold allI
  simp only [List.all_map, List.map_map, Function.comp_def]
end Go.Proofs.Ytfgkkmhafdbicaa.PlP
