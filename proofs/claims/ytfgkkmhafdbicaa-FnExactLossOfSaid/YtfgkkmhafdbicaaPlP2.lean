/-
  Plays, plainly: how many there are, that their boards are boards, that the program's and the reference's way of collecting them agree; the values of the search. Conditions: each theorem's own.
-/
import Derived.Test.YtfgkkmhafdbicaaPlP
set_option linter.unusedVariables false
set_option linter.unusedSimpArgs false
namespace Go.Proofs.Ytfgkkmhafdbicaa.PlP

/-! ### Legal steps -/
theorem lgU_mem {v : Vr} {b : Bd} {d : Int} {s : Stp} : ∀ k, s ∈ lgU v b d k → ∃ j, j < k ∧ stepP v b (v.p - (j : Int)) d = some s := by
  intro k
  induction k with
  | zero => intro h; simp [lgU] at h
  | succ k ih =>
    intro h
    simp only [lgU, List.mem_append] at h
    rcases h with h | h
    · obtain ⟨j, h1, h2⟩ := ih h
      exact ⟨j, by omega, h2⟩
    · refine ⟨k, by omega, ?_⟩
      cases e : stepP v b (v.p - (k : Int)) d with
      | none => rw [e] at h; simp at h
      | some t => rw [e] at h; simp at h; rw [h]
theorem legal_mem {v : Vr} {b : Bd} {d : Int} {s : Stp} (hv : 0 ≤ v.p) (h : s ∈ legalP v b d) : over b = false ∧ ∃ f, (0 ≤ f ∧ f ≤ v.p) ∧ stepP v b f d = some s := by
  unfold legalP at h
  split at h
  · simp at h
  · rename_i ho
    obtain ⟨j, h1, h2⟩ := lgU_mem _ h
    exact ⟨by simpa using ho, v.p - (j : Int), by omega, h2⟩
theorem legal_ok {v : Vr} {b : Bd} {d : Int} {s : Stp} (hd : 1 ≤ d) (hb : Ok v b) (h : s ∈ legalP v b d) : Ok v (afterP v b s) := by
  obtain ⟨h1, f, h2, h3⟩ := legal_mem (by have := hb.v1; omega) h
  exact after_ok h2 hd hb h1 h3
theorem lgU_len (v : Vr) (b : Bd) (d : Int) : ∀ k, (lgU v b d k).length ≤ k := by
  intro k
  induction k with
  | zero => simp [lgU]
  | succ k ih =>
    simp only [lgU, List.length_append]
    have : ((stepP v b (v.p - (k : Int)) d).toList).length ≤ 1 := by cases stepP v b (v.p - (k : Int)) d <;> simp
    omega
theorem legal_len (v : Vr) (b : Bd) (d : Int) : (legalP v b d).length ≤ v.p.toNat + 1 := by
  unfold legalP
  split
  · simp
  · exact lgU_len v b d _

/-! ### Collecting -/
theorem addOne_len (out : List Pl) (p : Pl) : (addOne out p).length ≤ out.length + 1 := by unfold addOne; split <;> simp
theorem addOne_mem {out : List Pl} {p q : Pl} (h : q ∈ addOne out p) : q ∈ out ∨ q = p := by
  unfold addOne at h
  split at h
  · exact .inl h
  · simpa using h
theorem addOne_pos {out : List Pl} {p : Pl} : 0 < (addOne out p).length := by
  unfold addOne
  split
  · rename_i h
    unfold hasB at h
    cases out with
    | nil => simp at h
    | cons x l => simp
  · simp
theorem addOne_keep {out : List Pl} {p q : Pl} (h : q ∈ out) : q ∈ addOne out p := by
  unfold addOne; split
  · exact h
  · simp [h]
theorem nxIn_len (v : Vr) (p : Pl) : ∀ (ss : List Stp) (out : List Pl), (nxIn v p ss out).length ≤ out.length + ss.length := by
  intro ss
  induction ss with
  | nil => intro out; simp [nxIn]
  | cons s ss ih =>
    intro out
    have h1 := ih (addOne out (p.1 ++ [s], afterP v p.2 s))
    have h2 := addOne_len out (p.1 ++ [s], afterP v p.2 s)
    simp only [nxIn, List.foldl_cons, List.length_cons] at *
    omega
theorem nxIn_mem {v : Vr} {p q : Pl} : ∀ (ss : List Stp) (out : List Pl), q ∈ nxIn v p ss out → q ∈ out ∨ ∃ s ∈ ss, q = (p.1 ++ [s], afterP v p.2 s) := by
  intro ss
  induction ss with
  | nil => intro out h; exact .inl h
  | cons s ss ih =>
    intro out h
    rcases ih _ h with h | ⟨t, ht, h⟩
    · rcases addOne_mem h with h | h
      · exact .inl h
      · exact .inr ⟨s, List.mem_cons_self .., h⟩
    · exact .inr ⟨t, List.mem_cons_of_mem _ ht, h⟩
/-- The fold of nextP, begun anywhere. -/
def nxGo (v : Vr) (d : Int) (ps : List Pl) (out : List Pl) : List Pl := ps.foldl (fun o p => nxIn v p (legalP v p.2 d) o) out
theorem nxGo_len (v : Vr) (d : Int) : ∀ (ps out : List Pl), (nxGo v d ps out).length ≤ out.length + ps.length * (v.p.toNat + 1) := by
  intro ps
  induction ps with
  | nil => intro out; simp [nxGo]
  | cons p ps ih =>
    intro out
    have h1 := ih (nxIn v p (legalP v p.2 d) out)
    have h2 := nxIn_len v p (legalP v p.2 d) out
    have h3 := legal_len v p.2 d
    simp only [nxGo, List.foldl_cons, List.length_cons, Nat.add_mul, Nat.one_mul] at *
    omega
theorem nxGo_mem {v : Vr} {d : Int} {q : Pl} : ∀ (ps out : List Pl), q ∈ nxGo v d ps out → q ∈ out ∨ ∃ p ∈ ps, ∃ s ∈ legalP v p.2 d, q = (p.1 ++ [s], afterP v p.2 s) := by
  intro ps
  induction ps with
  | nil => intro out h; exact .inl h
  | cons p ps ih =>
    intro out h
    rcases ih _ h with h | ⟨r, hr, h⟩
    · rcases nxIn_mem _ _ h with h | ⟨s, hs, h⟩
      · exact .inl h
      · exact .inr ⟨p, List.mem_cons_self .., s, hs, h⟩
    · exact .inr ⟨r, List.mem_cons_of_mem _ hr, h⟩
/-- The plays of a row: boards, and so many steps. -/
def RowOk (v : Vr) (k : Nat) (ps : List Pl) : Prop := ∀ p ∈ ps, Ok v p.2 ∧ p.1.length = k
theorem next_ok {v : Vr} {d : Int} {ps : List Pl} {k : Nat} (hd : 1 ≤ d) (h : RowOk v k ps) : RowOk v (k + 1) (nextP v d ps) := by
  intro q hq
  rcases nxGo_mem ps [] hq with h' | ⟨p, hp, s, hs, rfl⟩
  · simp at h'
  · exact ⟨legal_ok hd (h p hp).1 hs, by simp [(h p hp).2]⟩
theorem next_len {v : Vr} {d : Int} {ps : List Pl} : (nextP v d ps).length ≤ ps.length * (v.p.toNat + 1) := by
  have := nxGo_len v d ps []
  show (nxGo v d ps []).length ≤ _
  simpa using this

/-! ### Rows -/
theorem rows_lng (v : Vr) : ∀ (ds : List Int) (rows : List (List Pl)) (fine : Bool), rows ≠ [] →
    lngGo v ds (rows.getLastD []) (rows.length - 1) fine = ((rowsGo v ds rows fine).1.getLastD [], (rowsGo v ds rows fine).1.length - 1, (rowsGo v ds rows fine).2) ∧ (rowsGo v ds rows fine).1 ≠ [] := by
  intro ds
  induction ds with
  | nil => intro rows fine h; exact ⟨rfl, h⟩
  | cons d ds ih =>
    intro rows fine h
    have hl : 1 ≤ rows.length := by cases rows with | nil => exact absurd rfl h | cons x l => simp
    simp only [lngGo, rowsGo]
    split
    · rename_i h0
      refine ⟨?_, h⟩
      simp only [Prod.mk.injEq, true_and]
      rw [h0]; simp
    · have := ih (rows ++ [nextP v d (rows.getLastD [])]) (fine && decide ((nextP v d (rows.getLastD [])).length ≤ 3000)) (by simp)
      have e1 : (rows ++ [nextP v d (rows.getLastD [])]).getLastD [] = nextP v d (rows.getLastD []) := by simp
      have e2 : (rows ++ [nextP v d (rows.getLastD [])]).length - 1 = rows.length - 1 + 1 := by simp; omega
      rw [e1, e2] at this
      exact this
theorem lng_rows (v : Vr) (b : Bd) (ds : List Int) : lngP v b ds = ((rowsP v b ds).1.getLastD [], (rowsP v b ds).1.length - 1, (rowsP v b ds).2) ∧ (rowsP v b ds).1 ≠ [] :=
  rows_lng v ds [[([], b)]] true (by simp)
/-- The last row has plays; they are boards with so many steps. -/
theorem lng_ok {v : Vr} : ∀ (ds : List Int) (ps : List Pl) (k : Nat) (fine : Bool), (∀ d ∈ ds, 1 ≤ d) → RowOk v k ps → 0 < ps.length →
    RowOk v (lngGo v ds ps k fine).2.1 (lngGo v ds ps k fine).1 ∧ 0 < (lngGo v ds ps k fine).1.length ∧ (lngGo v ds ps k fine).2.1 ≤ k + ds.length := by
  intro ds
  induction ds with
  | nil => intro ps k fine _ h h0; exact ⟨h, h0, Nat.le_refl _⟩
  | cons d ds ih =>
    intro ps k fine hd h h0
    simp only [lngGo]
    split
    · exact ⟨h, h0, by simp⟩
    · rename_i h1
      have := ih (nextP v d ps) (k + 1) (fine && decide ((nextP v d ps).length ≤ 3000)) (fun x hx => hd x (List.mem_cons_of_mem _ hx)) (next_ok (hd d (List.mem_cons_self ..)) h) (by omega)
      refine ⟨this.1, this.2.1, ?_⟩
      simp only [List.length_cons]; omega
/-- In a small variant every row fits. -/
theorem lng_fine {v : Vr} (hv : v.p.toNat + 1 ≤ 7) : ∀ (ds : List Int) (ps : List Pl) (k m : Nat), ps.length ≤ m → m * 7 ^ ds.length ≤ 3000 → (lngGo v ds ps k true).2.2 = true := by
  intro ds
  induction ds with
  | nil => intro ps k m _ _; rfl
  | cons d ds ih =>
    intro ps k m hm h7
    have hn := next_len (v := v) (d := d) (ps := ps)
    have h1 : (nextP v d ps).length ≤ m * 7 := Nat.le_trans hn (Nat.mul_le_mul hm hv)
    have e : m * 7 ^ (ds.length + 1) = m * 7 * 7 ^ ds.length := by rw [Nat.pow_succ, Nat.mul_comm (7 ^ ds.length) 7, ← Nat.mul_assoc]
    rw [List.length_cons, e] at h7
    have hp : 1 ≤ 7 ^ ds.length := Nat.one_le_pow _ _ (by omega)
    have h3 : m * 7 ≤ 3000 := Nat.le_trans (Nat.le_mul_of_pos_right _ hp) h7
    have hf : decide ((nextP v d ps).length ≤ 3000) = true := decide_eq_true (by omega)
    simp only [lngGo, hf, Bool.and_true]
    split
    · rfl
    · exact ih _ _ (m * 7) h1 h7

/-! ### All plays, as the program collects them -/
def usedR (all : List (List (List Pl))) (m : Nat) : Nat := all.foldl (fun m rows => max m (rows.length - 1)) m
def implGo (n : Nat) : List (List (List Pl)) → List Pl → List Pl
  | [], out => out
  | rows :: rest, out => if rows.length ≤ n then implGo n rest out else if n = 1 then addAll out (rows.getD n []) else implGo n rest (addAll out (rows.getD n []))
def allI (v : Vr) (b : Bd) (x y : Int) : List Pl × Bool :=
  let all := (ordP x y).map (rowsP v b)
  if (all.all fun r => r.2) then
    (if usedR (all.map fun r => r.1) 0 = 0 then ([([], b)], true) else (implGo (usedR (all.map fun r => r.1) 0) (all.map fun r => r.1) [], true))
  else ([], false)
theorem addAll_pos {ps out : List Pl} (h : 0 < ps.length) : 0 < (addAll out ps).length := by
  have key : ∀ (ps out : List Pl), 0 < out.length → 0 < (addAll out ps).length := by
    intro ps
    induction ps with
    | nil => intro out h; exact h
    | cons p ps ih => intro out h; exact ih _ addOne_pos
  cases ps with
  | nil => simp at h
  | cons p ps => exact key ps (addOne out p) addOne_pos
theorem addAll_mem {q : Pl} : ∀ (ps out : List Pl), q ∈ addAll out ps → q ∈ out ∨ q ∈ ps := by
  intro ps
  induction ps with
  | nil => intro out h; exact .inl h
  | cons p ps ih =>
    intro out h
    rcases ih _ h with h | h
    · rcases addOne_mem h with h | h
      · exact .inl h
      · exact .inr (by rw [h]; exact List.mem_cons_self ..)
    · exact .inr (List.mem_cons_of_mem _ h)
theorem last_at {rows : List (List Pl)} (h : rows ≠ []) : rows.getLastD [] = rows.getD (rows.length - 1) [] := by
  rw [List.getLastD_eq_getLast?, List.getLast?_eq_getElem?, List.getD_eq_getElem?_getD]
theorem lng_ge (v : Vr) : ∀ (ds : List Int) (ps : List Pl) (k : Nat) (fine : Bool), k ≤ (lngGo v ds ps k fine).2.1 ∧ ((lngGo v ds ps k fine).2.1 = k → (lngGo v ds ps k fine).1 = ps) := by
  intro ds
  induction ds with
  | nil => intro ps k fine; exact ⟨Nat.le_refl _, fun _ => rfl⟩
  | cons d ds ih =>
    intro ps k fine
    simp only [lngGo]
    split
    · exact ⟨Nat.le_refl _, fun _ => rfl⟩
    · have := ih (nextP v d ps) (k + 1) (fine && decide ((nextP v d ps).length ≤ 3000))
      exact ⟨by omega, fun h => by omega⟩
theorem lng_zero (v : Vr) (b : Bd) (ds : List Int) : (lngP v b ds).2.1 = 0 → (lngP v b ds).1 = [([], b)] := (lng_ge v ds [([], b)] 0 true).2
theorem all_two (v : Vr) (b : Bd) (o1 o2 : List Int) (hd1 : ∀ d ∈ o1, 1 ≤ d) (hb : Ok v b) (h1 : (lngP v b o1).2.2 = true) (h2 : (lngP v b o2).2.2 = true) :
    (if usedR [(rowsP v b o1).1, (rowsP v b o2).1] 0 = 0 then ([([], b)], true) else (implGo (usedR [(rowsP v b o1).1, (rowsP v b o2).1] 0) [(rowsP v b o1).1, (rowsP v b o2).1] [], true)) = allGo v b (usedP v b [o1, o2]) 0 [o1, o2] [] true := by
  obtain ⟨e1, q1⟩ := lng_rows v b o1
  obtain ⟨e2, q2⟩ := lng_rows v b o2
  have p1 := (lng_ok (v := v) o1 [([], b)] 0 true hd1 (by intro p hp; simp at hp; subst hp; exact ⟨hb, rfl⟩) (by simp)).2.1
  have z1 := lng_zero v b o1
  have z2 := lng_zero v b o2
  have g1 := last_at q1
  have g2 := last_at q2
  have hl1 : 1 ≤ (rowsP v b o1).1.length := by cases hr : (rowsP v b o1).1 with | nil => exact absurd hr q1 | cons x l => simp
  have hl2 : 1 ≤ (rowsP v b o2).1.length := by cases hr : (rowsP v b o2).1 with | nil => exact absurd hr q2 | cons x l => simp
  rw [show lngGo v o1 [([], b)] 0 true = lngP v b o1 from rfl] at p1
  rw [e1] at p1 z1 h1
  rw [e2] at z2 h2
  rw [g1] at p1 z1
  rw [g2] at z2
  simp only at p1 z1 z2 h1 h2
  have eu : usedP v b [o1, o2] = max ((rowsP v b o1).1.length - 1) (max ((rowsP v b o2).1.length - 1) 0) := by simp only [usedP, e1, e2]
  have er : usedR [(rowsP v b o1).1, (rowsP v b o2).1] 0 = max (max 0 ((rowsP v b o1).1.length - 1)) ((rowsP v b o2).1.length - 1) := rfl
  simp only [allGo, e1, e2, eu, er, h1, h2, g1, g2, Bool.and_true, implGo]
  generalize (rowsP v b o1).1 = r1 at *
  generalize (rowsP v b o2).1 = r2 at *
  obtain ⟨n1, hn1⟩ : ∃ n1, r1.length = n1 + 1 := ⟨r1.length - 1, by omega⟩
  obtain ⟨n2, hn2⟩ : ∃ n2, r2.length = n2 + 1 := ⟨r2.length - 1, by omega⟩
  rw [hn1, Nat.add_sub_cancel] at z1 p1
  rw [hn2, Nat.add_sub_cancel] at z2
  simp only [hn1, hn2, Nat.add_sub_cancel]
  have hA : addAll [] (r1.getD n1 []) ≠ [] := fun h => by have := addAll_pos (out := []) p1; rw [h] at this; simp at this
  rw [List.getD_eq_getElem?_getD] at hA
  have i1 : ¬ n1 + 1 ≤ n1 := by omega
  have i2 : ¬ n2 + 1 ≤ n2 := by omega
  by_cases hu : n1 = 0 ∧ n2 = 0
  · obtain ⟨rfl, rfl⟩ := hu
    rw [z1 rfl, z2 rfl]
    simp [addAll, addOne, hasB]
  · by_cases c1 : n2 ≤ n1
    · have m1 : max (max 0 n1) n2 = n1 := by omega
      have m2 : max n1 (max n2 0) = n1 := by omega
      have hn0 : ¬ n1 = 0 := by omega
      rw [m1, m2]
      by_cases c2 : n1 = 1
      · subst c2
        simp [hA, i1]
      · by_cases c3 : n2 = n1
        · subst c3
          simp [hn0, c2, i1]
        · have c4 : n2 + 1 ≤ n1 := by omega
          simp [hn0, c2, c3, c4, i1]
    · have m1 : max (max 0 n1) n2 = n2 := by omega
      have m2 : max n1 (max n2 0) = n2 := by omega
      have hn0 : ¬ n2 = 0 := by omega
      have c3 : ¬ n1 = n2 := by omega
      have c4 : n1 + 1 ≤ n2 := by omega
      rw [m1, m2]
      simp [hn0, c3, c4, i2]
theorem all_one (v : Vr) (b : Bd) (o1 : List Int) (h1 : (lngP v b o1).2.2 = true) :
    (if usedR [(rowsP v b o1).1] 0 = 0 then ([([], b)], true) else (implGo (usedR [(rowsP v b o1).1] 0) [(rowsP v b o1).1] [], true)) = allGo v b (usedP v b [o1]) 0 [o1] [] true := by
  obtain ⟨e1, q1⟩ := lng_rows v b o1
  have z1 := lng_zero v b o1
  have g1 := last_at q1
  have hl1 : 1 ≤ (rowsP v b o1).1.length := by cases hr : (rowsP v b o1).1 with | nil => exact absurd hr q1 | cons x l => simp
  rw [e1] at z1 h1
  rw [g1] at z1
  simp only at z1 h1
  have eu : usedP v b [o1] = max ((rowsP v b o1).1.length - 1) 0 := by simp only [usedP, e1]
  have er : usedR [(rowsP v b o1).1] 0 = max 0 ((rowsP v b o1).1.length - 1) := rfl
  simp only [allGo, e1, eu, er, h1, g1, Bool.and_true, implGo]
  generalize (rowsP v b o1).1 = r1 at *
  obtain ⟨n1, hn1⟩ : ∃ n1, r1.length = n1 + 1 := ⟨r1.length - 1, by omega⟩
  rw [hn1, Nat.add_sub_cancel] at z1
  simp only [hn1, Nat.add_sub_cancel]
  have m1 : max 0 n1 = n1 := by omega
  have m2 : max n1 0 = n1 := by omega
  rw [m1, m2]
  by_cases hu : n1 = 0
  · subst hu
    rw [z1 rfl]
    simp [addAll, addOne, hasB]
  · have i1 : ¬ n1 + 1 ≤ n1 := by omega
    simp [hu, i1]
/-- **Where all rows fit, the program's plays are the reference's.** -/
theorem allI_eq {v : Vr} {b : Bd} {x y : Int} (hb : Ok v b) (hx : 1 ≤ x) (hy : 1 ≤ y) (hf : ∀ o ∈ ordP x y, (lngP v b o).2.2 = true) : allI v b x y = allP v b x y := by
  unfold allI allP
  have hr : ∀ o ∈ ordP x y, (rowsP v b o).2 = true := fun o ho => by
    have := hf o ho
    rw [(lng_rows v b o).1] at this
    exact this
  by_cases e : x = y
  · have eo : ordP x y = [[x, x, x, x]] := by unfold ordP; rw [if_pos e]
    rw [eo] at hr hf ⊢
    have h1 := hr _ (List.mem_cons_self ..)
    simp only [List.map_cons, List.map_nil, List.all_cons, List.all_nil, h1, Bool.and_true, if_true]
    exact all_one v b _ (hf _ (List.mem_cons_self ..))
  · have eo : ordP x y = [[x, y], [y, x]] := by unfold ordP; rw [if_neg e]
    rw [eo] at hr hf ⊢
    have h1 := hr _ (List.mem_cons_self ..)
    have h2 := hr [y, x] (by simp)
    simp only [List.map_cons, List.map_nil, List.all_cons, List.all_nil, h1, h2, Bool.and_true, Bool.and_self, if_true]
    exact all_two v b _ _ (by intro d hd; simp at hd; omega) hb (hf _ (List.mem_cons_self ..)) (hf _ (by simp))
/-- In a small variant all rows fit. -/
theorem fits_small {v : Vr} {b : Bd} {x y : Int} (hv : v.p ≤ 6) : ∀ o ∈ ordP x y, (lngP v b o).2.2 = true := by
  intro o ho
  refine lng_fine (by omega) o [([], b)] 0 1 (by simp) ?_
  unfold ordP at ho
  split at ho
  · simp at ho; subst ho; simp
  · simp at ho; rcases ho with rfl | rfl <;> simp
/-- The plays are boards, at least one. -/
theorem allP_ok {v : Vr} {b : Bd} {x y : Int} (hb : Ok v b) (hx : 1 ≤ x) (hy : 1 ≤ y) : (∀ p ∈ (allP v b x y).1, Ok v p.2 ∧ p.1.length ≤ 4) ∧ 0 < (allP v b x y).1.length := by
  have hl : ∀ o ∈ ordP x y, (∀ p ∈ (lngP v b o).1, Ok v p.2 ∧ p.1.length ≤ 4) ∧ 0 < (lngP v b o).1.length := by
    intro o ho
    have ho4 : o.length ≤ 4 ∧ ∀ d ∈ o, 1 ≤ d := by
      unfold ordP at ho
      split at ho
      · simp at ho; subst ho; exact ⟨by simp, by intro d hd; simp at hd; omega⟩
      · simp at ho; rcases ho with rfl | rfl <;> exact ⟨by simp, by intro d hd; simp at hd; omega⟩
    have := lng_ok (v := v) o [([], b)] 0 true ho4.2 (by intro p hp; simp at hp; subst hp; exact ⟨hb, rfl⟩) (by simp)
    refine ⟨fun p hp => ?_, this.2.1⟩
    have h1 := this.1 p hp
    refine ⟨h1.1, ?_⟩
    have := this.2.2
    have := ho4.1
    rw [h1.2]; omega
  have gen : ∀ (u : Nat) (os : List (List Int)) (i : Nat) (out : List Pl) (fine : Bool), (∀ o ∈ os, o ∈ ordP x y) → (∀ p ∈ out, Ok v p.2 ∧ p.1.length ≤ 4) →
      (∀ p ∈ (allGo v b u i os out fine).1, Ok v p.2 ∧ p.1.length ≤ 4) ∧ (0 < out.length → 0 < (allGo v b u i os out fine).1.length) := by
    intro u os
    induction os with
    | nil => intro i out fine _ ho; exact ⟨ho, fun h => h⟩
    | cons o os ih =>
      intro i out fine hos ho
      have h1 := hl o (hos o (List.mem_cons_self ..))
      simp only [allGo]
      split
      · exact ih _ _ _ (fun q hq => hos q (List.mem_cons_of_mem _ hq)) ho
      · have := ih (i + 1) (addAll out (lngP v b o).1) (fine && (lngP v b o).2.2) (fun q hq => hos q (List.mem_cons_of_mem _ hq)) (fun p hp => by
          rcases addAll_mem _ _ hp with h | h
          · exact ho p h
          · exact h1.1 p h)
        exact ⟨this.1, fun _ => this.2 (addAll_pos h1.2)⟩
  refine ⟨(gen _ _ 0 [] true (fun o ho => ho) (by simp)).1, ?_⟩
  -- some order is of the greatest length
  unfold allP
  by_cases e : x = y
  · have eo : ordP x y = [[x, x, x, x]] := by unfold ordP; rw [if_pos e]
    rw [eo]
    have h1 := hl [x, x, x, x] (by rw [eo]; simp)
    simp only [allGo, usedP]
    simp
    exact addAll_pos h1.2
  · have eo : ordP x y = [[x, y], [y, x]] := by unfold ordP; rw [if_neg e]
    rw [eo]
    have h1 := hl [x, y] (by rw [eo]; simp)
    have h2 := hl [y, x] (by rw [eo]; simp)
    have k1 : ∀ out, addAll out (lngP v b [x, y]).1 ≠ [] := fun out h => by have := addAll_pos (out := out) h1.2; rw [h] at this; simp at this
    have k2 : ∀ out, addAll out (lngP v b [y, x]).1 ≠ [] := fun out h => by have := addAll_pos (out := out) h2.2; rw [h] at this; simp at this
    simp only [allGo, usedP]
    obtain ⟨n1, hn1⟩ : ∃ n1, (lngP v b [x, y]).2.1 = n1 := ⟨_, rfl⟩
    obtain ⟨n2, hn2⟩ : ∃ n2, (lngP v b [y, x]).2.1 = n2 := ⟨_, rfl⟩
    simp only [hn1, hn2]
    refine List.length_pos_iff.2 ?_
    by_cases c1 : n2 ≤ n1
    · have m2 : max n1 (max n2 0) = n1 := by omega
      rw [m2]
      simp only [ne_eq, not_true_eq_false, false_or]
      rw [if_neg (by simp : ¬ (n1 = 1 ∧ 0 = 1 ∧ 0 < ([] : List Pl).length))]
      split
      · exact k1 _
      · exact k2 _
    · have m2 : max n1 (max n2 0) = n2 := by omega
      have c3 : n1 ≠ n2 := by omega
      rw [m2]
      simp [c3, k2]

/-! ### Values -/
def pipU (l : List Int) : Nat → Int
  | 0 => 0
  | k + 1 => pipU l k + ((k : Int) + 1) * at_ l k
def pipP (l : List Int) : Int := pipU l l.length
def est (v : Vr) (b : Bd) : Int :=
  if b.1.sum = 0 then 1000000 else if b.2.sum = 0 then 0
  else max 1 (min 999999 (500000 + (1000000 * (pipP b.2 - pipP b.1 + v.s)) / (pipP b.1 + pipP b.2 + v.s)))
def rollsP : Nat → List (Int × Int)
  | 0 => []
  | a + 1 => rollsP a ++ (List.range (a + 1)).map fun b => (((a + 1 : Nat) : Int), ((b + 1 : Nat) : Int))
def wtP (r : Int × Int) : Int := if r.1 = r.2 then 1 else 2
/-- The greatest of the first k + 1 numbers. -/
def grU (l : List Int) : Nat → Int
  | 0 => at_ l 0
  | k + 1 => max (grU l k) (at_ l (k + 1))
def grt (l : List Int) : Int := grU l (l.length - 1)
/-- The first place of the greatest of the first k + 1 numbers. -/
def fgU (l : List Int) : Nat → Nat
  | 0 => 0
  | k + 1 => if at_ l (fgU l k) < at_ l (k + 1) then k + 1 else fgU l k
def fgP (l : List Int) : Nat := fgU l (l.length - 1)
theorem fg_gr (l : List Int) : ∀ k, at_ l (fgU l k) = grU l k ∧ fgU l k ≤ k := by
  intro k
  induction k with
  | zero => exact ⟨rfl, Nat.le_refl _⟩
  | succ k ih =>
    simp only [fgU, grU]
    split
    · exact ⟨by omega, Nat.le_refl _⟩
    · exact ⟨by omega, by omega⟩
theorem gr_bd {l : List Int} {a z : Int} (h : ∀ x ∈ l, a ≤ x ∧ x ≤ z) : ∀ k, k < l.length → a ≤ grU l k ∧ grU l k ≤ z := by
  intro k
  induction k with
  | zero => intro hk; exact h _ (List.mem_of_getElem? (at_get hk))
  | succ k ih =>
    intro hk
    have h1 := ih (by omega)
    have h2 := h _ (List.mem_of_getElem? (at_get hk))
    simp only [grU]
    omega
def swp (b : Bd) : Bd := (b.2, b.1)
/-- The value of a board for a depth. -/
def valP (v : Vr) : Nat → Bd → Int
  | 0, b => est v b
  | d + 1, b => if over b then est v b else ((rollsP v.s.toNat).map fun r => wtP r * grt ((allP v b r.1 r.2).1.map fun p => 1000000 - valP v d (swp p.2))).sum / (v.s * v.s)
def plsP (v : Vr) (d : Nat) (b : Bd) (x y : Int) : List Int := (allP v b x y).1.map fun p => 1000000 - valP v d (swp p.2)
theorem swp_ok {v : Vr} {b : Bd} (h : Ok v b) : Ok v (swp b) := by
  refine ⟨h.v1, h.oth, h.own, fun hh => h.some_ ⟨hh.2, hh.1⟩, fun i hi hh => ?_⟩
  have := h.ap (v.p.toNat - 1 - i) (by omega)
  rw [show v.p.toNat - 1 - (v.p.toNat - 1 - i) = i from by omega] at this
  exact this ⟨hh.2, hh.1⟩
theorem est_bd (v : Vr) (b : Bd) : 0 ≤ est v b ∧ est v b ≤ 1000000 := by
  unfold est
  split
  · omega
  · split
    · omega
    · omega
theorem rolls_mem {s : Nat} {r : Int × Int} (h : r ∈ rollsP s) : (1 ≤ r.1 ∧ r.1 ≤ s) ∧ 1 ≤ r.2 ∧ r.2 ≤ r.1 := by
  induction s with
  | zero => simp [rollsP] at h
  | succ s ih =>
    simp only [rollsP, List.mem_append, List.mem_map, List.mem_range] at h
    rcases h with h | ⟨b, hb, rfl⟩
    · have := ih h; omega
    · simp only; omega
/-- A weighted sum of numbers up to a million. -/
theorem wsum_bd (f : Int × Int → Int) : ∀ (l : List (Int × Int)), (∀ r ∈ l, 0 ≤ f r ∧ f r ≤ 1000000) → 0 ≤ (l.map fun r => wtP r * f r).sum ∧ (l.map fun r => wtP r * f r).sum ≤ 1000000 * (l.map wtP).sum := by
  intro l
  induction l with
  | nil => intro _; simp
  | cons r l ih =>
    intro h
    have h1 := ih (fun q hq => h q (List.mem_cons_of_mem _ hq))
    have h2 := h r (List.mem_cons_self ..)
    simp only [List.map_cons, List.sum_cons]
    have hw : 0 ≤ wtP r * f r ∧ wtP r * f r ≤ 1000000 * wtP r := by unfold wtP; split <;> omega
    omega
theorem wt_sum {s : Int} (h1 : 1 ≤ s) (h6 : s ≤ 6) : ((rollsP s.toNat).map wtP).sum = s * s := by
  have : s = 1 ∨ s = 2 ∨ s = 3 ∨ s = 4 ∨ s = 5 ∨ s = 6 := by omega
  rcases this with rfl | rfl | rfl | rfl | rfl | rfl <;> decide
theorem val_bd {v : Vr} : ∀ (d : Nat) (b : Bd), Ok v b → 0 ≤ valP v d b ∧ valP v d b ≤ 1000000 := by
  intro d
  induction d with
  | zero => intro b _; exact est_bd v b
  | succ d ih =>
    intro b hb
    simp only [valP]
    split
    · exact est_bd v b
    · have hv := hb.v1
      have hm := wsum_bd (fun r => grt ((allP v b r.1 r.2).1.map fun p => 1000000 - valP v d (swp p.2))) (rollsP v.s.toNat) (fun r hr => by
        have h1 := rolls_mem hr
        have h2 := allP_ok (x := r.1) (y := r.2) hb (by omega) (by omega)
        refine gr_bd (fun x hx => ?_) _ (by rw [List.length_map]; have := h2.2; omega)
        obtain ⟨p, hp, rfl⟩ := List.mem_map.1 hx
        have := ih _ (swp_ok (h2.1 p hp).1)
        omega)
      rw [wt_sum (by omega) (by omega)] at hm
      have hs : 0 < v.s * v.s := Int.mul_pos (by omega) (by omega)
      exact ⟨Int.ediv_nonneg hm.1 (by omega), by
        refine Int.le_of_lt_add_one (Int.ediv_lt_of_lt_mul hs ?_)
        have : (1000000 + 1) * (v.s * v.s) = 1000000 * (v.s * v.s) + v.s * v.s := by rw [Int.add_mul, Int.one_mul]
        omega⟩
theorem pls_bd {v : Vr} {d : Nat} {b : Bd} {x y : Int} (hb : Ok v b) (hx : 1 ≤ x) (hy : 1 ≤ y) : (∀ z ∈ plsP v d b x y, 0 ≤ z ∧ z ≤ 1000000) ∧ 0 < (plsP v d b x y).length := by
  have h2 := allP_ok (x := x) (y := y) hb hx hy
  refine ⟨fun z hz => ?_, by unfold plsP; rw [List.length_map]; exact h2.2⟩
  obtain ⟨p, hp, rfl⟩ := List.mem_map.1 hz
  have := val_bd d _ (swp_ok (h2.1 p hp).1)
  omega
end Go.Proofs.Ytfgkkmhafdbicaa.PlP
