/-
  Boards, steps and plays, plainly: what the program and the reference compute. No memory in this text. Conditions: each theorem's own.
  Plays, plainly: how many there are, that their boards are boards, that the program's and the reference's way of collecting them agree; the values of the search. Conditions: each theorem's own.
  Plays, plainly, III: the texts by which the program tells boards apart; floor division; losses and leads. Conditions: each theorem's own.
  Plays, plainly, IV: collected one by one. Conditions: each theorem's own.
  Plays, plainly, V: what the rows of kept sequences are like. Conditions: each theorem's own.
-/


set_option linter.unusedVariables false
namespace Go.Proofs.YtlfdcefgelpgmaaGreatDoor.PlP

/-- A variant: points, checkers, home, sides. -/
structure Vr where
  p : Int
  c : Int
  h : Int
  s : Int
/-- A board: the owner's side, the other's. -/
abbrev Bd := List Int × List Int
/-- A step: from, to, die, hit. -/
abbrev Stp := Int × Int × Int × Bool
/-- A play: its steps, the board behind them. -/
abbrev Pl := List Stp × Bd

def okV (v : Vr) : Bool := decide ((2 ≤ v.p ∧ v.p ≤ 24) ∧ (1 ≤ v.c ∧ v.c ≤ 15) ∧ (1 ≤ v.h ∧ v.h ≤ v.p) ∧ 1 ≤ v.s ∧ v.s ≤ 6)
def smV (v : Vr) : Bool := okV v && decide (v.p ≤ 6 ∧ v.c ≤ 3 ∧ v.s ≤ 3)
def at_ (l : List Int) (i : Nat) : Int := l.getD i 0
def okS (v : Vr) (l : List Int) : Bool := decide ((l.length : Int) = v.p + 1) && (l.all fun x => decide (0 ≤ x)) && decide (l.sum ≤ v.c)
/-- No point bears both players' checkers, up to point k. -/
def apart (v : Vr) (b : Bd) : Nat → Bool
  | 0 => true
  | k + 1 => apart v b k && !(decide (0 < at_ b.1 k) && decide (0 < at_ b.2 (v.p.toNat - 1 - k)))
def okB (v : Vr) (b : Bd) : Bool := okV v && okS v b.1 && okS v b.2 && !(decide (b.1.sum = 0) && decide (b.2.sum = 0)) && apart v b v.p.toNat
def over (b : Bd) : Bool := decide (b.1.sum = 0) || decide (b.2.sum = 0)
/-- The greatest index below k with a checker, or -1. -/
def lastU (l : List Int) : Nat → Int
  | 0 => -1
  | k + 1 => if 0 < at_ l k then (k : Int) else lastU l k
def last (l : List Int) : Int := lastU l l.length
/-- The step of a checker from a point with a die. -/
def stepP (v : Vr) (b : Bd) (f d : Int) : Option Stp :=
  if at_ b.1 f.toNat = 0 ∨ (0 < at_ b.1 v.p.toNat ∧ f ≠ v.p) then none
  else if 0 ≤ f - d then
    (if at_ b.2 (v.p - 1 - (f - d)).toNat ≤ 1 then some (f, f - d, d, decide (at_ b.2 (v.p - 1 - (f - d)).toNat = 1)) else none)
  else if v.h ≤ last b.1 ∨ (f - d < -1 ∧ f < last b.1) then none
  else some (f, -1, d, false)
/-- The steps from the k highest points. -/
def lgU (v : Vr) (b : Bd) (d : Int) : Nat → List Stp
  | 0 => []
  | k + 1 => lgU v b d k ++ (stepP v b (v.p - (k : Int)) d).toList
def legalP (v : Vr) (b : Bd) (d : Int) : List Stp := if over b then [] else lgU v b d (v.p.toNat + 1)
def inc (l : List Int) (i : Nat) (x : Int) : List Int := l.set i (at_ l i + x)
def afterP (v : Vr) (b : Bd) (s : Stp) : Bd :=
  (if 0 ≤ s.2.1 then inc (inc b.1 s.1.toNat (-1)) s.2.1.toNat 1 else inc b.1 s.1.toNat (-1),
   if s.2.2.2 then inc (inc b.2 (v.p - 1 - s.2.1).toNat (-1)) v.p.toNat 1 else b.2)
def hasB (out : List Pl) (b : Bd) : Bool := out.any fun q => decide (q.2 = b)
def addOne (out : List Pl) (p : Pl) : List Pl := if hasB out p.2 then out else out ++ [p]
/-- The plays that come from one by a step more. -/
def nxIn (v : Vr) (p : Pl) (ss : List Stp) (out : List Pl) : List Pl := ss.foldl (fun o s => addOne o (p.1 ++ [s], afterP v p.2 s)) out
def nextP (v : Vr) (d : Int) (ps : List Pl) : List Pl := ps.foldl (fun o p => nxIn v p (legalP v p.2 d) o) []
/-- The rows of kept plays for an order of dice. -/
def rowsGo (v : Vr) : List Int → List (List Pl) → Bool → List (List Pl) × Bool
  | [], rows, fine => (rows, fine)
  | d :: ds, rows, fine =>
    let nx := nextP v d (rows.getLastD [])
    if nx.length = 0 then (rows, fine) else rowsGo v ds (rows ++ [nx]) (fine && decide (nx.length ≤ 3000))
def rowsP (v : Vr) (b : Bd) (ds : List Int) : List (List Pl) × Bool := rowsGo v ds [[([], b)]] true
/-- The same as the reference keeps it: the last row, its number, whether all rows fit. -/
def lngGo (v : Vr) : List Int → List Pl → Nat → Bool → List Pl × Nat × Bool
  | [], ps, k, fine => (ps, k, fine)
  | d :: ds, ps, k, fine =>
    let nx := nextP v d ps
    if nx.length = 0 then (ps, k, fine && decide (nx.length ≤ 3000)) else lngGo v ds nx (k + 1) (fine && decide (nx.length ≤ 3000))
def lngP (v : Vr) (b : Bd) (ds : List Int) : List Pl × Nat × Bool := lngGo v ds [([], b)] 0 true
def ordP (a b : Int) : List (List Int) := if a = b then [[a, a, a, a]] else [[a, b], [b, a]]
def addAll (out ps : List Pl) : List Pl := ps.foldl addOne out
/-- The dice that are used. -/
def usedP (v : Vr) (b : Bd) : List (List Int) → Nat
  | [] => 0
  | o :: os => max (lngP v b o).2.1 (usedP v b os)
/-- The plays of a roll as the reference collects them: i tells the place of the order. -/
def allGo (v : Vr) (b : Bd) (u : Nat) : Nat → List (List Int) → List Pl → Bool → List Pl × Bool
  | _, [], out, fine => (out, fine)
  | i, o :: os, out, fine =>
    let l := lngP v b o
    allGo v b u (i + 1) os (if l.2.1 ≠ u ∨ (u = 1 ∧ i = 1 ∧ 0 < out.length) then out else addAll out l.1) (fine && l.2.2)
def allP (v : Vr) (b : Bd) (x y : Int) : List Pl × Bool := allGo v b (usedP v b (ordP x y)) 0 (ordP x y) [] true

/-! ### Boards stay boards -/
theorem at_get {l : List Int} {i : Nat} (h : i < l.length) : l[i]? = some (at_ l i) := by
  unfold at_; rw [List.getD_eq_getElem?_getD, List.getElem?_eq_getElem h]; rfl
theorem at_out {l : List Int} {i : Nat} (h : l.length ≤ i) : at_ l i = 0 := by
  unfold at_; rw [List.getD_eq_getElem?_getD, List.getElem?_eq_none h]; rfl
theorem inc_len (l : List Int) (i : Nat) (x : Int) : (inc l i x).length = l.length := by unfold inc; simp
theorem inc_at (l : List Int) (i j : Nat) (x : Int) (h : i < l.length) : at_ (inc l i x) j = if j = i then at_ l i + x else at_ l j := by
  unfold inc at_
  rw [List.getD_eq_getElem?_getD, List.getElem?_set]
  by_cases e : i = j
  · subst e; simp [h]
  · rw [if_neg e, if_neg (fun h => e h.symm), List.getD_eq_getElem?_getD]
theorem sum_set : ∀ (l : List Int) (i : Nat) (x : Int), i < l.length → (l.set i x).sum = l.sum - at_ l i + x := by
  intro l
  induction l with
  | nil => intro i x h; simp at h
  | cons y l ih =>
    intro i x h
    cases i with
    | zero => simp [at_]; omega
    | succ i =>
      have := ih i x (by simpa using h)
      simp only [List.set_cons_succ, List.sum_cons, at_, List.getD_cons_succ] at *
      omega
theorem inc_sum (l : List Int) (i : Nat) (x : Int) (h : i < l.length) : (inc l i x).sum = l.sum + x := by
  unfold inc; rw [sum_set l i _ h]; omega
theorem sum_nn : ∀ (l : List Int), (∀ i, 0 ≤ at_ l i) → 0 ≤ l.sum ∧ ∀ i, at_ l i ≤ l.sum := by
  intro l
  induction l with
  | nil => intro _; exact ⟨by simp, fun i => by simp [at_]⟩
  | cons x l ih =>
    intro h
    have h0 := h 0
    have hl := ih (fun i => by have := h (i + 1); simpa [at_] using this)
    simp only [at_, List.getD_cons_zero] at h0
    refine ⟨by simp; omega, fun i => ?_⟩
    cases i with
    | zero => simp [at_]; omega
    | succ i => have := hl.2 i; simp only [at_, List.getD_cons_succ, List.sum_cons] at *; omega
/-- A side, point by point. -/
structure Sd (v : Vr) (l : List Int) : Prop where
  len : (l.length : Int) = v.p + 1
  nn : ∀ i, 0 ≤ at_ l i
  sum : l.sum ≤ v.c
theorem okS_iff {v : Vr} {l : List Int} : okS v l = true ↔ Sd v l := by
  unfold okS
  simp only [Bool.and_eq_true, decide_eq_true_eq, List.all_eq_true]
  constructor
  · rintro ⟨⟨h1, h2⟩, h3⟩
    refine ⟨h1, fun i => ?_, h3⟩
    rcases Nat.lt_or_ge i l.length with h | h
    · exact h2 _ (List.mem_of_getElem? (at_get h))
    · rw [at_out h]; exact Int.le_refl _
  · rintro ⟨h1, h2, h3⟩
    refine ⟨⟨h1, fun x hx => ?_⟩, h3⟩
    obtain ⟨i, hi⟩ := List.getElem?_of_mem hx
    have hl := (List.getElem?_eq_some_iff.1 hi).1
    rw [at_get hl] at hi
    have := h2 i
    simp only [Option.some.injEq] at hi
    omega
theorem Sd.top {v : Vr} {l : List Int} (h : Sd v l) (i : Nat) : at_ l i ≤ v.c := by
  have := (sum_nn l h.nn).2 i
  have := h.sum
  omega
theorem Sd.sum0 {v : Vr} {l : List Int} (h : Sd v l) : 0 ≤ l.sum := (sum_nn l h.nn).1
/-- A variant, part by part. -/
theorem okV_iff {v : Vr} : okV v = true ↔ (2 ≤ v.p ∧ v.p ≤ 24) ∧ (1 ≤ v.c ∧ v.c ≤ 15) ∧ (1 ≤ v.h ∧ v.h ≤ v.p) ∧ 1 ≤ v.s ∧ v.s ≤ 6 := by
  unfold okV; exact decide_eq_true_iff
theorem apart_iff {v : Vr} {b : Bd} : ∀ k, apart v b k = true ↔ ∀ i, i < k → ¬ (0 < at_ b.1 i ∧ 0 < at_ b.2 (v.p.toNat - 1 - i)) := by
  intro k
  induction k with
  | zero => simp [apart]
  | succ k ih =>
    simp only [apart, Bool.and_eq_true, ih, Bool.not_eq_true', Bool.and_eq_false_iff, decide_eq_false_iff_not]
    constructor
    · rintro ⟨h1, h2⟩ i hi
      by_cases e : i = k
      · subst e; omega
      · exact h1 i (by omega)
    · intro h
      exact ⟨fun i hi => h i (by omega), by have := h k (by omega); omega⟩
/-- A board, part by part. -/
structure Ok (v : Vr) (b : Bd) : Prop where
  v1 : (2 ≤ v.p ∧ v.p ≤ 24) ∧ (1 ≤ v.c ∧ v.c ≤ 15) ∧ (1 ≤ v.h ∧ v.h ≤ v.p) ∧ 1 ≤ v.s ∧ v.s ≤ 6
  own : Sd v b.1
  oth : Sd v b.2
  some_ : ¬ (b.1.sum = 0 ∧ b.2.sum = 0)
  ap : ∀ i, i < v.p.toNat → ¬ (0 < at_ b.1 i ∧ 0 < at_ b.2 (v.p.toNat - 1 - i))
theorem okB_iff {v : Vr} {b : Bd} : okB v b = true ↔ Ok v b := by
  unfold okB
  simp only [Bool.and_eq_true, okV_iff, okS_iff, Bool.not_eq_true', Bool.and_eq_false_iff, decide_eq_false_iff_not, apart_iff]
  constructor
  · rintro ⟨⟨⟨⟨h1, h2⟩, h3⟩, h4⟩, h5⟩
    exact ⟨h1, h2, h3, by omega, h5⟩
  · rintro ⟨h1, h2, h3, h4, h5⟩
    exact ⟨⟨⟨⟨h1, h2⟩, h3⟩, by omega⟩, h5⟩
/-- What a step that is legal is like. -/
theorem step_parts {v : Vr} {b : Bd} {f d : Int} {s : Stp} (hf : 0 ≤ f ∧ f ≤ v.p) (hb : Ok v b) (h : stepP v b f d = some s) :
    s.1 = f ∧ s.2.2.1 = d ∧ 0 < at_ b.1 f.toNat ∧ ((0 ≤ f - d ∧ s.2.1 = f - d ∧ at_ b.2 (v.p - 1 - (f - d)).toNat ≤ 1 ∧ s.2.2.2 = decide (at_ b.2 (v.p - 1 - (f - d)).toNat = 1)) ∨ (f - d < 0 ∧ s.2.1 = -1 ∧ s.2.2.2 = false)) := by
  have hn := hb.own.nn f.toNat
  unfold stepP at h
  split at h
  · cases h
  · rename_i h1
    have h0 : 0 < at_ b.1 f.toNat := by omega
    split at h
    · split at h
      · simp only [Option.some.injEq] at h; subst h; exact ⟨rfl, rfl, h0, .inl ⟨by assumption, rfl, by assumption, rfl⟩⟩
      · cases h
    · split at h
      · cases h
      · simp only [Option.some.injEq] at h; subst h; exact ⟨rfl, rfl, h0, .inr ⟨by omega, rfl, rfl⟩⟩
/-- A legal step on a board that is not over leads to a board. -/
theorem after_ok {v : Vr} {b : Bd} {f d : Int} {s : Stp} (hf : 0 ≤ f ∧ f ≤ v.p) (hd : 1 ≤ d) (hb : Ok v b) (ho : over b = false) (h : stepP v b f d = some s) : Ok v (afterP v b s) := by
  obtain ⟨h1, h2, h3, h4⟩ := step_parts hf hb h
  obtain ⟨s1, s2, s3, s4⟩ := s
  simp only at h1 h2 h4
  subst h1 h2
  have hv := hb.v1
  have hl1 := hb.own.len
  have hl2 := hb.oth.len
  have hs1 := hb.own.sum0
  have hs2 := hb.oth.sum0
  have hq1 := hb.own.sum
  have hq2 := hb.oth.sum
  unfold over at ho
  simp only [Bool.or_eq_false_iff, decide_eq_false_iff_not] at ho
  have hfl : s1.toNat < b.1.length := by omega
  have nn1 : ∀ j, 0 ≤ at_ (inc b.1 s1.toNat (-1)) j := by
    intro j
    rw [inc_at _ _ _ _ hfl]
    split
    · omega
    · exact hb.own.nn j
  rcases h4 with ⟨k0, rfl, k1, rfl⟩ | ⟨k0, rfl, rfl⟩
  · have htl : (s1 - s3).toNat < (inc b.1 s1.toNat (-1)).length := by rw [inc_len]; omega
    have hol : (v.p - 1 - (s1 - s3)).toNat < b.2.length := by omega
    have e1 : (v.p - 1 - (s1 - s3)).toNat = v.p.toNat - 1 - (s1 - s3).toNat := by omega
    have nn0 := hb.oth.nn (v.p - 1 - (s1 - s3)).toNat
    have own_ : (afterP v b (s1, s1 - s3, s3, decide (at_ b.2 (v.p - 1 - (s1 - s3)).toNat = 1))).1 = inc (inc b.1 s1.toNat (-1)) (s1 - s3).toNat 1 := by unfold afterP; simp only [if_pos k0]
    have atO : ∀ j, at_ (inc (inc b.1 s1.toNat (-1)) (s1 - s3).toNat 1) j = (if j = (s1 - s3).toNat then at_ (inc b.1 s1.toNat (-1)) (s1 - s3).toNat + 1 else at_ (inc b.1 s1.toNat (-1)) j) := fun j => inc_at _ _ _ _ htl
    have sO : Sd v (inc (inc b.1 s1.toNat (-1)) (s1 - s3).toNat 1) := by
      refine ⟨by rw [inc_len, inc_len]; exact hl1, fun j => ?_, by rw [inc_sum _ _ _ htl, inc_sum _ _ _ hfl]; omega⟩
      rw [atO]
      split
      · have := nn1 (s1 - s3).toNat; omega
      · exact nn1 j
    have sumO : (inc (inc b.1 s1.toNat (-1)) (s1 - s3).toNat 1).sum = b.1.sum := by rw [inc_sum _ _ _ htl, inc_sum _ _ _ hfl]; omega
    by_cases hh : at_ b.2 (v.p - 1 - (s1 - s3)).toNat = 1
    · have oth_ : (afterP v b (s1, s1 - s3, s3, decide (at_ b.2 (v.p - 1 - (s1 - s3)).toNat = 1))).2 = inc (inc b.2 (v.p - 1 - (s1 - s3)).toNat (-1)) v.p.toNat 1 := by unfold afterP; simp only [hh, decide_true, if_true]
      have hpl : v.p.toNat < (inc b.2 (v.p - 1 - (s1 - s3)).toNat (-1)).length := by rw [inc_len]; omega
      have atT : ∀ j, at_ (inc (inc b.2 (v.p - 1 - (s1 - s3)).toNat (-1)) v.p.toNat 1) j = (if j = v.p.toNat then at_ (inc b.2 (v.p - 1 - (s1 - s3)).toNat (-1)) v.p.toNat + 1 else at_ (inc b.2 (v.p - 1 - (s1 - s3)).toNat (-1)) j) := fun j => inc_at _ _ _ _ hpl
      have atT1 : ∀ j, at_ (inc b.2 (v.p - 1 - (s1 - s3)).toNat (-1)) j = (if j = (v.p - 1 - (s1 - s3)).toNat then at_ b.2 (v.p - 1 - (s1 - s3)).toNat + -1 else at_ b.2 j) := fun j => inc_at _ _ _ _ hol
      have nnT : ∀ j, 0 ≤ at_ (inc b.2 (v.p - 1 - (s1 - s3)).toNat (-1)) j := by
        intro j
        rw [atT1]
        split
        · omega
        · exact hb.oth.nn j
      refine ⟨hv, ?_, ?_, ?_, ?_⟩
      · rw [own_]; exact sO
      · rw [oth_]
        refine ⟨by rw [inc_len, inc_len]; exact hl2, fun j => ?_, by rw [inc_sum _ _ _ hpl, inc_sum _ _ _ hol]; omega⟩
        rw [atT]
        split
        · have := nnT v.p.toNat; omega
        · exact nnT j
      · rw [own_, sumO]; omega
      · rw [own_, oth_]
        intro i hi
        have hni : ¬ v.p.toNat - 1 - i = v.p.toNat := by omega
        rw [atT, if_neg hni, atT1, atO]
        by_cases ei : i = (s1 - s3).toNat
        · subst ei
          rw [if_pos (by omega : v.p.toNat - 1 - (s1 - s3).toNat = (v.p - 1 - (s1 - s3)).toNat)]
          omega
        · rw [if_neg ei, if_neg (by omega : ¬ v.p.toNat - 1 - i = (v.p - 1 - (s1 - s3)).toNat), inc_at _ _ _ _ hfl]
          have := hb.ap i hi
          have h5 := hb.own.nn i
          split
          · rename_i e; subst e; omega
          · exact this
    · have oth_ : (afterP v b (s1, s1 - s3, s3, decide (at_ b.2 (v.p - 1 - (s1 - s3)).toNat = 1))).2 = b.2 := by unfold afterP; simp only [hh, decide_false, Bool.false_eq_true, if_false]
      refine ⟨hv, ?_, ?_, ?_, ?_⟩
      · rw [own_]; exact sO
      · rw [oth_]; exact hb.oth
      · rw [own_, sumO, oth_]; omega
      · rw [own_, oth_]
        intro i hi
        rw [atO]
        by_cases ei : i = (s1 - s3).toNat
        · subst ei
          rw [← e1]
          omega
        · rw [if_neg ei, inc_at _ _ _ _ hfl]
          have := hb.ap i hi
          split
          · rename_i e; subst e; omega
          · exact this
  · have own_ : (afterP v b (s1, -1, s3, false)).1 = inc b.1 s1.toNat (-1) := by unfold afterP; simp
    have oth_ : (afterP v b (s1, -1, s3, false)).2 = b.2 := by unfold afterP; simp
    refine ⟨hv, ?_, ?_, ?_, ?_⟩
    · rw [own_]; exact ⟨by rw [inc_len]; exact hl1, nn1, by rw [inc_sum _ _ _ hfl]; omega⟩
    · rw [oth_]; exact hb.oth
    · rw [oth_]; omega
    · rw [own_, oth_]
      intro i hi
      rw [inc_at _ _ _ _ hfl]
      have := hb.ap i hi
      split
      · rename_i e; subst e; omega
      · exact this
end Go.Proofs.YtlfdcefgelpgmaaGreatDoor.PlP

set_option linter.unusedVariables false
set_option linter.unusedSimpArgs false
namespace Go.Proofs.YtlfdcefgelpgmaaGreatDoor.PlP

/-! ### Legal steps -/
theorem lgU_mem {v : Vr} {b : Bd} {d : Int} {s : Stp} : ∀ k, s ∈ lgU v b d k → ∃ j, j < k ∧ stepP v b (v.p - (j : Int)) d = some s := by
  intro k
  induction k with
  | zero => intro h; simp [lgU] at h
  | succ k ih =>
    intro h
    simp only [lgU, List.mem_append] at h
    rcases h with h | h
    · obtain ⟨j, h1, h2⟩ := ih h
      exact ⟨j, by omega, h2⟩
    · refine ⟨k, by omega, ?_⟩
      cases e : stepP v b (v.p - (k : Int)) d with
      | none => rw [e] at h; simp at h
      | some t => rw [e] at h; simp at h; rw [h]
theorem legal_mem {v : Vr} {b : Bd} {d : Int} {s : Stp} (hv : 0 ≤ v.p) (h : s ∈ legalP v b d) : over b = false ∧ ∃ f, (0 ≤ f ∧ f ≤ v.p) ∧ stepP v b f d = some s := by
  unfold legalP at h
  split at h
  · simp at h
  · rename_i ho
    obtain ⟨j, h1, h2⟩ := lgU_mem _ h
    exact ⟨by simpa using ho, v.p - (j : Int), by omega, h2⟩
theorem legal_ok {v : Vr} {b : Bd} {d : Int} {s : Stp} (hd : 1 ≤ d) (hb : Ok v b) (h : s ∈ legalP v b d) : Ok v (afterP v b s) := by
  obtain ⟨h1, f, h2, h3⟩ := legal_mem (by have := hb.v1; omega) h
  exact after_ok h2 hd hb h1 h3
theorem lgU_len (v : Vr) (b : Bd) (d : Int) : ∀ k, (lgU v b d k).length ≤ k := by
  intro k
  induction k with
  | zero => simp [lgU]
  | succ k ih =>
    simp only [lgU, List.length_append]
    have : ((stepP v b (v.p - (k : Int)) d).toList).length ≤ 1 := by cases stepP v b (v.p - (k : Int)) d <;> simp
    omega
theorem legal_len (v : Vr) (b : Bd) (d : Int) : (legalP v b d).length ≤ v.p.toNat + 1 := by
  unfold legalP
  split
  · simp
  · exact lgU_len v b d _

/-! ### Collecting -/
theorem addOne_len (out : List Pl) (p : Pl) : (addOne out p).length ≤ out.length + 1 := by unfold addOne; split <;> simp
theorem addOne_mem {out : List Pl} {p q : Pl} (h : q ∈ addOne out p) : q ∈ out ∨ q = p := by
  unfold addOne at h
  split at h
  · exact .inl h
  · simpa using h
theorem addOne_pos {out : List Pl} {p : Pl} : 0 < (addOne out p).length := by
  unfold addOne
  split
  · rename_i h
    unfold hasB at h
    cases out with
    | nil => simp at h
    | cons x l => simp
  · simp
theorem addOne_keep {out : List Pl} {p q : Pl} (h : q ∈ out) : q ∈ addOne out p := by
  unfold addOne; split
  · exact h
  · simp [h]
theorem nxIn_len (v : Vr) (p : Pl) : ∀ (ss : List Stp) (out : List Pl), (nxIn v p ss out).length ≤ out.length + ss.length := by
  intro ss
  induction ss with
  | nil => intro out; simp [nxIn]
  | cons s ss ih =>
    intro out
    have h1 := ih (addOne out (p.1 ++ [s], afterP v p.2 s))
    have h2 := addOne_len out (p.1 ++ [s], afterP v p.2 s)
    simp only [nxIn, List.foldl_cons, List.length_cons] at *
    omega
theorem nxIn_mem {v : Vr} {p q : Pl} : ∀ (ss : List Stp) (out : List Pl), q ∈ nxIn v p ss out → q ∈ out ∨ ∃ s ∈ ss, q = (p.1 ++ [s], afterP v p.2 s) := by
  intro ss
  induction ss with
  | nil => intro out h; exact .inl h
  | cons s ss ih =>
    intro out h
    rcases ih _ h with h | ⟨t, ht, h⟩
    · rcases addOne_mem h with h | h
      · exact .inl h
      · exact .inr ⟨s, List.mem_cons_self .., h⟩
    · exact .inr ⟨t, List.mem_cons_of_mem _ ht, h⟩
/-- The fold of nextP, begun anywhere. -/
def nxGo (v : Vr) (d : Int) (ps : List Pl) (out : List Pl) : List Pl := ps.foldl (fun o p => nxIn v p (legalP v p.2 d) o) out
theorem nxGo_len (v : Vr) (d : Int) : ∀ (ps out : List Pl), (nxGo v d ps out).length ≤ out.length + ps.length * (v.p.toNat + 1) := by
  intro ps
  induction ps with
  | nil => intro out; simp [nxGo]
  | cons p ps ih =>
    intro out
    have h1 := ih (nxIn v p (legalP v p.2 d) out)
    have h2 := nxIn_len v p (legalP v p.2 d) out
    have h3 := legal_len v p.2 d
    simp only [nxGo, List.foldl_cons, List.length_cons, Nat.add_mul, Nat.one_mul] at *
    omega
theorem nxGo_mem {v : Vr} {d : Int} {q : Pl} : ∀ (ps out : List Pl), q ∈ nxGo v d ps out → q ∈ out ∨ ∃ p ∈ ps, ∃ s ∈ legalP v p.2 d, q = (p.1 ++ [s], afterP v p.2 s) := by
  intro ps
  induction ps with
  | nil => intro out h; exact .inl h
  | cons p ps ih =>
    intro out h
    rcases ih _ h with h | ⟨r, hr, h⟩
    · rcases nxIn_mem _ _ h with h | ⟨s, hs, h⟩
      · exact .inl h
      · exact .inr ⟨p, List.mem_cons_self .., s, hs, h⟩
    · exact .inr ⟨r, List.mem_cons_of_mem _ hr, h⟩
/-- The plays of a row: boards, and so many steps. -/
def RowOk (v : Vr) (k : Nat) (ps : List Pl) : Prop := ∀ p ∈ ps, Ok v p.2 ∧ p.1.length = k
theorem next_ok {v : Vr} {d : Int} {ps : List Pl} {k : Nat} (hd : 1 ≤ d) (h : RowOk v k ps) : RowOk v (k + 1) (nextP v d ps) := by
  intro q hq
  rcases nxGo_mem ps [] hq with h' | ⟨p, hp, s, hs, rfl⟩
  · simp at h'
  · exact ⟨legal_ok hd (h p hp).1 hs, by simp [(h p hp).2]⟩
theorem next_len {v : Vr} {d : Int} {ps : List Pl} : (nextP v d ps).length ≤ ps.length * (v.p.toNat + 1) := by
  have := nxGo_len v d ps []
  show (nxGo v d ps []).length ≤ _
  simpa using this

/-! ### Rows -/
theorem rows_lng (v : Vr) : ∀ (ds : List Int) (rows : List (List Pl)) (fine : Bool), rows ≠ [] →
    lngGo v ds (rows.getLastD []) (rows.length - 1) fine = ((rowsGo v ds rows fine).1.getLastD [], (rowsGo v ds rows fine).1.length - 1, (rowsGo v ds rows fine).2) ∧ (rowsGo v ds rows fine).1 ≠ [] := by
  intro ds
  induction ds with
  | nil => intro rows fine h; exact ⟨rfl, h⟩
  | cons d ds ih =>
    intro rows fine h
    have hl : 1 ≤ rows.length := by cases rows with | nil => exact absurd rfl h | cons x l => simp
    simp only [lngGo, rowsGo]
    split
    · rename_i h0
      refine ⟨?_, h⟩
      simp only [Prod.mk.injEq, true_and]
      rw [h0]; simp
    · have := ih (rows ++ [nextP v d (rows.getLastD [])]) (fine && decide ((nextP v d (rows.getLastD [])).length ≤ 3000)) (by simp)
      have e1 : (rows ++ [nextP v d (rows.getLastD [])]).getLastD [] = nextP v d (rows.getLastD []) := by simp
      have e2 : (rows ++ [nextP v d (rows.getLastD [])]).length - 1 = rows.length - 1 + 1 := by simp; omega
      rw [e1, e2] at this
      exact this
theorem lng_rows (v : Vr) (b : Bd) (ds : List Int) : lngP v b ds = ((rowsP v b ds).1.getLastD [], (rowsP v b ds).1.length - 1, (rowsP v b ds).2) ∧ (rowsP v b ds).1 ≠ [] :=
  rows_lng v ds [[([], b)]] true (by simp)
/-- The last row has plays; they are boards with so many steps. -/
theorem lng_ok {v : Vr} : ∀ (ds : List Int) (ps : List Pl) (k : Nat) (fine : Bool), (∀ d ∈ ds, 1 ≤ d) → RowOk v k ps → 0 < ps.length →
    RowOk v (lngGo v ds ps k fine).2.1 (lngGo v ds ps k fine).1 ∧ 0 < (lngGo v ds ps k fine).1.length ∧ (lngGo v ds ps k fine).2.1 ≤ k + ds.length := by
  intro ds
  induction ds with
  | nil => intro ps k fine _ h h0; exact ⟨h, h0, Nat.le_refl _⟩
  | cons d ds ih =>
    intro ps k fine hd h h0
    simp only [lngGo]
    split
    · exact ⟨h, h0, by simp⟩
    · rename_i h1
      have := ih (nextP v d ps) (k + 1) (fine && decide ((nextP v d ps).length ≤ 3000)) (fun x hx => hd x (List.mem_cons_of_mem _ hx)) (next_ok (hd d (List.mem_cons_self ..)) h) (by omega)
      refine ⟨this.1, this.2.1, ?_⟩
      simp only [List.length_cons]; omega
/-- In a small variant every row fits. -/
theorem lng_fine {v : Vr} (hv : v.p.toNat + 1 ≤ 7) : ∀ (ds : List Int) (ps : List Pl) (k m : Nat), ps.length ≤ m → m * 7 ^ ds.length ≤ 3000 → (lngGo v ds ps k true).2.2 = true := by
  intro ds
  induction ds with
  | nil => intro ps k m _ _; rfl
  | cons d ds ih =>
    intro ps k m hm h7
    have hn := next_len (v := v) (d := d) (ps := ps)
    have h1 : (nextP v d ps).length ≤ m * 7 := Nat.le_trans hn (Nat.mul_le_mul hm hv)
    have e : m * 7 ^ (ds.length + 1) = m * 7 * 7 ^ ds.length := by rw [Nat.pow_succ, Nat.mul_comm (7 ^ ds.length) 7, ← Nat.mul_assoc]
    rw [List.length_cons, e] at h7
    have hp : 1 ≤ 7 ^ ds.length := Nat.one_le_pow _ _ (by omega)
    have h3 : m * 7 ≤ 3000 := Nat.le_trans (Nat.le_mul_of_pos_right _ hp) h7
    have hf : decide ((nextP v d ps).length ≤ 3000) = true := decide_eq_true (by omega)
    simp only [lngGo, hf, Bool.and_true]
    split
    · rfl
    · exact ih _ _ (m * 7) h1 h7

/-! ### All plays, as the program collects them -/
def usedR (all : List (List (List Pl))) (m : Nat) : Nat := all.foldl (fun m rows => max m (rows.length - 1)) m
def implGo (n : Nat) : List (List (List Pl)) → List Pl → List Pl
  | [], out => out
  | rows :: rest, out => if rows.length ≤ n then implGo n rest out else if n = 1 then addAll out (rows.getD n []) else implGo n rest (addAll out (rows.getD n []))
def allI (v : Vr) (b : Bd) (x y : Int) : List Pl × Bool :=
  let all := (ordP x y).map (rowsP v b)
  if (all.all fun r => r.2) then
    (if usedR (all.map fun r => r.1) 0 = 0 then ([([], b)], true) else (implGo (usedR (all.map fun r => r.1) 0) (all.map fun r => r.1) [], true))
  else ([], false)
theorem addAll_pos {ps out : List Pl} (h : 0 < ps.length) : 0 < (addAll out ps).length := by
  have key : ∀ (ps out : List Pl), 0 < out.length → 0 < (addAll out ps).length := by
    intro ps
    induction ps with
    | nil => intro out h; exact h
    | cons p ps ih => intro out h; exact ih _ addOne_pos
  cases ps with
  | nil => simp at h
  | cons p ps => exact key ps (addOne out p) addOne_pos
theorem addAll_mem {q : Pl} : ∀ (ps out : List Pl), q ∈ addAll out ps → q ∈ out ∨ q ∈ ps := by
  intro ps
  induction ps with
  | nil => intro out h; exact .inl h
  | cons p ps ih =>
    intro out h
    rcases ih _ h with h | h
    · rcases addOne_mem h with h | h
      · exact .inl h
      · exact .inr (by rw [h]; exact List.mem_cons_self ..)
    · exact .inr (List.mem_cons_of_mem _ h)
theorem last_at {rows : List (List Pl)} (h : rows ≠ []) : rows.getLastD [] = rows.getD (rows.length - 1) [] := by
  rw [List.getLastD_eq_getLast?, List.getLast?_eq_getElem?, List.getD_eq_getElem?_getD]
theorem lng_ge (v : Vr) : ∀ (ds : List Int) (ps : List Pl) (k : Nat) (fine : Bool), k ≤ (lngGo v ds ps k fine).2.1 ∧ ((lngGo v ds ps k fine).2.1 = k → (lngGo v ds ps k fine).1 = ps) := by
  intro ds
  induction ds with
  | nil => intro ps k fine; exact ⟨Nat.le_refl _, fun _ => rfl⟩
  | cons d ds ih =>
    intro ps k fine
    simp only [lngGo]
    split
    · exact ⟨Nat.le_refl _, fun _ => rfl⟩
    · have := ih (nextP v d ps) (k + 1) (fine && decide ((nextP v d ps).length ≤ 3000))
      exact ⟨by omega, fun h => by omega⟩
theorem lng_zero (v : Vr) (b : Bd) (ds : List Int) : (lngP v b ds).2.1 = 0 → (lngP v b ds).1 = [([], b)] := (lng_ge v ds [([], b)] 0 true).2
theorem all_two (v : Vr) (b : Bd) (o1 o2 : List Int) (hd1 : ∀ d ∈ o1, 1 ≤ d) (hb : Ok v b) (h1 : (lngP v b o1).2.2 = true) (h2 : (lngP v b o2).2.2 = true) :
    (if usedR [(rowsP v b o1).1, (rowsP v b o2).1] 0 = 0 then ([([], b)], true) else (implGo (usedR [(rowsP v b o1).1, (rowsP v b o2).1] 0) [(rowsP v b o1).1, (rowsP v b o2).1] [], true)) = allGo v b (usedP v b [o1, o2]) 0 [o1, o2] [] true := by
  obtain ⟨e1, q1⟩ := lng_rows v b o1
  obtain ⟨e2, q2⟩ := lng_rows v b o2
  have p1 := (lng_ok (v := v) o1 [([], b)] 0 true hd1 (by intro p hp; simp at hp; subst hp; exact ⟨hb, rfl⟩) (by simp)).2.1
  have z1 := lng_zero v b o1
  have z2 := lng_zero v b o2
  have g1 := last_at q1
  have g2 := last_at q2
  have hl1 : 1 ≤ (rowsP v b o1).1.length := by cases hr : (rowsP v b o1).1 with | nil => exact absurd hr q1 | cons x l => simp
  have hl2 : 1 ≤ (rowsP v b o2).1.length := by cases hr : (rowsP v b o2).1 with | nil => exact absurd hr q2 | cons x l => simp
  rw [show lngGo v o1 [([], b)] 0 true = lngP v b o1 from rfl] at p1
  rw [e1] at p1 z1 h1
  rw [e2] at z2 h2
  rw [g1] at p1 z1
  rw [g2] at z2
  simp only at p1 z1 z2 h1 h2
  have eu : usedP v b [o1, o2] = max ((rowsP v b o1).1.length - 1) (max ((rowsP v b o2).1.length - 1) 0) := by simp only [usedP, e1, e2]
  have er : usedR [(rowsP v b o1).1, (rowsP v b o2).1] 0 = max (max 0 ((rowsP v b o1).1.length - 1)) ((rowsP v b o2).1.length - 1) := rfl
  simp only [allGo, e1, e2, eu, er, h1, h2, g1, g2, Bool.and_true, implGo]
  generalize (rowsP v b o1).1 = r1 at *
  generalize (rowsP v b o2).1 = r2 at *
  obtain ⟨n1, hn1⟩ : ∃ n1, r1.length = n1 + 1 := ⟨r1.length - 1, by omega⟩
  obtain ⟨n2, hn2⟩ : ∃ n2, r2.length = n2 + 1 := ⟨r2.length - 1, by omega⟩
  rw [hn1, Nat.add_sub_cancel] at z1 p1
  rw [hn2, Nat.add_sub_cancel] at z2
  simp only [hn1, hn2, Nat.add_sub_cancel]
  have hA : addAll [] (r1.getD n1 []) ≠ [] := fun h => by have := addAll_pos (out := []) p1; rw [h] at this; simp at this
  rw [List.getD_eq_getElem?_getD] at hA
  have i1 : ¬ n1 + 1 ≤ n1 := by omega
  have i2 : ¬ n2 + 1 ≤ n2 := by omega
  by_cases hu : n1 = 0 ∧ n2 = 0
  · obtain ⟨rfl, rfl⟩ := hu
    rw [z1 rfl, z2 rfl]
    simp [addAll, addOne, hasB]
  · by_cases c1 : n2 ≤ n1
    · have m1 : max (max 0 n1) n2 = n1 := by omega
      have m2 : max n1 (max n2 0) = n1 := by omega
      have hn0 : ¬ n1 = 0 := by omega
      rw [m1, m2]
      by_cases c2 : n1 = 1
      · subst c2
        simp [hA, i1]
      · by_cases c3 : n2 = n1
        · subst c3
          simp [hn0, c2, i1]
        · have c4 : n2 + 1 ≤ n1 := by omega
          simp [hn0, c2, c3, c4, i1]
    · have m1 : max (max 0 n1) n2 = n2 := by omega
      have m2 : max n1 (max n2 0) = n2 := by omega
      have hn0 : ¬ n2 = 0 := by omega
      have c3 : ¬ n1 = n2 := by omega
      have c4 : n1 + 1 ≤ n2 := by omega
      rw [m1, m2]
      simp [hn0, c3, c4, i2]
theorem all_one (v : Vr) (b : Bd) (o1 : List Int) (h1 : (lngP v b o1).2.2 = true) :
    (if usedR [(rowsP v b o1).1] 0 = 0 then ([([], b)], true) else (implGo (usedR [(rowsP v b o1).1] 0) [(rowsP v b o1).1] [], true)) = allGo v b (usedP v b [o1]) 0 [o1] [] true := by
  obtain ⟨e1, q1⟩ := lng_rows v b o1
  have z1 := lng_zero v b o1
  have g1 := last_at q1
  have hl1 : 1 ≤ (rowsP v b o1).1.length := by cases hr : (rowsP v b o1).1 with | nil => exact absurd hr q1 | cons x l => simp
  rw [e1] at z1 h1
  rw [g1] at z1
  simp only at z1 h1
  have eu : usedP v b [o1] = max ((rowsP v b o1).1.length - 1) 0 := by simp only [usedP, e1]
  have er : usedR [(rowsP v b o1).1] 0 = max 0 ((rowsP v b o1).1.length - 1) := rfl
  simp only [allGo, e1, eu, er, h1, g1, Bool.and_true, implGo]
  generalize (rowsP v b o1).1 = r1 at *
  obtain ⟨n1, hn1⟩ : ∃ n1, r1.length = n1 + 1 := ⟨r1.length - 1, by omega⟩
  rw [hn1, Nat.add_sub_cancel] at z1
  simp only [hn1, Nat.add_sub_cancel]
  have m1 : max 0 n1 = n1 := by omega
  have m2 : max n1 0 = n1 := by omega
  rw [m1, m2]
  by_cases hu : n1 = 0
  · subst hu
    rw [z1 rfl]
    simp [addAll, addOne, hasB]
  · have i1 : ¬ n1 + 1 ≤ n1 := by omega
    simp [hu, i1]
/-- **Where all rows fit, the program's plays are the reference's.** -/
theorem allI_eq {v : Vr} {b : Bd} {x y : Int} (hb : Ok v b) (hx : 1 ≤ x) (hy : 1 ≤ y) (hf : ∀ o ∈ ordP x y, (lngP v b o).2.2 = true) : allI v b x y = allP v b x y := by
  unfold allI allP
  have hr : ∀ o ∈ ordP x y, (rowsP v b o).2 = true := fun o ho => by
    have := hf o ho
    rw [(lng_rows v b o).1] at this
    exact this
  by_cases e : x = y
  · have eo : ordP x y = [[x, x, x, x]] := by unfold ordP; rw [if_pos e]
    rw [eo] at hr hf ⊢
    have h1 := hr _ (List.mem_cons_self ..)
    simp only [List.map_cons, List.map_nil, List.all_cons, List.all_nil, h1, Bool.and_true, if_true]
    exact all_one v b _ (hf _ (List.mem_cons_self ..))
  · have eo : ordP x y = [[x, y], [y, x]] := by unfold ordP; rw [if_neg e]
    rw [eo] at hr hf ⊢
    have h1 := hr _ (List.mem_cons_self ..)
    have h2 := hr [y, x] (by simp)
    simp only [List.map_cons, List.map_nil, List.all_cons, List.all_nil, h1, h2, Bool.and_true, Bool.and_self, if_true]
    exact all_two v b _ _ (by intro d hd; simp at hd; omega) hb (hf _ (List.mem_cons_self ..)) (hf _ (by simp))
/-- In a small variant all rows fit. -/
theorem fits_small {v : Vr} {b : Bd} {x y : Int} (hv : v.p ≤ 6) : ∀ o ∈ ordP x y, (lngP v b o).2.2 = true := by
  intro o ho
  refine lng_fine (by omega) o [([], b)] 0 1 (by simp) ?_
  unfold ordP at ho
  split at ho
  · simp at ho; subst ho; simp
  · simp at ho; rcases ho with rfl | rfl <;> simp
/-- The plays are boards, at least one. -/
theorem allP_ok {v : Vr} {b : Bd} {x y : Int} (hb : Ok v b) (hx : 1 ≤ x) (hy : 1 ≤ y) : (∀ p ∈ (allP v b x y).1, Ok v p.2 ∧ p.1.length ≤ 4) ∧ 0 < (allP v b x y).1.length := by
  have hl : ∀ o ∈ ordP x y, (∀ p ∈ (lngP v b o).1, Ok v p.2 ∧ p.1.length ≤ 4) ∧ 0 < (lngP v b o).1.length := by
    intro o ho
    have ho4 : o.length ≤ 4 ∧ ∀ d ∈ o, 1 ≤ d := by
      unfold ordP at ho
      split at ho
      · simp at ho; subst ho; exact ⟨by simp, by intro d hd; simp at hd; omega⟩
      · simp at ho; rcases ho with rfl | rfl <;> exact ⟨by simp, by intro d hd; simp at hd; omega⟩
    have := lng_ok (v := v) o [([], b)] 0 true ho4.2 (by intro p hp; simp at hp; subst hp; exact ⟨hb, rfl⟩) (by simp)
    refine ⟨fun p hp => ?_, this.2.1⟩
    have h1 := this.1 p hp
    refine ⟨h1.1, ?_⟩
    have := this.2.2
    have := ho4.1
    rw [h1.2]; omega
  have gen : ∀ (u : Nat) (os : List (List Int)) (i : Nat) (out : List Pl) (fine : Bool), (∀ o ∈ os, o ∈ ordP x y) → (∀ p ∈ out, Ok v p.2 ∧ p.1.length ≤ 4) →
      (∀ p ∈ (allGo v b u i os out fine).1, Ok v p.2 ∧ p.1.length ≤ 4) ∧ (0 < out.length → 0 < (allGo v b u i os out fine).1.length) := by
    intro u os
    induction os with
    | nil => intro i out fine _ ho; exact ⟨ho, fun h => h⟩
    | cons o os ih =>
      intro i out fine hos ho
      have h1 := hl o (hos o (List.mem_cons_self ..))
      simp only [allGo]
      split
      · exact ih _ _ _ (fun q hq => hos q (List.mem_cons_of_mem _ hq)) ho
      · have := ih (i + 1) (addAll out (lngP v b o).1) (fine && (lngP v b o).2.2) (fun q hq => hos q (List.mem_cons_of_mem _ hq)) (fun p hp => by
          rcases addAll_mem _ _ hp with h | h
          · exact ho p h
          · exact h1.1 p h)
        exact ⟨this.1, fun _ => this.2 (addAll_pos h1.2)⟩
  refine ⟨(gen _ _ 0 [] true (fun o ho => ho) (by simp)).1, ?_⟩
  -- some order is of the greatest length
  unfold allP
  by_cases e : x = y
  · have eo : ordP x y = [[x, x, x, x]] := by unfold ordP; rw [if_pos e]
    rw [eo]
    have h1 := hl [x, x, x, x] (by rw [eo]; simp)
    simp only [allGo, usedP]
    simp
    exact addAll_pos h1.2
  · have eo : ordP x y = [[x, y], [y, x]] := by unfold ordP; rw [if_neg e]
    rw [eo]
    have h1 := hl [x, y] (by rw [eo]; simp)
    have h2 := hl [y, x] (by rw [eo]; simp)
    have k1 : ∀ out, addAll out (lngP v b [x, y]).1 ≠ [] := fun out h => by have := addAll_pos (out := out) h1.2; rw [h] at this; simp at this
    have k2 : ∀ out, addAll out (lngP v b [y, x]).1 ≠ [] := fun out h => by have := addAll_pos (out := out) h2.2; rw [h] at this; simp at this
    simp only [allGo, usedP]
    obtain ⟨n1, hn1⟩ : ∃ n1, (lngP v b [x, y]).2.1 = n1 := ⟨_, rfl⟩
    obtain ⟨n2, hn2⟩ : ∃ n2, (lngP v b [y, x]).2.1 = n2 := ⟨_, rfl⟩
    simp only [hn1, hn2]
    refine List.length_pos_iff.2 ?_
    by_cases c1 : n2 ≤ n1
    · have m2 : max n1 (max n2 0) = n1 := by omega
      rw [m2]
      simp only [ne_eq, not_true_eq_false, false_or]
      rw [if_neg (by simp : ¬ (n1 = 1 ∧ 0 = 1 ∧ 0 < ([] : List Pl).length))]
      split
      · exact k1 _
      · exact k2 _
    · have m2 : max n1 (max n2 0) = n2 := by omega
      have c3 : n1 ≠ n2 := by omega
      rw [m2]
      simp [c3, k2]

/-! ### Values -/
def pipU (l : List Int) : Nat → Int
  | 0 => 0
  | k + 1 => pipU l k + ((k : Int) + 1) * at_ l k
def pipP (l : List Int) : Int := pipU l l.length
def est (v : Vr) (b : Bd) : Int :=
  if b.1.sum = 0 then 1000000 else if b.2.sum = 0 then 0
  else max 1 (min 999999 (500000 + (1000000 * (pipP b.2 - pipP b.1 + v.s)) / (pipP b.1 + pipP b.2 + v.s)))
def rollsP : Nat → List (Int × Int)
  | 0 => []
  | a + 1 => rollsP a ++ (List.range (a + 1)).map fun b => (((a + 1 : Nat) : Int), ((b + 1 : Nat) : Int))
def wtP (r : Int × Int) : Int := if r.1 = r.2 then 1 else 2
/-- The greatest of the first k + 1 numbers. -/
def grU (l : List Int) : Nat → Int
  | 0 => at_ l 0
  | k + 1 => max (grU l k) (at_ l (k + 1))
def grt (l : List Int) : Int := grU l (l.length - 1)
/-- The first place of the greatest of the first k + 1 numbers. -/
def fgU (l : List Int) : Nat → Nat
  | 0 => 0
  | k + 1 => if at_ l (fgU l k) < at_ l (k + 1) then k + 1 else fgU l k
def fgP (l : List Int) : Nat := fgU l (l.length - 1)
theorem fg_gr (l : List Int) : ∀ k, at_ l (fgU l k) = grU l k ∧ fgU l k ≤ k := by
  intro k
  induction k with
  | zero => exact ⟨rfl, Nat.le_refl _⟩
  | succ k ih =>
    simp only [fgU, grU]
    split
    · exact ⟨by omega, Nat.le_refl _⟩
    · exact ⟨by omega, by omega⟩
theorem gr_bd {l : List Int} {a z : Int} (h : ∀ x ∈ l, a ≤ x ∧ x ≤ z) : ∀ k, k < l.length → a ≤ grU l k ∧ grU l k ≤ z := by
  intro k
  induction k with
  | zero => intro hk; exact h _ (List.mem_of_getElem? (at_get hk))
  | succ k ih =>
    intro hk
    have h1 := ih (by omega)
    have h2 := h _ (List.mem_of_getElem? (at_get hk))
    simp only [grU]
    omega
def swp (b : Bd) : Bd := (b.2, b.1)
/-- The value of a board for a depth. -/
def valP (v : Vr) : Nat → Bd → Int
  | 0, b => est v b
  | d + 1, b => if over b then est v b else ((rollsP v.s.toNat).map fun r => wtP r * grt ((allP v b r.1 r.2).1.map fun p => 1000000 - valP v d (swp p.2))).sum / (v.s * v.s)
def plsP (v : Vr) (d : Nat) (b : Bd) (x y : Int) : List Int := (allP v b x y).1.map fun p => 1000000 - valP v d (swp p.2)
theorem swp_ok {v : Vr} {b : Bd} (h : Ok v b) : Ok v (swp b) := by
  refine ⟨h.v1, h.oth, h.own, fun hh => h.some_ ⟨hh.2, hh.1⟩, fun i hi hh => ?_⟩
  have := h.ap (v.p.toNat - 1 - i) (by omega)
  rw [show v.p.toNat - 1 - (v.p.toNat - 1 - i) = i from by omega] at this
  exact this ⟨hh.2, hh.1⟩
theorem est_bd (v : Vr) (b : Bd) : 0 ≤ est v b ∧ est v b ≤ 1000000 := by
  unfold est
  split
  · omega
  · split
    · omega
    · omega
theorem rolls_mem {s : Nat} {r : Int × Int} (h : r ∈ rollsP s) : (1 ≤ r.1 ∧ r.1 ≤ s) ∧ 1 ≤ r.2 ∧ r.2 ≤ r.1 := by
  induction s with
  | zero => simp [rollsP] at h
  | succ s ih =>
    simp only [rollsP, List.mem_append, List.mem_map, List.mem_range] at h
    rcases h with h | ⟨b, hb, rfl⟩
    · have := ih h; omega
    · simp only; omega
/-- A weighted sum of numbers up to a million. -/
theorem wsum_bd (f : Int × Int → Int) : ∀ (l : List (Int × Int)), (∀ r ∈ l, 0 ≤ f r ∧ f r ≤ 1000000) → 0 ≤ (l.map fun r => wtP r * f r).sum ∧ (l.map fun r => wtP r * f r).sum ≤ 1000000 * (l.map wtP).sum := by
  intro l
  induction l with
  | nil => intro _; simp
  | cons r l ih =>
    intro h
    have h1 := ih (fun q hq => h q (List.mem_cons_of_mem _ hq))
    have h2 := h r (List.mem_cons_self ..)
    simp only [List.map_cons, List.sum_cons]
    have hw : 0 ≤ wtP r * f r ∧ wtP r * f r ≤ 1000000 * wtP r := by unfold wtP; split <;> omega
    omega
theorem wt_sum {s : Int} (h1 : 1 ≤ s) (h6 : s ≤ 6) : ((rollsP s.toNat).map wtP).sum = s * s := by
  have : s = 1 ∨ s = 2 ∨ s = 3 ∨ s = 4 ∨ s = 5 ∨ s = 6 := by omega
  rcases this with rfl | rfl | rfl | rfl | rfl | rfl <;> decide
theorem val_bd {v : Vr} : ∀ (d : Nat) (b : Bd), Ok v b → 0 ≤ valP v d b ∧ valP v d b ≤ 1000000 := by
  intro d
  induction d with
  | zero => intro b _; exact est_bd v b
  | succ d ih =>
    intro b hb
    simp only [valP]
    split
    · exact est_bd v b
    · have hv := hb.v1
      have hm := wsum_bd (fun r => grt ((allP v b r.1 r.2).1.map fun p => 1000000 - valP v d (swp p.2))) (rollsP v.s.toNat) (fun r hr => by
        have h1 := rolls_mem hr
        have h2 := allP_ok (x := r.1) (y := r.2) hb (by omega) (by omega)
        refine gr_bd (fun x hx => ?_) _ (by rw [List.length_map]; have := h2.2; omega)
        obtain ⟨p, hp, rfl⟩ := List.mem_map.1 hx
        have := ih _ (swp_ok (h2.1 p hp).1)
        omega)
      rw [wt_sum (by omega) (by omega)] at hm
      have hs : 0 < v.s * v.s := Int.mul_pos (by omega) (by omega)
      exact ⟨Int.ediv_nonneg hm.1 (by omega), by
        refine Int.le_of_lt_add_one (Int.ediv_lt_of_lt_mul hs ?_)
        have : (1000000 + 1) * (v.s * v.s) = 1000000 * (v.s * v.s) + v.s * v.s := by rw [Int.add_mul, Int.one_mul]
        omega⟩
theorem pls_bd {v : Vr} {d : Nat} {b : Bd} {x y : Int} (hb : Ok v b) (hx : 1 ≤ x) (hy : 1 ≤ y) : (∀ z ∈ plsP v d b x y, 0 ≤ z ∧ z ≤ 1000000) ∧ 0 < (plsP v d b x y).length := by
  have h2 := allP_ok (x := x) (y := y) hb hx hy
  refine ⟨fun z hz => ?_, by unfold plsP; rw [List.length_map]; exact h2.2⟩
  obtain ⟨p, hp, rfl⟩ := List.mem_map.1 hz
  have := val_bd d _ (swp_ok (h2.1 p hp).1)
  omega
end Go.Proofs.YtlfdcefgelpgmaaGreatDoor.PlP

set_option linter.unusedVariables false
set_option linter.unusedSimpArgs false
namespace Go.Proofs.YtlfdcefgelpgmaaGreatDoor.PlP

/-- The program's text of a board. -/
def keyP (b : Bd) : List UInt8 := (b.1 ++ b.2).map fun n => UInt8.ofNat n.toNat
theorem list_ext {l m : List Int} (hl : l.length = m.length) (h : ∀ i, i < l.length → at_ l i = at_ m i) : l = m := by
  refine List.ext_getElem? fun i => ?_
  rcases Nat.lt_or_ge i l.length with hi | hi
  · rw [at_get hi, at_get (by omega), h i hi]
  · rw [List.getElem?_eq_none hi, List.getElem?_eq_none (by omega)]
theorem key_side {v : Vr} {l m : List Int} (hl : Sd v l) (hm : Sd v m) (hc : v.c ≤ 15) (h : l.map (fun n : Int => UInt8.ofNat n.toNat) = m.map (fun n : Int => UInt8.ofNat n.toNat)) : l = m := by
  have h1 := hl.len
  have h2 := hm.len
  refine list_ext (by omega) fun i hi => ?_
  have h3 := congrArg (fun l => l[i]?) h
  simp only [List.getElem?_map] at h3
  rw [at_get hi, at_get (by omega : i < m.length)] at h3
  simp only [Option.map_some, Option.some.injEq] at h3
  have a0 := hl.nn i
  have a1 := hl.top i
  have b0 := hm.nn i
  have b1 := hm.top i
  have h4 := congrArg UInt8.toNat h3
  rw [UInt8.toNat_ofNat_of_lt' (by show _ < 256; omega), UInt8.toNat_ofNat_of_lt' (by show _ < 256; omega)] at h4
  omega
theorem key_inj {v : Vr} {a b : Bd} (ha : Ok v a) (hb : Ok v b) (h : keyP a = keyP b) : a = b := by
  unfold keyP at h
  have h1 := ha.own.len
  have h2 := hb.own.len
  have hc := ha.v1
  rw [List.map_append, List.map_append] at h
  have := List.append_inj h (by simp; omega)
  exact Prod.ext (key_side ha.own hb.own (by omega) this.1) (key_side ha.oth hb.oth (by omega) this.2)
theorem has_key {v : Vr} {out : List Pl} {b : Bd} (ho : ∀ q ∈ out, Ok v q.2) (hb : Ok v b) : decide (keyP b ∈ out.map fun q => keyP q.2) = hasB out b := by
  unfold hasB
  cases h : out.any fun q => decide (q.2 = b) with
  | true =>
    obtain ⟨q, hq, he⟩ := List.any_eq_true.1 h
    have he := of_decide_eq_true he
    refine decide_eq_true (List.mem_map.2 ⟨q, hq, by rw [he]⟩)
  | false =>
    refine decide_eq_false fun hm => ?_
    obtain ⟨q, hq, he⟩ := List.mem_map.1 hm
    have := key_inj (ho q hq) hb he
    have h2 := List.any_eq_false.1 h q hq
    exact h2 (decide_eq_true this)

/-- The program's floor division. -/
theorem floor_eq {x y : Int} (hy : 0 < y) : (if x.tmod y < 0 then x.tdiv y - 1 else x.tdiv y) = x / y := by
  have h1 := Int.tmod_add_mul_tdiv x y
  have hlt := Int.tmod_lt_of_pos x hy
  generalize x.tdiv y = q at *
  by_cases h : x.tmod y < 0
  · rw [if_pos h]
    have hgt : -y < x.tmod y := by
      by_cases hx : 0 ≤ x
      · have := Int.tmod_nonneg y hx; omega
      · have h2 : (-x).tmod y = -(x.tmod y) := Int.neg_tmod _ _
        have := Int.tmod_lt_of_pos (-x) hy
        omega
    refine (Int.ediv_eq_iff_of_pos hy).2 ?_ |>.symm
    have e1 : y * (q - 1) = y * q - y := by rw [Int.mul_sub, Int.mul_one]
    have e2 : (q - 1) * y = y * q - y := by rw [Int.mul_comm, e1]
    have e3 : (q - 1 + 1) * y = y * q := by rw [Int.sub_add_cancel, Int.mul_comm]
    constructor <;> (first | omega | (simp only [e1, e2, e3] at *; omega))
  · rw [if_neg h]
    refine (Int.ediv_eq_iff_of_pos hy).2 ?_ |>.symm
    have e2 : q * y = y * q := Int.mul_comm _ _
    have e3 : (q + 1) * y = y * q + y := by rw [Int.add_mul, Int.one_mul, Int.mul_comm]
    constructor <;> (first | omega | (simp only [e2, e3] at *; omega))
end Go.Proofs.YtlfdcefgelpgmaaGreatDoor.PlP

set_option linter.unusedVariables false
set_option linter.unusedSimpArgs false
namespace Go.Proofs.YtlfdcefgelpgmaaGreatDoor.PlP

theorem nxIn_snoc (v : Vr) (p : Pl) (ss : List Stp) (s : Stp) (out : List Pl) : nxIn v p (ss ++ [s]) out = addOne (nxIn v p ss out) (p.1 ++ [s], afterP v p.2 s) := by
  unfold nxIn; rw [List.foldl_append]; rfl
theorem nxGo_snoc (v : Vr) (d : Int) (ps : List Pl) (p : Pl) (out : List Pl) : nxGo v d (ps ++ [p]) out = nxIn v p (legalP v p.2 d) (nxGo v d ps out) := by
  unfold nxGo; rw [List.foldl_append]; rfl
theorem next_go (v : Vr) (d : Int) (ps : List Pl) : nextP v d ps = nxGo v d ps [] := rfl
theorem addOne_has {out : List Pl} {p : Pl} (h : hasB out p.2 = true) : addOne out p = out := by unfold addOne; rw [if_pos h]
theorem addOne_new {out : List Pl} {p : Pl} (h : hasB out p.2 = false) : addOne out p = out ++ [p] := by unfold addOne; rw [if_neg (by rw [h]; simp)]
theorem addAll_snoc (out ps : List Pl) (p : Pl) : addAll out (ps ++ [p]) = addOne (addAll out ps) p := by
  unfold addAll; rw [List.foldl_append]; rfl
theorem takeS {α : Type} {l : List α} {k : Nat} {x : α} (h : l[k]? = some x) : l.take (k + 1) = l.take k ++ [x] := by
  rw [List.take_add_one, h]; rfl
/-- What is collected: boards, with so many steps, so many at most. -/
structure Coll (v : Vr) (k m : Nat) (out : List Pl) : Prop where
  ok : RowOk v k out
  len : out.length ≤ m
theorem Coll.nil (v : Vr) (k : Nat) : Coll v k 0 [] := ⟨fun q hq => by simp at hq, Nat.le_refl _⟩
theorem Coll.more {v : Vr} {k m m' : Nat} {out : List Pl} (h : Coll v k m out) (hm : m ≤ m') : Coll v k m' out := ⟨h.ok, Nat.le_trans h.len hm⟩
theorem Coll.add {v : Vr} {k m : Nat} {out : List Pl} {p : Pl} (h : Coll v k m out) (hp : Ok v p.2 ∧ p.1.length = k) : Coll v k (m + 1) (addOne out p) := by
  refine ⟨fun q hq => ?_, ?_⟩
  · rcases addOne_mem hq with hq | rfl
    · exact h.ok q hq
    · exact hp
  · have := addOne_len out p
    have := h.len
    omega
theorem row_sides {v : Vr} {k n : Nat} {out : List Pl} (h : RowOk v k out) (hn : (n : Int) = v.p + 1) : ∀ q ∈ out, q.2.1.length = n ∧ q.2.2.length = n := fun q hq => by
  have h1 := (h q hq).1.own.len
  have h2 := (h q hq).1.oth.len
  omega
/-- A legal step's parts. -/
theorem legal_parts {v : Vr} {b : Bd} {d : Int} {s : Stp} (hd : 1 ≤ d) (hb : Ok v b) (h : s ∈ legalP v b d) : (0 ≤ s.1 ∧ s.1 ≤ v.p) ∧ (-1 ≤ s.2.1 ∧ s.2.1 < v.p) ∧ (s.2.2.2 = true → 0 ≤ s.2.1) := by
  obtain ⟨h1, f, h2, h3⟩ := legal_mem (by have := hb.v1; omega) h
  obtain ⟨k1, k2, k3, k4⟩ := step_parts h2 hb h3
  rcases k4 with ⟨a, b1, -, -⟩ | ⟨a, b1, c⟩
  · rw [k1, b1]; exact ⟨h2, by omega, fun _ => a⟩
  · rw [k1, b1, c]; exact ⟨h2, by have := hb.v1; omega, fun h => by cases h⟩
end Go.Proofs.YtlfdcefgelpgmaaGreatDoor.PlP

set_option linter.unusedVariables false
set_option linter.unusedSimpArgs false
namespace Go.Proofs.YtlfdcefgelpgmaaGreatDoor.PlP

/-- A list of rows, each of plays with so many steps, so many at most. -/
def RowsOk (v : Vr) (rows : List (List Pl)) : Prop := ∀ i row, rows[i]? = some row → RowOk v i row ∧ row.length ≤ 25 ^ i
theorem RowsOk.snoc {v : Vr} {rows : List (List Pl)} {row : List Pl} (h : RowsOk v rows) (hr : RowOk v rows.length row ∧ row.length ≤ 25 ^ rows.length) : RowsOk v (rows ++ [row]) := by
  intro i r hi
  rcases Nat.lt_trichotomy i rows.length with h1 | h1 | h1
  · rw [List.getElem?_append_left h1] at hi; exact h i r hi
  · subst h1
    rw [List.getElem?_append_right (Nat.le_refl _), Nat.sub_self] at hi
    simp at hi; subst hi; exact hr
  · rw [List.getElem?_eq_none (by simp; omega)] at hi; cases hi
theorem rowsGo_ok {v : Vr} (hp : v.p.toNat + 1 ≤ 25) : ∀ (ds : List Int) (rows : List (List Pl)) (fine : Bool), (∀ d ∈ ds, 1 ≤ d) → rows ≠ [] → RowsOk v rows →
    RowsOk v (rowsGo v ds rows fine).1 ∧ (rowsGo v ds rows fine).1.length ≤ rows.length + ds.length ∧ rows.length ≤ (rowsGo v ds rows fine).1.length := by
  intro ds
  induction ds with
  | nil => intro rows fine _ _ h; exact ⟨h, Nat.le_refl _, Nat.le_refl _⟩
  | cons d ds ih =>
    intro rows fine hd hne h
    simp only [rowsGo]
    split
    · exact ⟨h, Nat.le_add_right _ _, Nat.le_refl _⟩
    · obtain ⟨m, hm⟩ : ∃ m, rows.length = m + 1 := by cases rows with | nil => exact absurd rfl hne | cons x l => exact ⟨l.length, rfl⟩
      have hl : rows[m]? = some (rows.getLastD []) := by
        rw [List.getLastD_eq_getLast?, List.getLast?_eq_getElem?, hm, Nat.add_sub_cancel, List.getElem?_eq_getElem (by omega)]; rfl
      have h1 := h m _ hl
      have hn : RowOk v (m + 1) (nextP v d (rows.getLastD [])) ∧ (nextP v d (rows.getLastD [])).length ≤ 25 ^ (m + 1) := by
        refine ⟨next_ok (hd d (List.mem_cons_self ..)) h1.1, Nat.le_trans next_len ?_⟩
        rw [Nat.pow_succ]
        exact Nat.mul_le_mul h1.2 hp
      have := ih (rows ++ [nextP v d (rows.getLastD [])]) (fine && decide ((nextP v d (rows.getLastD [])).length ≤ 3000)) (fun x hx => hd x (List.mem_cons_of_mem _ hx)) (by simp) (h.snoc (by rw [hm]; exact hn))
      refine ⟨this.1, ?_, ?_⟩
      · have := this.2.1; simp only [List.length_append, List.length_cons, List.length_nil] at *; omega
      · have := this.2.2; simp only [List.length_append, List.length_cons, List.length_nil] at *; omega
theorem rowsP_ok {v : Vr} {b : Bd} (hb : Ok v b) {ds : List Int} (hd : ∀ d ∈ ds, 1 ≤ d) (hl : ds.length ≤ 4) : RowsOk v (rowsP v b ds).1 ∧ 1 ≤ (rowsP v b ds).1.length ∧ (rowsP v b ds).1.length ≤ 5 := by
  have hv := hb.v1
  have := rowsGo_ok (v := v) (by omega) ds [[([], b)]] true hd (by simp) (by
    intro i row hi
    cases i with
    | zero => simp at hi; subst hi; exact ⟨fun q hq => by simp at hq; subst hq; exact ⟨hb, rfl⟩, by simp⟩
    | succ i => simp at hi)
  refine ⟨this.1, ?_, ?_⟩
  · have := this.2.2; exact this
  · have := this.2.1; simp only [List.length_cons, List.length_nil] at this; unfold rowsP; omega
theorem usedR_bd : ∀ (all : List (List (List Pl))) (m k : Nat), m ≤ k → (∀ R ∈ all, R.length ≤ k + 1) → usedR all m ≤ k := by
  intro all
  induction all with
  | nil => intro m k h _; exact h
  | cons R all ih =>
    intro m k h hR
    have := hR R (List.mem_cons_self ..)
    exact ih _ _ (show max m (R.length - 1) ≤ k by omega) (fun Q hQ => hR Q (List.mem_cons_of_mem _ hQ))
theorem implGo_skip {n : Nat} {R : List (List Pl)} {rest : List (List (List Pl))} {out : List Pl} (h : R.length ≤ n) : implGo n (R :: rest) out = implGo n rest out := by
  simp only [implGo]; rw [if_pos h]
theorem implGo_one {n : Nat} {R : List (List Pl)} {rest : List (List (List Pl))} {out : List Pl} (h : ¬ R.length ≤ n) (h1 : n = 1) : implGo n (R :: rest) out = addAll out (R.getD n []) := by
  simp only [implGo]; rw [if_neg h, if_pos h1]
theorem implGo_more {n : Nat} {R : List (List Pl)} {rest : List (List (List Pl))} {out : List Pl} (h : ¬ R.length ≤ n) (h1 : ¬ n = 1) : implGo n (R :: rest) out = implGo n rest (addAll out (R.getD n [])) := by
  simp only [implGo]; rw [if_neg h, if_neg h1]
theorem drop_cons {α : Type} {l : List α} {k : Nat} {x : α} (h : l[k]? = some x) : l.drop k = x :: l.drop (k + 1) := by
  obtain ⟨hk, hx⟩ := List.getElem?_eq_some_iff.1 h
  rw [List.drop_eq_getElem_cons hk, hx]
theorem allI_eq2 (v : Vr) (b : Bd) (x y : Int) : allI v b x y = (if ((ordP x y).all fun o => (rowsP v b o).2) = true then (if usedR ((ordP x y).map fun o => (rowsP v b o).1) 0 = 0 then ([([], b)], true) else (implGo (usedR ((ordP x y).map fun o => (rowsP v b o).1) 0) ((ordP x y).map fun o => (rowsP v b o).1) [], true)) else ([], false)) := by
  unfold allI
  simp only [List.all_map, List.map_map, Function.comp_def]
end Go.Proofs.YtlfdcefgelpgmaaGreatDoor.PlP
