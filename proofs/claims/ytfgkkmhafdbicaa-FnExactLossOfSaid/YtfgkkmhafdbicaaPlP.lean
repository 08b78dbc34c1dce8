/-
  Boards, steps and plays, plainly: what the program and the reference compute. No memory in this text. Conditions: each theorem's own.
-/
set_option linter.unusedVariables false
namespace Go.Proofs.Ytfgkkmhafdbicaa.PlP

/-- A variant: points, checkers, home, sides. -/
structure Vr where
  p : Int
  c : Int
  h : Int
  s : Int
/-- A board: the owner's side, the other's. -/
abbrev Bd := List Int × List Int
/-- A step: from, to, die, hit. -/
abbrev Stp := Int × Int × Int × Bool
/-- A play: its steps, the board behind them. -/
abbrev Pl := List Stp × Bd

def okV (v : Vr) : Bool := decide ((2 ≤ v.p ∧ v.p ≤ 24) ∧ (1 ≤ v.c ∧ v.c ≤ 15) ∧ (1 ≤ v.h ∧ v.h ≤ v.p) ∧ 1 ≤ v.s ∧ v.s ≤ 6)
def smV (v : Vr) : Bool := okV v && decide (v.p ≤ 6 ∧ v.c ≤ 3 ∧ v.s ≤ 3)
def at_ (l : List Int) (i : Nat) : Int := l.getD i 0
def okS (v : Vr) (l : List Int) : Bool := decide ((l.length : Int) = v.p + 1) && (l.all fun x => decide (0 ≤ x)) && decide (l.sum ≤ v.c)
/-- No point bears both players' checkers, up to point k. -/
def apart (v : Vr) (b : Bd) : Nat → Bool
  | 0 => true
  | k + 1 => apart v b k && !(decide (0 < at_ b.1 k) && decide (0 < at_ b.2 (v.p.toNat - 1 - k)))
def okB (v : Vr) (b : Bd) : Bool := okV v && okS v b.1 && okS v b.2 && !(decide (b.1.sum = 0) && decide (b.2.sum = 0)) && apart v b v.p.toNat
def over (b : Bd) : Bool := decide (b.1.sum = 0) || decide (b.2.sum = 0)
/-- The greatest index below k with a checker, or -1. -/
def lastU (l : List Int) : Nat → Int
  | 0 => -1
  | k + 1 => if 0 < at_ l k then (k : Int) else lastU l k
def last (l : List Int) : Int := lastU l l.length
/-- The step of a checker from a point with a die. -/
def stepP (v : Vr) (b : Bd) (f d : Int) : Option Stp :=
  if at_ b.1 f.toNat = 0 ∨ (0 < at_ b.1 v.p.toNat ∧ f ≠ v.p) then none
  else if 0 ≤ f - d then
    (if at_ b.2 (v.p - 1 - (f - d)).toNat ≤ 1 then some (f, f - d, d, decide (at_ b.2 (v.p - 1 - (f - d)).toNat = 1)) else none)
  else if v.h ≤ last b.1 ∨ (f - d < -1 ∧ f < last b.1) then none
  else some (f, -1, d, false)
/-- The steps from the k highest points. -/
def lgU (v : Vr) (b : Bd) (d : Int) : Nat → List Stp
  | 0 => []
  | k + 1 => lgU v b d k ++ (stepP v b (v.p - (k : Int)) d).toList
def legalP (v : Vr) (b : Bd) (d : Int) : List Stp := if over b then [] else lgU v b d (v.p.toNat + 1)
def inc (l : List Int) (i : Nat) (x : Int) : List Int := l.set i (at_ l i + x)
def afterP (v : Vr) (b : Bd) (s : Stp) : Bd :=
  (if 0 ≤ s.2.1 then inc (inc b.1 s.1.toNat (-1)) s.2.1.toNat 1 else inc b.1 s.1.toNat (-1),
   if s.2.2.2 then inc (inc b.2 (v.p - 1 - s.2.1).toNat (-1)) v.p.toNat 1 else b.2)
def hasB (out : List Pl) (b : Bd) : Bool := out.any fun q => decide (q.2 = b)
def addOne (out : List Pl) (p : Pl) : List Pl := if hasB out p.2 then out else out ++ [p]
/-- The plays that come from one by a step more. -/
def nxIn (v : Vr) (p : Pl) (ss : List Stp) (out : List Pl) : List Pl := ss.foldl (fun o s => addOne o (p.1 ++ [s], afterP v p.2 s)) out
def nextP (v : Vr) (d : Int) (ps : List Pl) : List Pl := ps.foldl (fun o p => nxIn v p (legalP v p.2 d) o) []
/-- The rows of kept plays for an order of dice. -/
def rowsGo (v : Vr) : List Int → List (List Pl) → Bool → List (List Pl) × Bool
  | [], rows, fine => (rows, fine)
  | d :: ds, rows, fine =>
    let nx := nextP v d (rows.getLastD [])
    if nx.length = 0 then (rows, fine) else rowsGo v ds (rows ++ [nx]) (fine && decide (nx.length ≤ 3000))
def rowsP (v : Vr) (b : Bd) (ds : List Int) : List (List Pl) × Bool := rowsGo v ds [[([], b)]] true
/-- The same as the reference keeps it: the last row, its number, whether all rows fit. -/
def lngGo (v : Vr) : List Int → List Pl → Nat → Bool → List Pl × Nat × Bool
  | [], ps, k, fine => (ps, k, fine)
  | d :: ds, ps, k, fine =>
    let nx := nextP v d ps
    if nx.length = 0 then (ps, k, fine && decide (nx.length ≤ 3000)) else lngGo v ds nx (k + 1) (fine && decide (nx.length ≤ 3000))
def lngP (v : Vr) (b : Bd) (ds : List Int) : List Pl × Nat × Bool := lngGo v ds [([], b)] 0 true
def ordP (a b : Int) : List (List Int) := if a = b then [[a, a, a, a]] else [[a, b], [b, a]]
def addAll (out ps : List Pl) : List Pl := ps.foldl addOne out
/-- The dice that are used. -/
def usedP (v : Vr) (b : Bd) : List (List Int) → Nat
  | [] => 0
  | o :: os => max (lngP v b o).2.1 (usedP v b os)
/-- The plays of a roll as the reference collects them: i tells the place of the order. -/
def allGo (v : Vr) (b : Bd) (u : Nat) : Nat → List (List Int) → List Pl → Bool → List Pl × Bool
  | _, [], out, fine => (out, fine)
  | i, o :: os, out, fine =>
    let l := lngP v b o
    allGo v b u (i + 1) os (if l.2.1 ≠ u ∨ (u = 1 ∧ i = 1 ∧ 0 < out.length) then out else addAll out l.1) (fine && l.2.2)
def allP (v : Vr) (b : Bd) (x y : Int) : List Pl × Bool := allGo v b (usedP v b (ordP x y)) 0 (ordP x y) [] true

/-! ### Boards stay boards -/
theorem at_get {l : List Int} {i : Nat} (h : i < l.length) : l[i]? = some (at_ l i) := by
  unfold at_; rw [List.getD_eq_getElem?_getD, List.getElem?_eq_getElem h]; rfl
theorem at_out {l : List Int} {i : Nat} (h : l.length ≤ i) : at_ l i = 0 := by
  unfold at_; rw [List.getD_eq_getElem?_getD, List.getElem?_eq_none h]; rfl
theorem inc_len (l : List Int) (i : Nat) (x : Int) : (inc l i x).length = l.length := by unfold inc; simp
theorem inc_at (l : List Int) (i j : Nat) (x : Int) (h : i < l.length) : at_ (inc l i x) j = if j = i then at_ l i + x else at_ l j := by
  unfold inc at_
  rw [List.getD_eq_getElem?_getD, List.getElem?_set]
  by_cases e : i = j
  · subst e; simp [h]
  · rw [if_neg e, if_neg (fun h => e h.symm), List.getD_eq_getElem?_getD]
theorem sum_set : ∀ (l : List Int) (i : Nat) (x : Int), i < l.length → (l.set i x).sum = l.sum - at_ l i + x := by
  intro l
  induction l with
  | nil => intro i x h; simp at h
  | cons y l ih =>
    intro i x h
    cases i with
    | zero => simp [at_]; omega
    | succ i =>
      have := ih i x (by simpa using h)
      simp only [List.set_cons_succ, List.sum_cons, at_, List.getD_cons_succ] at *
      omega
theorem inc_sum (l : List Int) (i : Nat) (x : Int) (h : i < l.length) : (inc l i x).sum = l.sum + x := by
  unfold inc; rw [sum_set l i _ h]; omega
theorem sum_nn : ∀ (l : List Int), (∀ i, 0 ≤ at_ l i) → 0 ≤ l.sum ∧ ∀ i, at_ l i ≤ l.sum := by
  intro l
  induction l with
  | nil => intro _; exact ⟨by simp, fun i => by simp [at_]⟩
  | cons x l ih =>
    intro h
    have h0 := h 0
    have hl := ih (fun i => by have := h (i + 1); simpa [at_] using this)
    simp only [at_, List.getD_cons_zero] at h0
    refine ⟨by simp; omega, fun i => ?_⟩
    cases i with
    | zero => simp [at_]; omega
    | succ i => have := hl.2 i; simp only [at_, List.getD_cons_succ, List.sum_cons] at *; omega
/-- A side, point by point. -/
structure Sd (v : Vr) (l : List Int) : Prop where
  len : (l.length : Int) = v.p + 1
  nn : ∀ i, 0 ≤ at_ l i
  sum : l.sum ≤ v.c
theorem okS_iff {v : Vr} {l : List Int} : okS v l = true ↔ Sd v l := by
  unfold okS
  simp only [Bool.and_eq_true, decide_eq_true_eq, List.all_eq_true]
  constructor
  · rintro ⟨⟨h1, h2⟩, h3⟩
    refine ⟨h1, fun i => ?_, h3⟩
    rcases Nat.lt_or_ge i l.length with h | h
    · exact h2 _ (List.mem_of_getElem? (at_get h))
    · rw [at_out h]; exact Int.le_refl _
  · rintro ⟨h1, h2, h3⟩
    refine ⟨⟨h1, fun x hx => ?_⟩, h3⟩
    obtain ⟨i, hi⟩ := List.getElem?_of_mem hx
    have hl := (List.getElem?_eq_some_iff.1 hi).1
    rw [at_get hl] at hi
    have := h2 i
    simp only [Option.some.injEq] at hi
    omega
theorem Sd.top {v : Vr} {l : List Int} (h : Sd v l) (i : Nat) : at_ l i ≤ v.c := by
  have := (sum_nn l h.nn).2 i
  have := h.sum
  omega
theorem Sd.sum0 {v : Vr} {l : List Int} (h : Sd v l) : 0 ≤ l.sum := (sum_nn l h.nn).1
/-- A variant, part by part. -/
theorem okV_iff {v : Vr} : okV v = true ↔ (2 ≤ v.p ∧ v.p ≤ 24) ∧ (1 ≤ v.c ∧ v.c ≤ 15) ∧ (1 ≤ v.h ∧ v.h ≤ v.p) ∧ 1 ≤ v.s ∧ v.s ≤ 6 := by
  unfold okV; exact decide_eq_true_iff
theorem apart_iff {v : Vr} {b : Bd} : ∀ k, apart v b k = true ↔ ∀ i, i < k → ¬ (0 < at_ b.1 i ∧ 0 < at_ b.2 (v.p.toNat - 1 - i)) := by
  intro k
  induction k with
  | zero => simp [apart]
  | succ k ih =>
    simp only [apart, Bool.and_eq_true, ih, Bool.not_eq_true', Bool.and_eq_false_iff, decide_eq_false_iff_not]
    constructor
    · rintro ⟨h1, h2⟩ i hi
      by_cases e : i = k
      · subst e; omega
      · exact h1 i (by omega)
    · intro h
      exact ⟨fun i hi => h i (by omega), by have := h k (by omega); omega⟩
/-- A board, part by part. -/
structure Ok (v : Vr) (b : Bd) : Prop where
  v1 : (2 ≤ v.p ∧ v.p ≤ 24) ∧ (1 ≤ v.c ∧ v.c ≤ 15) ∧ (1 ≤ v.h ∧ v.h ≤ v.p) ∧ 1 ≤ v.s ∧ v.s ≤ 6
  own : Sd v b.1
  oth : Sd v b.2
  some_ : ¬ (b.1.sum = 0 ∧ b.2.sum = 0)
  ap : ∀ i, i < v.p.toNat → ¬ (0 < at_ b.1 i ∧ 0 < at_ b.2 (v.p.toNat - 1 - i))
theorem okB_iff {v : Vr} {b : Bd} : okB v b = true ↔ Ok v b := by
  unfold okB
  simp only [Bool.and_eq_true, okV_iff, okS_iff, Bool.not_eq_true', Bool.and_eq_false_iff, decide_eq_false_iff_not, apart_iff]
  constructor
  · rintro ⟨⟨⟨⟨h1, h2⟩, h3⟩, h4⟩, h5⟩
    exact ⟨h1, h2, h3, by omega, h5⟩
  · rintro ⟨h1, h2, h3, h4, h5⟩
    exact ⟨⟨⟨⟨h1, h2⟩, h3⟩, by omega⟩, h5⟩
/-- What a step that is legal is like. -/
theorem step_parts {v : Vr} {b : Bd} {f d : Int} {s : Stp} (hf : 0 ≤ f ∧ f ≤ v.p) (hb : Ok v b) (h : stepP v b f d = some s) :
    s.1 = f ∧ s.2.2.1 = d ∧ 0 < at_ b.1 f.toNat ∧ ((0 ≤ f - d ∧ s.2.1 = f - d ∧ at_ b.2 (v.p - 1 - (f - d)).toNat ≤ 1 ∧ s.2.2.2 = decide (at_ b.2 (v.p - 1 - (f - d)).toNat = 1)) ∨ (f - d < 0 ∧ s.2.1 = -1 ∧ s.2.2.2 = false)) := by
  have hn := hb.own.nn f.toNat
  unfold stepP at h
  split at h
  · cases h
  · rename_i h1
    have h0 : 0 < at_ b.1 f.toNat := by omega
    split at h
    · split at h
      · simp only [Option.some.injEq] at h; subst h; exact ⟨rfl, rfl, h0, .inl ⟨by assumption, rfl, by assumption, rfl⟩⟩
      · cases h
    · split at h
      · cases h
      · simp only [Option.some.injEq] at h; subst h; exact ⟨rfl, rfl, h0, .inr ⟨by omega, rfl, rfl⟩⟩
/-- A legal step on a board that is not over leads to a board. -/
theorem after_ok {v : Vr} {b : Bd} {f d : Int} {s : Stp} (hf : 0 ≤ f ∧ f ≤ v.p) (hd : 1 ≤ d) (hb : Ok v b) (ho : over b = false) (h : stepP v b f d = some s) : Ok v (afterP v b s) := by
  obtain ⟨h1, h2, h3, h4⟩ := step_parts hf hb h
  obtain ⟨s1, s2, s3, s4⟩ := s
  simp only at h1 h2 h4
  subst h1 h2
  have hv := hb.v1
  have hl1 := hb.own.len
  have hl2 := hb.oth.len
  have hs1 := hb.own.sum0
  have hs2 := hb.oth.sum0
  have hq1 := hb.own.sum
  have hq2 := hb.oth.sum
  unfold over at ho
  simp only [Bool.or_eq_false_iff, decide_eq_false_iff_not] at ho
  have hfl : s1.toNat < b.1.length := by omega
  have nn1 : ∀ j, 0 ≤ at_ (inc b.1 s1.toNat (-1)) j := by
    intro j
    rw [inc_at _ _ _ _ hfl]
    split
    · omega
    · exact hb.own.nn j
  rcases h4 with ⟨k0, rfl, k1, rfl⟩ | ⟨k0, rfl, rfl⟩
  · have htl : (s1 - s3).toNat < (inc b.1 s1.toNat (-1)).length := by rw [inc_len]; omega
    have hol : (v.p - 1 - (s1 - s3)).toNat < b.2.length := by omega
    have e1 : (v.p - 1 - (s1 - s3)).toNat = v.p.toNat - 1 - (s1 - s3).toNat := by omega
    have nn0 := hb.oth.nn (v.p - 1 - (s1 - s3)).toNat
    have own_ : (afterP v b (s1, s1 - s3, s3, decide (at_ b.2 (v.p - 1 - (s1 - s3)).toNat = 1))).1 = inc (inc b.1 s1.toNat (-1)) (s1 - s3).toNat 1 := by unfold afterP; simp only [if_pos k0]
    have atO : ∀ j, at_ (inc (inc b.1 s1.toNat (-1)) (s1 - s3).toNat 1) j = (if j = (s1 - s3).toNat then at_ (inc b.1 s1.toNat (-1)) (s1 - s3).toNat + 1 else at_ (inc b.1 s1.toNat (-1)) j) := fun j => inc_at _ _ _ _ htl
    have sO : Sd v (inc (inc b.1 s1.toNat (-1)) (s1 - s3).toNat 1) := by
      refine ⟨by rw [inc_len, inc_len]; exact hl1, fun j => ?_, by rw [inc_sum _ _ _ htl, inc_sum _ _ _ hfl]; omega⟩
      rw [atO]
      split
      · have := nn1 (s1 - s3).toNat; omega
      · exact nn1 j
    have sumO : (inc (inc b.1 s1.toNat (-1)) (s1 - s3).toNat 1).sum = b.1.sum := by rw [inc_sum _ _ _ htl, inc_sum _ _ _ hfl]; omega
    by_cases hh : at_ b.2 (v.p - 1 - (s1 - s3)).toNat = 1
    · have oth_ : (afterP v b (s1, s1 - s3, s3, decide (at_ b.2 (v.p - 1 - (s1 - s3)).toNat = 1))).2 = inc (inc b.2 (v.p - 1 - (s1 - s3)).toNat (-1)) v.p.toNat 1 := by unfold afterP; simp only [hh, decide_true, if_true]
      have hpl : v.p.toNat < (inc b.2 (v.p - 1 - (s1 - s3)).toNat (-1)).length := by rw [inc_len]; omega
      have atT : ∀ j, at_ (inc (inc b.2 (v.p - 1 - (s1 - s3)).toNat (-1)) v.p.toNat 1) j = (if j = v.p.toNat then at_ (inc b.2 (v.p - 1 - (s1 - s3)).toNat (-1)) v.p.toNat + 1 else at_ (inc b.2 (v.p - 1 - (s1 - s3)).toNat (-1)) j) := fun j => inc_at _ _ _ _ hpl
      have atT1 : ∀ j, at_ (inc b.2 (v.p - 1 - (s1 - s3)).toNat (-1)) j = (if j = (v.p - 1 - (s1 - s3)).toNat then at_ b.2 (v.p - 1 - (s1 - s3)).toNat + -1 else at_ b.2 j) := fun j => inc_at _ _ _ _ hol
      have nnT : ∀ j, 0 ≤ at_ (inc b.2 (v.p - 1 - (s1 - s3)).toNat (-1)) j := by
        intro j
        rw [atT1]
        split
        · omega
        · exact hb.oth.nn j
      refine ⟨hv, ?_, ?_, ?_, ?_⟩
      · rw [own_]; exact sO
      · rw [oth_]
        refine ⟨by rw [inc_len, inc_len]; exact hl2, fun j => ?_, by rw [inc_sum _ _ _ hpl, inc_sum _ _ _ hol]; omega⟩
        rw [atT]
        split
        · have := nnT v.p.toNat; omega
        · exact nnT j
      · rw [own_, sumO]; omega
      · rw [own_, oth_]
        intro i hi
        have hni : ¬ v.p.toNat - 1 - i = v.p.toNat := by omega
        rw [atT, if_neg hni, atT1, atO]
        by_cases ei : i = (s1 - s3).toNat
        · subst ei
          rw [if_pos (by omega : v.p.toNat - 1 - (s1 - s3).toNat = (v.p - 1 - (s1 - s3)).toNat)]
          omega
        · rw [if_neg ei, if_neg (by omega : ¬ v.p.toNat - 1 - i = (v.p - 1 - (s1 - s3)).toNat), inc_at _ _ _ _ hfl]
          have := hb.ap i hi
          have h5 := hb.own.nn i
          split
          · rename_i e; subst e; omega
          · exact this
    · have oth_ : (afterP v b (s1, s1 - s3, s3, decide (at_ b.2 (v.p - 1 - (s1 - s3)).toNat = 1))).2 = b.2 := by unfold afterP; simp only [hh, decide_false, Bool.false_eq_true, if_false]
      refine ⟨hv, ?_, ?_, ?_, ?_⟩
      · rw [own_]; exact sO
      · rw [oth_]; exact hb.oth
      · rw [own_, sumO, oth_]; omega
      · rw [own_, oth_]
        intro i hi
        rw [atO]
        by_cases ei : i = (s1 - s3).toNat
        · subst ei
          rw [← e1]
          omega
        · rw [if_neg ei, inc_at _ _ _ _ hfl]
          have := hb.ap i hi
          split
          · rename_i e; subst e; omega
          · exact this
  · have own_ : (afterP v b (s1, -1, s3, false)).1 = inc b.1 s1.toNat (-1) := by unfold afterP; simp
    have oth_ : (afterP v b (s1, -1, s3, false)).2 = b.2 := by unfold afterP; simp
    refine ⟨hv, ?_, ?_, ?_, ?_⟩
    · rw [own_]; exact ⟨by rw [inc_len]; exact hl1, nn1, by rw [inc_sum _ _ _ hfl]; omega⟩
    · rw [oth_]; exact hb.oth
    · rw [oth_]; omega
    · rw [own_, oth_]
      intro i hi
      rw [inc_at _ _ _ _ hfl]
      have := hb.ap i hi
      split
      · rename_i e; subst e; omega
      · exact this
end Go.Proofs.Ytfgkkmhafdbicaa.PlP
