/-
  Games and matches, plainly: what the program and the reference compute. No memory in this text. Conditions: each theorem's own.
  The steps of a play lead to its board, the boards of the plays differ. No memory in this text. Conditions: each theorem's own.
-/
import Derived.Test.YtlfdcefgelpgmaaGreatDoorPlP

set_option linter.unusedVariables false
set_option linter.unusedSimpArgs false
namespace Go.Proofs.YtlfdcefgelpgmaaGreatDoor.PlP

/-! ### A turn -/
def rollB (v : Vr) (x y : Int) : Bool := decide (1 ≤ x ∧ x ≤ v.s) && decide (1 ≤ y ∧ y ≤ x)
/-- Is a step legal? -/
def legal1 (v : Vr) (b : Bd) (s : Stp) : Bool :=
  !over b && decide (1 ≤ s.2.2.1 ∧ s.2.2.1 ≤ v.s) && decide (0 ≤ s.1 ∧ s.1 ≤ v.p) && decide (stepP v b s.1 s.2.2.1 = some s)
/-- The board behind steps with the dice of an order. -/
def followP (v : Vr) : Bd → List Int → List Stp → Option Bd
  | b, _, [] => some b
  | _, [], _ :: _ => none
  | b, d :: ds, s :: ss => if s.2.2.1 = d ∧ legal1 v b s = true then followP v (afterP v b s) ds ss else none
def firstF (v : Vr) (b : Bd) (ss : List Stp) : List (List Int) → Option Bd
  | [] => none
  | o :: os => match followP v b o ss with
    | some c => some c
    | none => firstF v b ss os
/-- The orders that the reference tries. -/
def ordS (v : Vr) (b : Bd) (x y : Int) : List (List Int) := if usedP v b (ordP x y) = 1 ∧ (ordP x y).length = 2 ∧ 0 < (legalP v b x).length then (ordP x y).take 1 else ordP x y
/-- The board behind the steps of a play. -/
def playP (v : Vr) (b : Bd) (x y : Int) (ss : List Stp) : Option Bd := if ss.length = usedP v b (ordP x y) then firstF v b ss (ordS v b x y) else none
/-- The same as the program finds it. -/
def playGo (v : Vr) (b : Bd) (ss : List Stp) (n : Nat) : List (List Int) → List (List (List Pl)) → Option Bd
  | o :: os, R :: Rs => if R.length ≤ n then playGo v b ss n os Rs else match followP v b o ss with
    | some c => some c
    | none => if n = 1 then none else playGo v b ss n os Rs
  | _, _ => none
def playI (v : Vr) (b : Bd) (x y : Int) (ss : List Stp) : Option Bd :=
  if ss.length = usedR ((ordP x y).map fun o => (rowsP v b o).1) 0 then playGo v b ss (usedR ((ordP x y).map fun o => (rowsP v b o).1) 0) (ordP x y) ((ordP x y).map fun o => (rowsP v b o).1) else none

theorem legal1_iff {v : Vr} {b : Bd} {s : Stp} : legal1 v b s = true ↔ over b = false ∧ (1 ≤ s.2.2.1 ∧ s.2.2.1 ≤ v.s) ∧ (0 ≤ s.1 ∧ s.1 ≤ v.p) ∧ stepP v b s.1 s.2.2.1 = some s := by
  unfold legal1
  simp only [Bool.and_eq_true, Bool.not_eq_true', decide_eq_true_eq, and_assoc]
theorem lgU_has {v : Vr} {b : Bd} {d : Int} {s : Stp} {j : Nat} (h : stepP v b (v.p - (j : Int)) d = some s) : ∀ k, j < k → s ∈ lgU v b d k := by
  intro k
  induction k with
  | zero => intro h'; omega
  | succ k ih =>
    intro hj
    simp only [lgU, List.mem_append]
    by_cases e : j = k
    · subst e; right; rw [h]; simp
    · left; exact ih (by omega)
theorem legal1_mem {v : Vr} {b : Bd} {s : Stp} (hv : 0 ≤ v.p) (h : legal1 v b s = true) : s ∈ legalP v b s.2.2.1 := by
  obtain ⟨h1, h2, h3, h4⟩ := legal1_iff.1 h
  unfold legalP
  rw [if_neg (by rw [h1]; simp)]
  refine lgU_has (j := (v.p - s.1).toNat) ?_ _ (by omega)
  rw [show v.p - ((v.p - s.1).toNat : Int) = s.1 by omega]
  exact h4
theorem legal_one {v : Vr} {b : Bd} {d : Int} {s : Stp} (hv : 0 ≤ v.p) (h : s ∈ legalP v b d) : s.2.2.1 = d := by
  obtain ⟨ho, f, hf, h1⟩ := legal_mem hv h
  unfold stepP at h1
  split at h1
  · cases h1
  · split at h1
    · split at h1
      · simp only [Option.some.injEq] at h1; rw [← h1]
      · cases h1
    · split at h1
      · cases h1
      · simp only [Option.some.injEq] at h1; rw [← h1]
theorem legal1_ok {v : Vr} {b : Bd} {s : Stp} (hb : Ok v b) (h : legal1 v b s = true) : Ok v (afterP v b s) := by
  obtain ⟨h1, h2, h3, h4⟩ := legal1_iff.1 h
  exact after_ok h3 h2.1 hb h1 h4
theorem follow_ok {v : Vr} : ∀ (ds : List Int) (b : Bd) (ss : List Stp) (c : Bd), Ok v b → followP v b ds ss = some c → Ok v c
  | ds, b, [], c, hb, h => by simp only [followP, Option.some.injEq] at h; subst h; exact hb
  | [], b, s :: ss, c, hb, h => by simp [followP] at h
  | d :: ds, b, s :: ss, c, hb, h => by
    simp only [followP] at h
    split at h
    · rename_i h1; exact follow_ok ds _ ss c (legal1_ok hb h1.2) h
    · cases h
theorem hasB_iff {out : List Pl} {b : Bd} : hasB out b = true ↔ ∃ q ∈ out, q.2 = b := by
  unfold hasB
  rw [List.any_eq_true]
  simp
theorem addOne_hasB {out : List Pl} {p : Pl} {b : Bd} (h : hasB out b = true) : hasB (addOne out p) b = true := by
  obtain ⟨q, hq, e⟩ := hasB_iff.1 h
  exact hasB_iff.2 ⟨q, addOne_keep hq, e⟩
theorem addOne_self (out : List Pl) (p : Pl) : hasB (addOne out p) p.2 = true := by
  unfold addOne
  split
  · assumption
  · exact hasB_iff.2 ⟨p, by simp, rfl⟩
theorem nxIn_hasB {v : Vr} {p : Pl} {b : Bd} : ∀ (ss : List Stp) (out : List Pl), hasB out b = true → hasB (nxIn v p ss out) b = true := by
  intro ss
  induction ss with
  | nil => intro out h; exact h
  | cons s ss ih => intro out h; exact ih _ (addOne_hasB h)
theorem nxIn_at {v : Vr} {p : Pl} {s : Stp} : ∀ (ss : List Stp) (out : List Pl), s ∈ ss → hasB (nxIn v p ss out) (afterP v p.2 s) = true := by
  intro ss
  induction ss with
  | nil => intro out h; simp at h
  | cons t ss ih =>
    intro out h
    rcases List.mem_cons.1 h with rfl | h
    · exact nxIn_hasB ss _ (addOne_self out (p.1 ++ [s], afterP v p.2 s))
    · exact ih _ h
theorem nxGo_hasB {v : Vr} {d : Int} {b : Bd} : ∀ (ps out : List Pl), hasB out b = true → hasB (nxGo v d ps out) b = true := by
  intro ps
  induction ps with
  | nil => intro out h; exact h
  | cons p ps ih => intro out h; exact ih _ (nxIn_hasB _ _ h)
theorem nxGo_at {v : Vr} {d : Int} {b : Bd} {s : Stp} (hs : s ∈ legalP v b d) : ∀ (ps out : List Pl), hasB ps b = true → hasB (nxGo v d ps out) (afterP v b s) = true := by
  intro ps
  induction ps with
  | nil => intro out h; simp [hasB] at h
  | cons p ps ih =>
    intro out h
    obtain ⟨q, hq, e⟩ := hasB_iff.1 h
    rcases List.mem_cons.1 hq with rfl | hq
    · refine nxGo_hasB ps _ ?_
      subst e
      exact nxIn_at _ _ hs
    · exact ih _ (hasB_iff.2 ⟨q, hq, e⟩)
theorem rowsGo_ge (v : Vr) : ∀ (ds : List Int) (rows : List (List Pl)) (fine : Bool), rows.length ≤ (rowsGo v ds rows fine).1.length := by
  intro ds
  induction ds with
  | nil => intro rows fine; exact Nat.le_refl _
  | cons d ds ih =>
    intro rows fine
    simp only [rowsGo]
    split
    · exact Nat.le_refl _
    · have := ih (rows ++ [nextP v d (rows.getLastD [])]) (fine && decide ((nextP v d (rows.getLastD [])).length ≤ 3000))
      simp only [List.length_append, List.length_cons, List.length_nil] at this
      omega
/-- A sequence that can be followed is no longer than the rows. -/
theorem follow_rows {v : Vr} (hv : 0 ≤ v.p) : ∀ (ds : List Int) (b : Bd) (ss : List Stp) (c : Bd) (rows : List (List Pl)) (fine : Bool), hasB (rows.getLastD []) b = true → followP v b ds ss = some c → rows.length + ss.length ≤ (rowsGo v ds rows fine).1.length
  | ds, b, [], c, rows, fine, hh, h => rowsGo_ge v ds rows fine
  | [], b, s :: ss, c, rows, fine, hh, h => by simp [followP] at h
  | d :: ds, b, s :: ss, c, rows, fine, hh, h => by
    simp only [followP] at h
    split at h
    · rename_i h1
      have hm := legal1_mem hv h1.2
      rw [h1.1] at hm
      have hn : hasB (nextP v d (rows.getLastD [])) (afterP v b s) = true := nxGo_at hm _ _ hh
      have hl : ¬ (nextP v d (rows.getLastD [])).length = 0 := by
        obtain ⟨q, hq, _⟩ := hasB_iff.1 hn
        intro e
        rw [List.eq_nil_of_length_eq_zero e] at hq
        simp at hq
      simp only [rowsGo]
      rw [if_neg hl]
      have := follow_rows hv ds _ ss c (rows ++ [nextP v d (rows.getLastD [])]) (fine && decide ((nextP v d (rows.getLastD [])).length ≤ 3000)) (by simpa using hn) h
      simp only [List.length_append, List.length_cons, List.length_nil] at this ⊢
      omega
    · cases h
theorem follow_short {v : Vr} (hv : 0 ≤ v.p) {b c : Bd} {o : List Int} {ss : List Stp} (h : followP v b o ss = some c) : ss.length < (rowsP v b o).1.length := by
  have := follow_rows hv o b ss c [[([], b)]] true (by simp [hasB]) h
  unfold rowsP
  simp only [List.length_cons, List.length_nil] at this
  omega
/-- The first die of an order can be used just where the order has a second row. -/
theorem rows_one {v : Vr} (hv : 0 ≤ v.p) (b : Bd) (d : Int) (ds : List Int) : (rowsP v b (d :: ds)).1.length ≤ 1 ↔ (legalP v b d).length = 0 := by
  have e : rowsP v b (d :: ds) = if (nextP v d [([], b)]).length = 0 then ([[([], b)]], true) else rowsGo v ds [[([], b)], nextP v d [([], b)]] (true && decide ((nextP v d [([], b)]).length ≤ 3000)) := rfl
  have hn : (nextP v d [([], b)]).length = 0 ↔ (legalP v b d).length = 0 := by
    constructor
    · intro h
      rcases Nat.eq_zero_or_pos (legalP v b d).length with h0 | h0
      · exact h0
      · exfalso
        have hs : (legalP v b d)[0] ∈ legalP v b d := List.getElem_mem h0
        have h1 : hasB (nextP v d [([], b)]) (afterP v b (legalP v b d)[0]) = true := nxGo_at hs [([], b)] [] (by simp [hasB])
        obtain ⟨q, hq, _⟩ := hasB_iff.1 h1
        rw [List.eq_nil_of_length_eq_zero h] at hq
        simp at hq
    · intro h
      rw [next_go]
      simp only [nxGo, List.foldl, nxIn]
      rw [List.eq_nil_of_length_eq_zero h]
      rfl
  rw [e]
  split
  · rename_i h; simp [hn.1 h]
  · rename_i h
    have := rowsGo_ge v ds [[([], b)], nextP v d [([], b)]] (true && decide ((nextP v d [([], b)]).length ≤ 3000))
    simp only [List.length_cons, List.length_nil] at this
    constructor
    · intro h'; omega
    · intro h'; exact absurd (hn.2 h') h
theorem usedR_two (a b : List (List Pl)) : usedR [a, b] 0 = max (a.length - 1) (b.length - 1) := by
  show max (max 0 (a.length - 1)) (b.length - 1) = _
  omega
theorem usedR_one (a : List (List Pl)) : usedR [a] 0 = a.length - 1 := by
  show max 0 (a.length - 1) = _
  omega
theorem used_eq (v : Vr) (b : Bd) (x y : Int) : usedR ((ordP x y).map fun o => (rowsP v b o).1) 0 = usedP v b (ordP x y) := by
  unfold ordP
  split
  · simp only [List.map_cons, List.map_nil, usedR_one, usedP, (lng_rows v b _).1]; omega
  · simp only [List.map_cons, List.map_nil, usedR_two, usedP, (lng_rows v b _).1]; omega
/-- **The program finds the board that the reference finds.** -/
theorem playI_eq {v : Vr} (hv : 0 ≤ v.p) (b : Bd) (x y : Int) (ss : List Stp) : playI v b x y ss = playP v b x y ss := by
  unfold playI playP
  rw [used_eq]
  obtain ⟨n, hn⟩ : ∃ n, usedP v b (ordP x y) = n := ⟨_, rfl⟩
  rw [hn]
  by_cases hl : ss.length = n
  case neg => rw [if_neg hl, if_neg hl]
  rw [if_pos hl, if_pos hl]
  unfold ordS
  rw [hn]
  have hno : ∀ o, (rowsP v b o).1.length ≤ n → followP v b o ss = none := fun o h => by
    cases hf : followP v b o ss with
    | none => rfl
    | some c => have := follow_short hv hf; omega
  by_cases e : x = y
  · have eo : ordP x y = [[x, x, x, x]] := by unfold ordP; rw [if_pos e]
    rw [eo]
    have hc : ¬ (n = 1 ∧ ([[x, x, x, x]] : List (List Int)).length = 2 ∧ 0 < (legalP v b x).length) := fun h => by have := h.2.1; simp at this
    rw [if_neg hc]
    simp only [List.map_cons, List.map_nil, playGo, firstF]
    split
    · rename_i h; rw [hno _ h]
    · cases followP v b [x, x, x, x] ss with
      | some c => rfl
      | none => simp only [ite_self]
  · have eo : ordP x y = [[x, y], [y, x]] := by unfold ordP; rw [if_neg e]
    have e1 := rows_one hv b x [y]
    rw [eo]
    have h2 := hno [y, x]
    by_cases h1 : (rowsP v b [x, y]).1.length ≤ n
    · have f1 := hno _ h1
      have hc : ¬ (n = 1 ∧ ([[x, y], [y, x]] : List (List Int)).length = 2 ∧ 0 < (legalP v b x).length) := fun h => by
        have h3 := h.1
        subst h3
        have := e1.1 h1
        omega
      rw [if_neg hc]
      simp only [List.map_cons, List.map_nil, playGo, firstF, if_pos h1, f1]
      split
      · rename_i h3; rw [h2 h3]
      · cases followP v b [y, x] ss with
        | some c => rfl
        | none => simp only [ite_self]
    · by_cases hn1 : n = 1
      · subst hn1
        have hp : 0 < (legalP v b x).length := by
          rcases Nat.eq_zero_or_pos (legalP v b x).length with h0 | h0
          · exact absurd (e1.2 h0) h1
          · exact h0
        rw [if_pos ⟨rfl, rfl, hp⟩]
        simp only [List.map_cons, List.map_nil, playGo, firstF, if_neg h1, List.take, if_true]
      · have hc : ¬ (n = 1 ∧ ([[x, y], [y, x]] : List (List Int)).length = 2 ∧ 0 < (legalP v b x).length) := fun h => hn1 h.1
        rw [if_neg hc]
        simp only [List.map_cons, List.map_nil, playGo, firstF, if_neg h1, if_neg hn1]
        cases followP v b [x, y] ss with
        | some c => rfl
        | none =>
          simp only
          split
          · rename_i h3; rw [h2 h3]
          · cases followP v b [y, x] ss with
            | some c => rfl
            | none => rfl
theorem first_ok {v : Vr} {b c : Bd} {ss : List Stp} (hb : Ok v b) : ∀ (os : List (List Int)), firstF v b ss os = some c → Ok v c
  | [], h => by simp [firstF] at h
  | o :: os, h => by
    simp only [firstF] at h
    split at h
    · rename_i d hd
      simp only [Option.some.injEq] at h
      subst h
      exact follow_ok o b ss _ hb hd
    · exact first_ok hb os h
theorem play_ok {v : Vr} {b c : Bd} {x y : Int} {ss : List Stp} (hb : Ok v b) (h : playP v b x y ss = some c) : Ok v c := by
  unfold playP at h
  split at h
  · exact first_ok hb _ h
  · cases h

/-! ### Games -/
/-- A game: board, player, roll, phase, winner, result, turns. -/
structure Gm where
  b : Bd
  pl : Int
  x : Int
  y : Int
  ph : Int
  wn : Int
  rs : Int
  tn : Int
/-- An event: kind, faces, steps, result. -/
structure Ev where
  k : Int
  a : Int
  b : Int
  ss : List Stp
  r : Int
/-- The state of a match: scores, games, game, over. -/
structure Ms where
  s0 : Int
  s1 : Int
  gs : Int
  g : Gm
  ov : Bool

/-- The result of a board that is over. -/
def resP (v : Vr) (b : Bd) : Int :=
  if (if b.1.sum = 0 then b.2 else b.1).sum < v.c then 1 else if v.p - v.h ≤ last (if b.1.sum = 0 then b.2 else b.1) then 3 else 2
/-- One side of the first board. -/
def startL (v : Vr) : List Int :=
  if v.p = 24 ∧ v.c = 15 ∧ v.h = 6 ∧ v.s = 6 then ((((List.replicate 25 (0 : Int)).set 5 5).set 7 3).set 12 5).set 23 2
  else ((List.replicate (v.p + 1).toNat (0 : Int)).set (v.p - 1).toNat (v.c / 2)).set (v.p / 2 - 1).toNat (v.c - v.c / 2)
def startB (v : Vr) : Bd := (startL v, startL v)
def newG (v : Vr) : Gm := ⟨startB v, 0, 0, 0, 0, 0, 0, 0⟩
/-- Is a game valid? -/
def gmB (v : Vr) (g : Gm) : Bool :=
  okB v g.b && decide (4 ≤ v.p) && decide (0 ≤ g.pl ∧ g.pl ≤ 1) && decide (0 ≤ g.tn ∧ g.tn ≤ 2000) &&
  (if g.ph = 2 then rollB v g.x g.y else decide (g.x = 0 ∧ g.y = 0)) &&
  (if g.ph = 0 then decide (g.pl = 0 ∧ g.wn = 0 ∧ g.rs = 0 ∧ g.tn = 0 ∧ g.b = startB v)
   else if g.ph = 1 ∨ g.ph = 2 then !over g.b && decide (g.wn = 0 ∧ g.rs = 0)
   else if g.ph = 3 then (if over g.b then decide (g.b.1.sum = 0 ∧ g.wn = g.pl ∧ g.rs = resP v g.b) else decide (g.wn = 1 - g.pl ∧ 1 ≤ g.rs ∧ g.rs ≤ 3))
   else false)
/-- The code of an opening roll, and the game behind it. -/
def openC (v : Vr) (g : Gm) (a b : Int) : Int := if gmB v g = false then 1 else if g.ph ≠ 0 then 5 else if decide (1 ≤ a ∧ a ≤ v.s) = false ∨ decide (1 ≤ b ∧ b ≤ v.s) = false then 2 else 0
def openG (g : Gm) (a b : Int) : Gm :=
  if a = b then g else { g with b := if a < b then swp g.b else g.b, pl := if a < b then 1 else g.pl, ph := 2, x := max a b, y := min a b }
def rollC (v : Vr) (g : Gm) (x y : Int) : Int := if gmB v g = false then 1 else if g.ph ≠ 1 then 5 else if rollB v x y = false then 2 else 0
def rollG (g : Gm) (x y : Int) : Gm := { g with ph := 2, x := x, y := y }
def resgC (v : Vr) (g : Gm) (r : Int) : Int := if gmB v g = false then 1 else if ¬ (g.ph = 1 ∨ g.ph = 2) then 5 else if decide (1 ≤ r ∧ r ≤ 3) = false then 2 else 0
def resgG (g : Gm) (r : Int) : Gm := { g with ph := 3, wn := 1 - g.pl, rs := r, x := 0, y := 0 }
/-- The game behind a play with a board. -/
def turnG (v : Vr) (g : Gm) (b : Bd) : Gm :=
  if over b then ⟨b, g.pl, 0, 0, 3, g.pl, resP v b, g.tn + 1⟩ else ⟨swp b, 1 - g.pl, 0, 0, 1, 0, 0, g.tn + 1⟩
/-- The game behind a turn, and its code. -/
def turnP (v : Vr) (g : Gm) (ss : List Stp) : Option Gm × Int :=
  if gmB v g = false then (none, 1) else if g.ph ≠ 2 then (none, 5) else
    match playP v g.b g.x g.y ss with
    | none => (none, 5)
    | some b => if g.tn = 2000 then (none, 3) else (some (turnG v g b), 0)
/-- The fields that a kind of event does not use are zero. -/
def blankP (e : Ev) : Bool :=
  if e.k = 1 then decide (e.ss.length = 0 ∧ e.r = 0) else if e.k = 2 then decide (e.r = 0) else if e.k = 3 then decide (e.a = 0 ∧ e.b = 0 ∧ e.ss.length = 0) else false
/-- The game behind an event whose unused fields are zero. -/
def gameP (v : Vr) (g : Gm) (e : Ev) : Option Gm :=
  if e.k = 1 then (if openC v g e.a e.b = 0 then some (openG g e.a e.b) else none)
  else if e.k = 3 then (if resgC v g e.r = 0 then some (resgG g e.r) else none)
  else if g.ph = 1 then (if rollC v g e.a e.b = 0 then (turnP v (rollG g e.a e.b) e.ss).1 else none)
  else if g.ph = 2 ∧ g.x = e.a ∧ g.y = e.b then (turnP v g e.ss).1 else none
/-- The state behind an event. -/
def overS (v : Vr) (len : Int) (x : Ms) (g : Gm) : Ms :=
  if g.ph ≠ 3 then ⟨x.s0, x.s1, x.gs, g, false⟩ else
    let t0 := if g.wn = 0 then x.s0 + g.rs else x.s0
    let t1 := if g.wn = 0 then x.s1 else x.s1 + g.rs
    if len ≤ (if g.wn = 0 then t0 else t1) then ⟨t0, t1, x.gs + 1, g, true⟩ else ⟨t0, t1, x.gs + 1, newG v, false⟩
def nextS (v : Vr) (len : Int) (x : Ms) (e : Ev) : Option Ms :=
  if x.ov = true ∨ blankP e = false then none else (gameP v x.g e).map (overS v len x)
def startS (v : Vr) : Ms := ⟨0, 0, 0, newG v, false⟩
def headB (v : Vr) (len : Int) : Bool := okV v && decide (4 ≤ v.p) && decide (1 ≤ len ∧ len ≤ 25)
/-- The states behind events, one after the other. -/
def stGo (v : Vr) (len : Int) : Ms → List Ev → Option (List Ms)
  | x, [] => some [x]
  | x, e :: es => match nextS v len x e with
    | some y => (stGo v len y es).map (x :: ·)
    | none => none
def statesP (v : Vr) (len : Int) (es : List Ev) : Option (List Ms) := if headB v len = false ∨ 300 < es.length then none else stGo v len (startS v) es

/-! ### What is known of them -/
theorem gm_parts {v : Vr} {g : Gm} (h : gmB v g = true) : Ok v g.b ∧ 4 ≤ v.p ∧ (0 ≤ g.pl ∧ g.pl ≤ 1) ∧ (0 ≤ g.tn ∧ g.tn ≤ 2000) ∧ (g.ph = 2 → (1 ≤ g.x ∧ g.x ≤ v.s) ∧ 1 ≤ g.y ∧ g.y ≤ g.x) ∧ (g.ph = 1 ∨ g.ph = 2 → over g.b = false ∧ g.wn = 0 ∧ g.rs = 0) := by
  unfold gmB at h
  simp only [Bool.and_eq_true, decide_eq_true_eq] at h
  obtain ⟨⟨⟨⟨⟨h1, h2⟩, h3⟩, h4⟩, h5⟩, h6⟩ := h
  refine ⟨okB_iff.1 h1, h2, h3, h4, fun hp => ?_, fun hp => ?_⟩
  · rw [if_pos hp] at h5
    unfold rollB at h5
    simpa only [Bool.and_eq_true, decide_eq_true_eq] using h5
  · rw [if_neg (by omega), if_pos hp] at h6
    simpa only [Bool.and_eq_true, decide_eq_true_eq, Bool.not_eq_true'] using h6
/-- What a game behind an event is like. -/
theorem game_parts {v : Vr} {g g' : Gm} {e : Ev} (h : gameP v g e = some g') : (0 ≤ g'.pl ∧ g'.pl ≤ 1) ∧ (0 ≤ g'.tn ∧ g'.tn ≤ 2000) ∧ (g'.ph = 3 → (g'.wn = 0 ∨ g'.wn = 1) ∧ 1 ≤ g'.rs ∧ g'.rs ≤ 3) ∧ Ok v g'.b := by
  have hres : ∀ b, 1 ≤ resP v b ∧ resP v b ≤ 3 := fun b => by unfold resP; split <;> (try split) <;> omega
  have hturn : ∀ {g g' : Gm} {ss}, (turnP v g ss).1 = some g' → (0 ≤ g'.pl ∧ g'.pl ≤ 1) ∧ (0 ≤ g'.tn ∧ g'.tn ≤ 2000) ∧ (g'.ph = 3 → (g'.wn = 0 ∨ g'.wn = 1) ∧ 1 ≤ g'.rs ∧ g'.rs ≤ 3) ∧ Ok v g'.b := by
    intro g g' ss h
    unfold turnP at h
    split at h
    · cases h
    · rename_i h1
      have hg := gm_parts (by simpa using h1)
      split at h
      · cases h
      · split at h
        · cases h
        · rename_i b hb
          split at h
          · cases h
          · simp only [Option.some.injEq] at h
            have hok := play_ok hg.1 hb
            have hr := hres b
            unfold turnG at h
            split at h
            · subst h; exact ⟨hg.2.2.1, ⟨by show 0 ≤ g.tn + 1; omega, by show g.tn + 1 ≤ 2000; omega⟩, fun _ => ⟨by show g.pl = 0 ∨ g.pl = 1; omega, hr⟩, hok⟩
            · subst h; exact ⟨⟨by show 0 ≤ 1 - g.pl; omega, by show 1 - g.pl ≤ 1; omega⟩, ⟨by show 0 ≤ g.tn + 1; omega, by show g.tn + 1 ≤ 2000; omega⟩, fun hp => absurd (show (1 : Int) = 3 from hp) (by decide), swp_ok hok⟩
  unfold gameP at h
  split at h
  · split at h
    · rename_i h1
      simp only [Option.some.injEq] at h
      unfold openC at h1
      split at h1
      · exact absurd h1 (by decide)
      · rename_i h2
        have hg := gm_parts (by simpa using h2)
        split at h1
        · exact absurd h1 (by decide)
        · rename_i h3
          have h3 : g.ph = 0 := by simpa using h3
          unfold openG at h
          split at h
          · subst h; exact ⟨hg.2.2.1, hg.2.2.2.1, fun hp => by omega, hg.1⟩
          · subst h
            refine ⟨?_, hg.2.2.2.1, fun hp => absurd (show (2 : Int) = 3 from hp) (by decide), ?_⟩
            · show 0 ≤ (if e.a < e.b then 1 else g.pl) ∧ (if e.a < e.b then 1 else g.pl) ≤ 1
              have := hg.2.2.1
              split <;> omega
            · show Ok v (if e.a < e.b then swp g.b else g.b)
              split
              · exact swp_ok hg.1
              · exact hg.1
    · cases h
  · split at h
    · split at h
      · rename_i h1
        simp only [Option.some.injEq] at h
        unfold resgC at h1
        split at h1
        · exact absurd h1 (by decide)
        · rename_i h2
          have hg := gm_parts (by simpa using h2)
          split at h1
          · exact absurd h1 (by decide)
          · split at h1
            · exact absurd h1 (by decide)
            · rename_i h4
              have h4 : 1 ≤ e.r ∧ e.r ≤ 3 := by simpa using h4
              have := hg.2.2.1
              subst h
              exact ⟨this, hg.2.2.2.1, fun _ => ⟨by show 1 - g.pl = 0 ∨ 1 - g.pl = 1; omega, h4⟩, hg.1⟩
      · cases h
    · split at h
      · split at h
        · exact hturn h
        · cases h
      · split at h
        · exact hturn h
        · cases h
end Go.Proofs.YtlfdcefgelpgmaaGreatDoor.PlP

set_option linter.unusedVariables false
set_option linter.unusedSimpArgs false
namespace Go.Proofs.YtlfdcefgelpgmaaGreatDoor.PlP

theorem legal_legal1 {v : Vr} {b : Bd} {d : Int} {s : Stp} (hv : 0 ≤ v.p) (hd : 1 ≤ d ∧ d ≤ v.s) (h : s ∈ legalP v b d) : s.2.2.1 = d ∧ legal1 v b s = true := by
  have hd2 := legal_one hv h
  obtain ⟨ho, f, hf, h1⟩ := legal_mem hv h
  have hs : s.1 = f := by
    unfold stepP at h1
    split at h1
    · cases h1
    · split at h1
      · split at h1
        · simp only [Option.some.injEq] at h1; rw [← h1]
        · cases h1
      · split at h1
        · cases h1
        · simp only [Option.some.injEq] at h1; rw [← h1]
  exact ⟨hd2, legal1_iff.2 ⟨ho, by rw [hd2]; exact hd, by rw [hs]; exact hf, by rw [hs, hd2]; exact h1⟩⟩
theorem follow_snoc {v : Vr} {s : Stp} : ∀ (ds : List Int) (b c : Bd) (ss : List Stp), followP v b ds ss = some c → ds[ss.length]? = some s.2.2.1 → legal1 v c s = true → followP v b ds (ss ++ [s]) = some (afterP v c s)
  | [], b, c, ss, h, hd, hl => by simp at hd
  | d :: ds, b, c, [], h, hd, hl => by
    simp only [followP, Option.some.injEq] at h
    subst h
    simp only [List.length_nil, List.getElem?_cons_zero, Option.some.injEq] at hd
    simp only [List.nil_append, followP]
    rw [if_pos ⟨hd.symm, hl⟩]
  | d :: ds, b, c, t :: ss, h, hd, hl => by
    simp only [followP] at h
    split at h
    · rename_i h1
      simp only [List.cons_append, followP]
      rw [if_pos h1]
      exact follow_snoc ds _ c ss h (by simpa using hd) hl
    · cases h
/-- The plays of a row follow an order. -/
def RowF (v : Vr) (b : Bd) (o : List Int) (k : Nat) (ps : List Pl) : Prop := ∀ p ∈ ps, p.1.length = k ∧ followP v b o p.1 = some p.2
theorem next_follow {v : Vr} {b : Bd} {o : List Int} {k : Nat} {ps : List Pl} {d : Int} (hv : 0 ≤ v.p) (hd : 1 ≤ d ∧ d ≤ v.s) (ho : o[k]? = some d) (h : RowF v b o k ps) : RowF v b o (k + 1) (nextP v d ps) := by
  intro q hq
  rcases nxGo_mem ps [] hq with hq | ⟨p, hp, s, hs, rfl⟩
  · simp at hq
  · obtain ⟨h1, h2⟩ := h p hp
    obtain ⟨h3, h4⟩ := legal_legal1 hv hd hs
    exact ⟨by simp [h1], follow_snoc o b p.2 p.1 h2 (by rw [h1, ho, h3]) h4⟩
theorem lng_follow {v : Vr} {b : Bd} {o : List Int} (hv : 0 ≤ v.p) (hd : ∀ d ∈ o, 1 ≤ d ∧ d ≤ v.s) : ∀ (ds : List Int) (ps : List Pl) (k : Nat) (fine : Bool), o.drop k = ds → RowF v b o k ps → RowF v b o (lngGo v ds ps k fine).2.1 (lngGo v ds ps k fine).1 := by
  intro ds
  induction ds with
  | nil => intro ps k fine _ h; exact h
  | cons d ds ih =>
    intro ps k fine hk h
    simp only [lngGo]
    split
    · exact h
    · have hok : o[k]? = some d := by
        have : (o.drop k)[0]? = some d := by rw [hk]; rfl
        rw [List.getElem?_drop] at this
        simpa using this
      have hdr : o.drop (k + 1) = ds := by
        have := congrArg (List.drop 1) hk
        rw [List.drop_drop] at this
        simpa [Nat.add_comm] using this
      exact ih _ (k + 1) _ hdr (next_follow hv (hd d (List.mem_of_getElem? hok)) hok h)
theorem lng_row {v : Vr} {b : Bd} {o : List Int} (hv : 0 ≤ v.p) (hd : ∀ d ∈ o, 1 ≤ d ∧ d ≤ v.s) : RowF v b o (lngP v b o).2.1 (lngP v b o).1 :=
  lng_follow hv hd o [([], b)] 0 true rfl (by intro p hp; simp at hp; subst hp; exact ⟨rfl, by cases o <;> rfl⟩)
theorem lng_pos {v : Vr} (b : Bd) (o : List Int) : 0 < (lngP v b o).1.length := by
  have key : ∀ (ds : List Int) (ps : List Pl) (k : Nat) (fine : Bool), 0 < ps.length → 0 < (lngGo v ds ps k fine).1.length := by
    intro ds
    induction ds with
    | nil => intro ps k fine h; exact h
    | cons d ds ih =>
      intro ps k fine h
      simp only [lngGo]
      split
      · exact h
      · exact ih _ _ _ (by omega)
  exact key o [([], b)] 0 true (by simp)
theorem follow_die {v : Vr} {b c : Bd} {d : Int} {ds : List Int} {ss : List Stp} (h : followP v b (d :: ds) ss = some c) (h0 : 0 < ss.length) : ∃ s r, ss = s :: r ∧ s.2.2.1 = d := by
  cases ss with
  | nil => simp at h0
  | cons s r =>
    simp only [followP] at h
    split at h
    · rename_i h1; exact ⟨s, r, rfl, h1.1⟩
    · cases h
/-- **The steps of a play lead to its board.** -/
theorem all_play {v : Vr} {b : Bd} {x y : Int} (hv : 0 ≤ v.p) (hx : 1 ≤ x ∧ x ≤ v.s) (hy : 1 ≤ y ∧ y ≤ v.s) : ∀ p ∈ (allP v b x y).1, playP v b x y p.1 = some p.2 := by
  intro p hp
  by_cases e : x = y
  · have eo : ordP x y = [[x, x, x, x]] := by unfold ordP; rw [if_pos e]
    have hr := lng_row (b := b) (o := [x, x, x, x]) hv (by intro d hd; simp at hd; subst hd; exact hx)
    unfold allP at hp
    unfold playP ordS
    rw [eo] at hp ⊢
    have eu : usedP v b [[x, x, x, x]] = (lngP v b [x, x, x, x]).2.1 := by simp only [usedP]; omega
    simp only [allGo, eu] at hp
    have hm : p ∈ (lngP v b [x, x, x, x]).1 := by
      split at hp
      · simp at hp
      · rcases addAll_mem _ _ hp with hp | hp
        · simp at hp
        · exact hp
    obtain ⟨h1, h2⟩ := hr p hm
    rw [eu, if_pos h1, if_neg (by rintro ⟨_, h, _⟩; simp at h)]
    simp only [firstF, h2]
  · have eo : ordP x y = [[x, y], [y, x]] := by unfold ordP; rw [if_neg e]
    have r1 := lng_row (b := b) (o := [x, y]) hv (by intro d hd; simp at hd; rcases hd with rfl | rfl; exact hx; exact hy)
    have r2 := lng_row (b := b) (o := [y, x]) hv (by intro d hd; simp at hd; rcases hd with rfl | rfl; exact hy; exact hx)
    have q1 := lng_pos (v := v) b [x, y]
    have e1 := rows_one hv b x [y]
    have l1 := lng_rows v b [x, y]
    unfold allP at hp
    unfold playP ordS
    rw [eo] at hp ⊢
    obtain ⟨u, hu⟩ : ∃ u, usedP v b [[x, y], [y, x]] = u := ⟨_, rfl⟩
    rw [hu] at hp ⊢
    have hub : (lngP v b [x, y]).2.1 ≤ u ∧ (lngP v b [y, x]).2.1 ≤ u := by rw [← hu]; simp only [usedP]; omega
    simp only [allGo] at hp
    have nadd : ∀ (ps : List Pl), 0 < ps.length → 0 < (addAll [] ps).length := fun ps h => addAll_pos h
    have hcase : (p ∈ (lngP v b [x, y]).1 ∧ (lngP v b [x, y]).2.1 = u) ∨ (p ∈ (lngP v b [y, x]).1 ∧ (lngP v b [y, x]).2.1 = u ∧ ¬ (u = 1 ∧ (lngP v b [x, y]).2.1 = 1)) := by
      by_cases hA : (lngP v b [x, y]).2.1 ≠ u ∨ (u = 1 ∧ 0 = 1 ∧ 0 < ([] : List Pl).length)
      · rw [if_pos hA] at hp
        have hA' : (lngP v b [x, y]).2.1 ≠ u := by rcases hA with h | ⟨_, h, _⟩; exact h; exact absurd h (by decide)
        split at hp
        · simp at hp
        · rename_i hB
          rcases addAll_mem _ _ hp with hp | hp
          · simp at hp
          · exact .inr ⟨hp, Classical.byContradiction fun h => hB (.inl h), fun h => hA' (by omega)⟩
      · rw [if_neg hA] at hp
        have hA' : (lngP v b [x, y]).2.1 = u := Classical.byContradiction fun h => hA (.inl h)
        split at hp
        · rcases addAll_mem _ _ hp with hp | hp
          · simp at hp
          · exact .inl ⟨hp, hA'⟩
        · rename_i hB
          rcases addAll_mem _ _ hp with hp | hp
          · rcases addAll_mem _ _ hp with hp | hp
            · simp at hp
            · exact .inl ⟨hp, hA'⟩
          · exact .inr ⟨hp, Classical.byContradiction fun h => hB (.inl h), fun h => hB (.inr ⟨h.1, by simp, nadd _ q1⟩)⟩
    rcases hcase with ⟨hm, hn⟩ | ⟨hm, hn, hno⟩
    · obtain ⟨h1, h2⟩ := r1 p hm
      rw [if_pos (by omega)]
      split <;> simp only [firstF, h2, List.take]
    · obtain ⟨h1, h2⟩ := r2 p hm
      rw [if_pos (by omega)]
      have hc : ¬ (u = 1 ∧ ([[x, y], [y, x]] : List (List Int)).length = 2 ∧ 0 < (legalP v b x).length) := by
        rintro ⟨hu1, _, hl⟩
        refine hno ⟨hu1, ?_⟩
        have h3 : ¬ (rowsP v b [x, y]).1.length ≤ 1 := fun h => by have := e1.1 h; omega
        have h4 := congrArg (fun z => z.2.1) l1.1
        simp only at h4
        omega
      rw [if_neg hc]
      by_cases h0 : p.1.length = 0
      · have hnil := List.eq_nil_of_length_eq_zero h0
        rw [hnil] at h2 ⊢
        simp only [followP, Option.some.injEq] at h2
        simp only [firstF, followP, h2]
      · obtain ⟨s, r, hs, hd⟩ := follow_die h2 (by omega)
        have hf : followP v b [x, y] p.1 = none := by
          rw [hs]
          simp only [followP]
          rw [if_neg (fun h => e (by rw [← h.1, hd]))]
        simp only [firstF, hf, h2]
/-- Boards of different plays differ. -/
def Diff (ps : List Pl) : Prop := ∀ (i j : Nat) (p q : Pl), ps[i]? = some p → ps[j]? = some q → p.2 = q.2 → i = j
theorem addOne_diff {ps : List Pl} {p : Pl} (h : Diff ps) : Diff (addOne ps p) := by
  unfold addOne
  split
  · exact h
  · rename_i hn
    have hno : ∀ q ∈ ps, q.2 ≠ p.2 := fun q hq e => hn (hasB_iff.2 ⟨q, hq, e⟩)
    intro i j a b hi hj e
    rw [List.getElem?_append] at hi hj
    split at hi
    · split at hj
      · exact h i j a b hi hj e
      · rename_i h2
        have : b = p := by
          cases hk : j - ps.length with
          | zero => rw [hk] at hj; simpa using hj.symm
          | succ k => rw [hk] at hj; simp at hj
        subst this
        exact absurd e (hno a (List.mem_of_getElem? hi))
    · split at hj
      · have : a = p := by
          cases hk : i - ps.length with
          | zero => rw [hk] at hi; simpa using hi.symm
          | succ k => rw [hk] at hi; simp at hi
        subst this
        exact absurd e.symm (hno b (List.mem_of_getElem? hj))
      · have h1 : i - ps.length = 0 := by
          cases hk : i - ps.length with
          | zero => rfl
          | succ k => rw [hk] at hi; simp at hi
        have h2 : j - ps.length = 0 := by
          cases hk : j - ps.length with
          | zero => rfl
          | succ k => rw [hk] at hj; simp at hj
        omega
theorem addAll_diff : ∀ (ps out : List Pl), Diff out → Diff (addAll out ps) := by
  intro ps
  induction ps with
  | nil => intro out h; exact h
  | cons p ps ih => intro out h; exact ih _ (addOne_diff h)
theorem all_diff (v : Vr) (b : Bd) (x y : Int) : Diff (allP v b x y).1 := by
  have key : ∀ (os : List (List Int)) (u i : Nat) (out : List Pl) (fine : Bool), Diff out → Diff (allGo v b u i os out fine).1 := by
    intro os
    induction os with
    | nil => intro u i out fine h; exact h
    | cons o os ih =>
      intro u i out fine h
      simp only [allGo]
      refine ih _ _ _ _ ?_
      split
      · exact h
      · exact addAll_diff _ _ h
  exact key _ _ _ _ _ (by intro i j p q hi; simp at hi)
end Go.Proofs.YtlfdcefgelpgmaaGreatDoor.PlP
