/-
  SummaryOf, plainly; the grade of a loss. Conditions: each theorem's own.
-/
import Derived.Test.YtahpdboehpicoaaDoorVerdictS
import Derived.Test.YtahpdboehpicoaaDoorInts
import Derived.Test.YtahpdboehpicoaaDoorOwn
import Derived.Test.YtahpdboehpicoaaDoorInv
import Derived.StillTailTactics
set_option linter.unusedVariables false
namespace Go.Proofs.YtahpdboehpicoaaDoor.Summ
open Go.ChangeShapes Go.WideShapes Go.ChangeAt Go.RowKit Base Base2 Ints Own

abbrev V4 := Int × Int × Int × Int
abbrev St := Int × Int × Int × Int × List Int
def grd (x : Int) : Int := if x < 0 then -1 else if x < 20000 then 0 else if x < 50000 then 1 else if x < 100000 then 2 else 3
theorem grd_bd {x : Int} (h : 0 ≤ x) : 0 ≤ grd x ∧ grd x < 4 := by unfold grd; split <;> (try split) <;> (try split) <;> (try split) <;> omega
def okV (v : V4) : Bool := decide ((0 ≤ v.2.2.1 ∧ v.2.2.1 ≤ 1000000) ∧ -1000000 ≤ v.2.2.2 ∧ v.2.2.2 ≤ 1000000)
def lossAt (xs : List V4) (i : Int) : Int := (xs.getD i.toNat (0, 0, 0, 0)).2.2.1
def stp (xs : List V4) (pl : Int) (s : St) (k : Nat) : St :=
  let x := xs.getD k (0, 0, 0, 0)
  if x.2.1 = pl then (s.1 + 1, s.2.1 + x.2.2.1, s.2.2.1 + x.2.2.2, (if s.2.2.2.1 < 0 ∨ lossAt xs s.2.2.2.1 < x.2.2.1 then (k : Int) else s.2.2.2.1), s.2.2.2.2.set (grd x.2.2.1).toNat (s.2.2.2.2.getD (grd x.2.2.1).toNat 0 + 1)) else s
def smS (xs : List V4) (pl : Int) : Nat → St
  | 0 => (0, 0, 0, -1, [0, 0, 0, 0])
  | k + 1 => stp xs pl (smS xs pl k) k
def smR (xs : List V4) (pl : Int) : St × Int :=
  if 300 < xs.length then ((0, 0, 0, 0, []), 3) else if ¬ (0 ≤ pl ∧ pl ≤ 1) then ((0, 0, 0, 0, []), 2) else if xs.all okV then (smS xs pl xs.length, 0) else ((0, 0, 0, 0, []), 5)
/-- What holds of the state behind k verdicts. -/
def Bd (k : Nat) (s : St) : Prop := (0 ≤ s.1 ∧ s.1 ≤ k) ∧ (0 ≤ s.2.1 ∧ s.2.1 ≤ 1000000 * (k : Int)) ∧ (-(1000000 * (k : Int)) ≤ s.2.2.1 ∧ s.2.2.1 ≤ 1000000 * (k : Int)) ∧ (-1 ≤ s.2.2.2.1 ∧ s.2.2.2.1 < k) ∧ s.2.2.2.2.length = 4 ∧ ∀ x ∈ s.2.2.2.2, 0 ≤ x ∧ x ≤ k
theorem okV_at {xs : List V4} (h : xs.all okV = true) {k : Nat} (hk : k < xs.length) : okV (xs.getD k (0, 0, 0, 0)) = true := by
  rw [List.getD_eq_getElem?_getD, List.getElem?_eq_getElem hk]
  exact (List.all_eq_true.1 h) _ (List.getElem_mem hk)
theorem getD_mem {l : List Int} {i : Nat} (h : i < l.length) : l.getD i 0 ∈ l := by
  rw [List.getD_eq_getElem?_getD, List.getElem?_eq_getElem h]; exact List.getElem_mem h
theorem Bd.more {k : Nat} {s : St} (h : Bd k s) : Bd (k + 1) s := by
  obtain ⟨a, b, c, d, e, f⟩ := h
  exact ⟨by omega, by omega, by omega, by omega, e, fun x hx => by have := f x hx; omega⟩
theorem stp_bd {xs : List V4} {pl : Int} {s : St} {k : Nat} (h : xs.all okV = true) (hk : k < xs.length) (hb : Bd k s) : Bd (k + 1) (stp xs pl s k) := by
  have ho := okV_at h hk
  unfold okV at ho
  have ho := of_decide_eq_true ho
  unfold stp
  simp only
  generalize xs.getD k (0, 0, 0, 0) = x at *
  split
  · obtain ⟨a, b, c, d, e, f⟩ := hb
    have hg := grd_bd ho.1.1
    refine ⟨?_, ?_, ?_, ?_, ?_, ?_⟩
    · simp only; omega
    · simp only; omega
    · simp only; omega
    · simp only; split <;> omega
    · simp only [List.length_set]; exact e
    · intro y hy
      simp only at hy
      rcases List.mem_or_eq_of_mem_set hy with hy | hy
      · have := f y hy; omega
      · have := f _ (getD_mem (l := s.2.2.2.2) (i := (grd x.2.2.1).toNat) (by omega)); omega
  · exact hb.more
theorem smS_bd {xs : List V4} {pl : Int} (h : xs.all okV = true) : ∀ k, k ≤ xs.length → Bd k (smS xs pl k) := by
  intro k
  induction k with
  | zero => intro _; simp only [smS]; refine ⟨by simp, by simp, by simp, by simp, rfl, ?_⟩; intro x hx; simp at hx; omega
  | succ k ih => intro hk; exact stp_bd h (by omega) (ih (by omega))
theorem all_no {xs : List V4} {k : Nat} {x : V4} (hx : xs[k]? = some x) (h : okV x = false) : xs.all okV = false := by
  cases hc : xs.all okV with
  | false => rfl
  | true =>
    have := (List.all_eq_true.1 hc) x (List.mem_of_getElem? hx)
    rw [h] at this; exact absurd this (by decide)
theorem all_take {xs : List V4} {k : Nat} {x : V4} (hx : xs[k]? = some x) (h : okV x = true) (ht : (xs.take k).all okV = true) : (xs.take (k + 1)).all okV = true := by
  rw [take_succ xs k x hx, List.all_append, ht]; simp [h]

theorem grd_spec (x : Int) (w : World) : Calls Tryd.prog 14 #[.int .i64 x] w fun e w' => e = .returned (.int .i64 (grd x)) ∧ w = w' := by
  unfold grd
  by_cases h0 : x < 0
  · rw [if_pos h0]
    go_enter Tryd.func14, Tryd.ntmps14
    go_wp2
    go_ret
    exact ⟨rfl, rfl⟩
  · rw [if_neg h0]
    by_cases h1 : x < 20000
    · rw [if_pos h1]
      go_enter Tryd.func14, Tryd.ntmps14
      go_wp2
      go_ret
      exact ⟨rfl, rfl⟩
    · rw [if_neg h1]
      by_cases h2 : x < 50000
      · rw [if_pos h2]
        go_enter Tryd.func14, Tryd.ntmps14
        go_wp2
        go_ret
        exact ⟨rfl, rfl⟩
      · rw [if_neg h2]
        by_cases h3 : x < 100000
        · rw [if_pos h3]
          go_enter Tryd.func14, Tryd.ntmps14
          go_wp2
          go_ret
          exact ⟨rfl, rfl⟩
        · rw [if_neg h3]
          go_enter Tryd.func14, Tryd.ntmps14
          go_wp2
          go_ret
          exact ⟨rfl, rfl⟩
theorem grd_impl (x : Int) (w : World) : Calls Tryd.prog 13 #[.int .i64 x] w fun e w' => e = .returned (.int .i64 (grd x)) ∧ w = w' := by
  unfold grd
  by_cases h0 : x < 0
  · rw [if_pos h0]
    go_enter Tryd.func13, Tryd.ntmps13
    go_wp2
    go_ret
    exact ⟨rfl, rfl⟩
  · rw [if_neg h0]
    by_cases h1 : x < 20000
    · rw [if_pos h1]
      go_enter Tryd.func13, Tryd.ntmps13
      go_wp2
      go_ret
      exact ⟨rfl, rfl⟩
    · rw [if_neg h1]
      by_cases h2 : x < 50000
      · rw [if_pos h2]
        go_enter Tryd.func13, Tryd.ntmps13
        go_wp2
        go_ret
        exact ⟨rfl, rfl⟩
      · rw [if_neg h2]
        by_cases h3 : x < 100000
        · rw [if_pos h3]
          go_enter Tryd.func13, Tryd.ntmps13
          go_wp2
          go_ret
          exact ⟨rfl, rfl⟩
        · rw [if_neg h3]
          go_enter Tryd.func13, Tryd.ntmps13
          go_wp2
          go_ret
          exact ⟨rfl, rfl⟩

theorem in_spec (n a b : Int) (w : World) (h : a ≤ n ∧ n ≤ b) : Calls Tryd.prog 22 #[.int .i64 n, .int .i64 a, .int .i64 b] w fun e w' => e = .returned (.bool true) ∧ w = w' := by
  obtain ⟨h1, h2⟩ := h
  go_enter Tryd.func22, Tryd.ntmps22
  go_wp2
  go_ret
  exact ⟨rfl, rfl⟩
theorem out_spec (n a b : Int) (w : World) (h : ¬ (a ≤ n ∧ n ≤ b)) : Calls Tryd.prog 22 #[.int .i64 n, .int .i64 a, .int .i64 b] w fun e w' => e = .returned (.bool false) ∧ w = w' := by
  by_cases h1 : a ≤ n
  · have h2 : b < n := by omega
    go_enter Tryd.func22, Tryd.ntmps22
    go_wp2
    go_ret
    exact ⟨by simp; omega, rfl⟩
  · go_enter Tryd.func22, Tryd.ntmps22
    go_wp2
    go_ret
    exact ⟨rfl, rfl⟩
theorem in_impl (n a b : Int) (w : World) (h : a ≤ n ∧ n ≤ b) : Calls Tryd.prog 21 #[.int .i64 n, .int .i64 a, .int .i64 b] w fun e w' => e = .returned (.bool true) ∧ w = w' := by
  obtain ⟨h1, h2⟩ := h
  go_enter Tryd.func21, Tryd.ntmps21
  go_wp2
  go_ret
  exact ⟨rfl, rfl⟩
theorem out_impl (n a b : Int) (w : World) (h : ¬ (a ≤ n ∧ n ≤ b)) : Calls Tryd.prog 21 #[.int .i64 n, .int .i64 a, .int .i64 b] w fun e w' => e = .returned (.bool false) ∧ w = w' := by
  by_cases h1 : a ≤ n
  · have h2 : b < n := by omega
    go_enter Tryd.func21, Tryd.ntmps21
    go_wp2
    go_ret
    exact ⟨by simp; omega, rfl⟩
  · go_enter Tryd.func21, Tryd.ntmps21
    go_wp2
    go_ret
    exact ⟨rfl, rfl⟩

/-- The state in memory: the result's box, the summary's box b7, the grades' block G. -/
structure Sm (w W : World) (b7 G : Nat) (t l u o : Int) (gs : List Int) : Prop where
  bel : Below w.heap.size w W
  r4 : RowB W w.heap.size 35 [.int .i64 0, .int .i64 0, .int .i64 0, .int .i64 0, .slice none 0 0]
  r7 : RowB W b7 35 [.int .i64 t, .int .i64 l, .int .i64 u, .int .i64 o, .slice (some ⟨G, 0, none⟩) 4 4]
  rg : RowB W G 2 (gs.flatMap enI)
  l7 : w.heap.size < b7
  lg : w.heap.size < G
  ne : G < b7
section
variable {w W : World} {b7 G : Nat} {t l u o : Int} {gs : List Int}
theorem Sm.alloc (h : Sm w W b7 G t l u o gs) (ob : Obj) : Sm w (W.alloc ob) b7 G t l u o gs := ⟨h.bel.alloc h.bel.size _, h.r4.alloc _, h.r7.alloc _, h.rg.alloc _, h.l7, h.lg, h.ne⟩
theorem Sm.drew (h : Sm w W b7 G t l u o gs) : Sm w W.drew b7 G t l u o gs := ⟨h.bel.drew, h.r4.drew, h.r7.drew, h.rg.drew, h.l7, h.lg, h.ne⟩
theorem Sm.drewN (h : Sm w W b7 G t l u o gs) (n : Nat) : Sm w (W.drewN n) b7 G t l u o gs := ⟨below_drewN h.bel n, h.r4, h.r7, h.rg, h.l7, h.lg, h.ne⟩
theorem Sm.set7 (h : Sm w W b7 G t l u o gs) (j : Nat) (x : Value) (t' l' u' o' : Int) (he : [.int .i64 t, .int .i64 l, .int .i64 u, .int .i64 o, .slice (some ⟨G, 0, none⟩) 4 4].set j x = [.int .i64 t', .int .i64 l', .int .i64 u', .int .i64 o', .slice (some ⟨G, 0, none⟩) 4 4]) :
    Sm w (W.setCell ⟨b7, j, none⟩ x) b7 G t' l' u' o' gs := by
  have h7 := h.r7.set j x
  rw [he] at h7
  exact ⟨h.bel.setCell (p := ⟨b7, j, none⟩) (Nat.le_of_lt h.l7) _, h.r4.other (by have := h.l7; show w.heap.size ≠ b7; omega) _, h7, h.rg.other (by have := h.ne; show G ≠ b7; omega) _, h.l7, h.lg, h.ne⟩
theorem Sm.setG (h : Sm w W b7 G t l u o gs) (j : Nat) (x : Int) (hj : j < gs.length) : Sm w (W.setCell ⟨G, j, none⟩ (.int .i64 x)) b7 G t l u o (gs.set j x) := by
  have hg := h.rg.set j (.int .i64 x)
  have e : ∀ (gs : List Int) (j : Nat), j < gs.length → (gs.flatMap enI).set j (.int .i64 x) = (gs.set j x).flatMap enI := by
    intro gs
    induction gs with
    | nil => intro j hj; simp at hj
    | cons y ys ih =>
      intro j hj
      cases j with
      | zero => rfl
      | succ j =>
        have hj' : j < ys.length := by simpa using hj
        simp only [List.flatMap_cons, enI, List.cons_append, List.nil_append, List.set_cons_succ]
        exact congrArg _ (ih j hj')
  rw [e gs j hj] at hg
  exact ⟨h.bel.setCell (p := ⟨G, j, none⟩) (Nat.le_of_lt h.lg) _, h.r4.other (by have := h.lg; show w.heap.size ≠ G; omega) _, h.r7.other (by have := h.ne; show b7 ≠ G; omega) _, hg, h.l7, h.lg, h.ne⟩
theorem Sm.cellG (h : Sm w W b7 G t l u o gs) {j : Nat} (hj : j < gs.length) : W.cell? ⟨G, j, none⟩ = some (.int .i64 (gs.getD j 0)) := by
  have hx : gs[j]? = some (gs.getD j 0) := by rw [List.getD_eq_getElem?_getD, List.getElem?_eq_getElem hj]; rfl
  rw [h.rg.cell]
  have := flatMap_at enI_len gs j _ hx 0 _ rfl
  simpa using this
end
theorem retS {A : Option Addr} {n m cp : Nat} {a b c d x a' b' c' d' x' : Int} (h1 : a = a') (h2 : b = b') (h3 : c = c') (h4 : d = d') (h5 : x = x') (hn : n = m) :
    Ending.returned (.tuple #[.agg #[.int .i64 a, .int .i64 b, .int .i64 c, .int .i64 d, .slice A n cp], .int .i64 x]) = Ending.returned (.tuple #[.agg #[.int .i64 a', .int .i64 b', .int .i64 c', .int .i64 d', .slice A m cp], .int .i64 x']) := by rw [h1, h2, h3, h4, h5, hn]
theorem five {W : World} {g : Nat} {t : TypeId} {a b c d e : Value} (h : RowB W g t [a, b, c, d, e]) (u v w x y : Value) : RowB (((((W.setCell ⟨g, 0, none⟩ u).setCell ⟨g, 1, none⟩ v).setCell ⟨g, 2, none⟩ w).setCell ⟨g, 3, none⟩ x).setCell ⟨g, 4, none⟩ y) g t [u, v, w, x, y] :=
  ((((h.set 0 u).set 1 v).set 2 w).set 3 x).set 4 y
theorem below_five {w W : World} (h : Below w.heap.size w W) (u v x y z : Value) : Below w.heap.size w (((((W.setCell ⟨w.heap.size, 0, none⟩ u).setCell ⟨w.heap.size, 1, none⟩ v).setCell ⟨w.heap.size, 2, none⟩ x).setCell ⟨w.heap.size, 3, none⟩ y).setCell ⟨w.heap.size, 4, none⟩ z) := by
  refine ((((h.setCell (p := ⟨w.heap.size, 0, none⟩) ?_ _).setCell (p := ⟨w.heap.size, 1, none⟩) ?_ _).setCell (p := ⟨w.heap.size, 2, none⟩) ?_ _).setCell (p := ⟨w.heap.size, 3, none⟩) ?_ _).setCell (p := ⟨w.heap.size, 4, none⟩) ?_ _ <;> exact Nat.le_refl _
end Go.Proofs.YtahpdboehpicoaaDoor.Summ
