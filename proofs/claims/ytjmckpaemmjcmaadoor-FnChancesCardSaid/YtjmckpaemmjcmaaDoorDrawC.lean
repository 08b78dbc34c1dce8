/-
  The draws of ratings: a length, a chance. Conditions: each theorem's own.
-/
import Derived.Test.YtjmckpaemmjcmaaDoorDraw
set_option linter.unusedVariables false
namespace Go.Proofs.YtjmckpaemmjcmaaDoor.DrawC
open Go.ChangeShapes Go.WideShapes Go.ChangeAt Go.RowKit Base Ints Own Draw
variable {w0 w w' : World} {B g cp : Nat} {A : Option Addr} {xs : List Int}

set_option maxHeartbeats 1000000 in
theorem length (h : Dr w0 B g A cp xs w) :
    Calls Tryd.prog 46 #[.pointer (some ⟨g, 0, none⟩)] w fun e w' => (∃ x, e = .returned (.int .i64 x) ∧ 0 ≤ x ∧ x ≤ 26) ∧ Dr w0 B g A cp xs w' ∧ w.grownBy w' (some g) := by
  have hlt := h.lt
  go_enter Tryd.func46, Tryd.ntmps46
  go_wp2_with fail
  refine (next' h 20 (by decide)).mono ?_
  rintro e w1 ⟨⟨x, rfl, x0, x1, -⟩, h1, hg1, -⟩
  have x1 := x1 (by decide)
  by_cases hx : x = 0
  · subst hx
    have hlt1 := h1.lt
    go_wp2_with fail
    refine (next' (h1.alloc _) 3 (by decide)).mono ?_
    rintro e w2 ⟨⟨y, rfl, y0, y1, -⟩, h2, hg2, -⟩
    have y1 := y1 (by decide)
    obtain ⟨c0, c1, c2⟩ := ((RowB.new _ _ _).grown hg2 (fun k hk => by simp at hk; omega)).c3
    have hgg : w.grownBy w2 (some g) := grownBy_trans (grownBy_trans hg1 (World.grownBy_alloc _ _ _)) hg2
    obtain rfl | rfl | rfl : y = 0 ∨ y = 1 ∨ y = 2 := by omega
    all_goals
      go_wp2_with fail
      go_ret
      exact ⟨⟨_, rfl, by omega, by omega⟩, h2, hgg⟩
  · have e1 : (x == 0) = false := by simp [hx]
    clear hx
    go_wp2_with fail
    refine (next' h1 15 (by decide)).mono ?_
    rintro e w2 ⟨⟨y, rfl, y0, y1, -⟩, h2, hg2, -⟩
    have y1 := y1 (by decide)
    go_wp2_with fail
    go_ret
    exact ⟨⟨_, rfl, by omega, by omega⟩, h2, grownBy_trans hg1 hg2⟩

set_option maxHeartbeats 2000000 in
theorem chance (hr : RdS w w.heap.size 1 enB A xs) (hw : ∀ x ∈ xs, (Lit.int .u8 x).wf = true) :
    Calls Tryd.prog 15 #[.slice A xs.length cp] w fun e w' => (∃ d L : Int, e = .returned (.tuple #[.int .i64 d, .int .i64 L]) ∧ -1000001 ≤ d ∧ d ≤ 1000001 ∧ 0 ≤ L ∧ L ≤ 26) ∧ Below w.heap.size w w' := by
  go_enter Tryd.func15, Tryd.ntmps15
  go_wp2_with fail
  refine (new_ hr hw).mono ?_
  rintro e w1 ⟨rfl, h1⟩
  go_wp2_with fail
  refine (next' h1 3001 (by decide)).mono ?_
  rintro e w2 ⟨⟨x, rfl, x0, x1, -⟩, h2, hg2, -⟩
  have x1 := x1 (by decide)
  go_wp2_with fail
  refine (next' h2 12 (by decide)).mono ?_
  rintro e w3 ⟨⟨y, rfl, y0, y1, -⟩, h3, hg3, -⟩
  have y1 := y1 (by decide)
  clear hg2 hg3
  by_cases hy : y = 0
  · subst hy
    go_wp2_with fail
    have hl3 := h3.lt
    refine (next' (h3.alloc _) 5 (by decide)).mono ?_
    rintro e w4 ⟨⟨z, rfl, z0, z1, -⟩, h4, hg4, -⟩
    have z1 := z1 (by decide)
    obtain ⟨c0, c1, c2, c3, c4⟩ := ((RowB.new _ _ _).grown hg4 (fun k hk => by simp at hk; omega)).c5
    obtain rfl | rfl | rfl | rfl | rfl : z = 0 ∨ z = 1 ∨ z = 2 ∨ z = 3 ∨ z = 4 := by omega
    all_goals
      go_wp2_with fail
      refine (length h4).mono ?_
      rintro e w9 ⟨⟨L, rfl, l0, l1⟩, h9, hg9⟩
      go_wp2_with fail
      go_ret2
      exact ⟨⟨_, _, rfl, by omega, by omega, by omega, by omega⟩, h9.bel⟩
  · have e1 : (y == 0) = false := by simp [hy]
    by_cases hy1 : y = 1
    · subst hy1
      clear hy
      go_wp2_with fail
      refine (next' h3 100 (by decide)).mono ?_
      rintro e w4 ⟨⟨z, rfl, z0, z1, -⟩, h4, hg4, -⟩
      have z1 := z1 (by decide)
      go_wp2_with fail
      refine (length h4).mono ?_
      rintro e w9 ⟨⟨L, rfl, l0, l1⟩, h9, hg9⟩
      go_wp2_with fail
      go_ret2
      exact ⟨⟨_, _, rfl, by omega, by omega, by omega, by omega⟩, h9.bel⟩
    · have e2 : (y == 1) = false := by simp [hy1]
      clear hy hy1
      go_wp2_with fail
      refine (length h3).mono ?_
      rintro e w9 ⟨⟨L, rfl, l0, l1⟩, h9, hg9⟩
      go_wp2_with fail
      go_ret2
      exact ⟨⟨_, _, rfl, by omega, by omega, by omega, by omega⟩, h9.bel⟩

theorem bigF (n cp : Nat) (A : Option Addr) (w : World) (hn : n ≤ maxLen) : Calls Tryd.prog 14 #[.slice A n cp] w fun e w' => e = .returned (.bool (decide ((4096 : Int) < (n : Int)))) ∧ w = w' := by
  unfold maxLen at hn
  go_enter Tryd.func14, Tryd.ntmps14
  go_wp2
  go_ret
  exact ⟨rfl, rfl⟩
theorem bigB (n cp : Nat) (A : Option Addr) (b : Bool) (hb : decide ((4096 : Int) < (n : Int)) = b) (w : World) (hn : n ≤ maxLen) : Calls Tryd.prog 14 #[.slice A n cp] w fun e w' => e = .returned (.bool b) ∧ w = w' := by
  subst hb; exact bigF n cp A w hn
end Go.Proofs.YtjmckpaemmjcmaaDoor.DrawC
