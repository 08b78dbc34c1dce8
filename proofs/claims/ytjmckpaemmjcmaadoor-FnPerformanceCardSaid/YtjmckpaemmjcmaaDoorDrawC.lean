/-
  The draws of ratings: a length, a chance. Conditions: each theorem's own.
-/
import Derived.Test.YtjmckpaemmjcmaaDoorDraw
set_option linter.unusedVariables false
namespace Go.Proofs.YtjmckpaemmjcmaaDoor.DrawC
open Go.ChangeShapes Go.WideShapes Go.ChangeAt Go.RowKit Base Ints Own Draw
variable {w0 w w' : World} {B g cp : Nat} {A : Option Addr} {xs : List Int}

set_option maxHeartbeats 1000000 in
theorem length (h : Dr w0 B g A cp xs w) :
    Calls Tryd.prog 46 #[.pointer (some ⟨g, 0, none⟩)] w fun e w' => (∃ x, e = .returned (.int .i64 x) ∧ 0 ≤ x ∧ x ≤ 26) ∧ Dr w0 B g A cp xs w' ∧ w.grownBy w' (some g) := by
  have hlt := h.lt
  go_enter Tryd.func46, Tryd.ntmps46
  go_wp2_with fail
  refine (next' h 20 (by decide)).mono ?_
  rintro e w1 ⟨⟨x, rfl, x0, x1, -⟩, h1, hg1, -⟩
  have x1 := x1 (by decide)
  by_cases hx : x = 0
  · subst hx
    have hlt1 := h1.lt
    go_wp2_with fail
    refine (next' (h1.alloc _) 3 (by decide)).mono ?_
    rintro e w2 ⟨⟨y, rfl, y0, y1, -⟩, h2, hg2, -⟩
    have y1 := y1 (by decide)
    obtain ⟨c0, c1, c2⟩ := ((RowB.new _ _ _).grown hg2 (fun k hk => by simp at hk; omega)).c3
    have hgg : w.grownBy w2 (some g) := grownBy_trans (grownBy_trans hg1 (World.grownBy_alloc _ _ _)) hg2
    obtain rfl | rfl | rfl : y = 0 ∨ y = 1 ∨ y = 2 := by omega
    all_goals
      go_wp2_with fail
      go_ret
      exact ⟨⟨_, rfl, by omega, by omega⟩, h2, hgg⟩
  · have e1 : (x == 0) = false := by simp [hx]
    clear hx
    go_wp2_with fail
    refine (next' h1 15 (by decide)).mono ?_
    rintro e w2 ⟨⟨y, rfl, y0, y1, -⟩, h2, hg2, -⟩
    have y1 := y1 (by decide)
    go_wp2_with fail
    go_ret
    exact ⟨⟨_, rfl, by omega, by omega⟩, h2, grownBy_trans hg1 hg2⟩

set_option maxHeartbeats 2000000 in
theorem chance (hr : RdS w w.heap.size 1 enB A xs) (hw : ∀ x ∈ xs, (Lit.int .u8 x).wf = true) :
    Calls Tryd.prog 15 #[.slice A xs.length cp] w fun e w' => (∃ d L : Int, e = .returned (.tuple #[.int .i64 d, .int .i64 L]) ∧ -1000001 ≤ d ∧ d ≤ 1000001 ∧ 0 ≤ L ∧ L ≤ 26) ∧ Below w.heap.size w w' := by
  go_enter Tryd.func15, Tryd.ntmps15
  go_wp2_with fail
  refine (new_ hr hw).mono ?_
  rintro e w1 ⟨rfl, h1⟩
  go_wp2_with fail
  refine (next' h1 3001 (by decide)).mono ?_
  rintro e w2 ⟨⟨x, rfl, x0, x1, -⟩, h2, hg2, -⟩
  have x1 := x1 (by decide)
  go_wp2_with fail
  refine (next' h2 12 (by decide)).mono ?_
  rintro e w3 ⟨⟨y, rfl, y0, y1, -⟩, h3, hg3, -⟩
  have y1 := y1 (by decide)
  clear hg2 hg3
  by_cases hy : y = 0
  · subst hy
    go_wp2_with fail
    have hl3 := h3.lt
    refine (next' (h3.alloc _) 5 (by decide)).mono ?_
    rintro e w4 ⟨⟨z, rfl, z0, z1, -⟩, h4, hg4, -⟩
    have z1 := z1 (by decide)
    obtain ⟨c0, c1, c2, c3, c4⟩ := ((RowB.new _ _ _).grown hg4 (fun k hk => by simp at hk; omega)).c5
    obtain rfl | rfl | rfl | rfl | rfl : z = 0 ∨ z = 1 ∨ z = 2 ∨ z = 3 ∨ z = 4 := by omega
    all_goals
      go_wp2_with fail
      refine (length h4).mono ?_
      rintro e w9 ⟨⟨L, rfl, l0, l1⟩, h9, hg9⟩
      go_wp2_with fail
      go_ret2
      exact ⟨⟨_, _, rfl, by omega, by omega, by omega, by omega⟩, h9.bel⟩
  · have e1 : (y == 0) = false := by simp [hy]
    by_cases hy1 : y = 1
    · subst hy1
      clear hy
      go_wp2_with fail
      refine (next' h3 100 (by decide)).mono ?_
      rintro e w4 ⟨⟨z, rfl, z0, z1, -⟩, h4, hg4, -⟩
      have z1 := z1 (by decide)
      go_wp2_with fail
      refine (length h4).mono ?_
      rintro e w9 ⟨⟨L, rfl, l0, l1⟩, h9, hg9⟩
      go_wp2_with fail
      go_ret2
      exact ⟨⟨_, _, rfl, by omega, by omega, by omega, by omega⟩, h9.bel⟩
    · have e2 : (y == 1) = false := by simp [hy1]
      clear hy hy1
      go_wp2_with fail
      refine (length h3).mono ?_
      rintro e w9 ⟨⟨L, rfl, l0, l1⟩, h9, hg9⟩
      go_wp2_with fail
      go_ret2
      exact ⟨⟨_, _, rfl, by omega, by omega, by omega, by omega⟩, h9.bel⟩

set_option maxHeartbeats 4000000 in
theorem rating (h : Dr w0 B g A cp xs w) :
    Calls Tryd.prog 51 #[.pointer (some ⟨g, 0, none⟩)] w fun e w' => (∃ v x : Int, e = .returned (.agg #[.int .i64 v, .int .i64 x]) ∧ -1 ≤ v ∧ v ≤ 1000001 ∧ -1 ≤ x ∧ x ≤ 100001) ∧ Dr w0 B g A cp xs w' ∧ w.grownBy w' (some g) := by
  have hlt := h.lt
  have hbg := h.base
  go_enter Tryd.func51, Tryd.ntmps51
  go_wp2_with fail
  refine (next' (h.alloc _) 1000 (by decide)).mono ?_
  rintro e w1 ⟨⟨x, rfl, x0, x1, -⟩, h1, hg1, -⟩
  have x1 := x1 (by decide)
  have rr : RowB w1 w.heap.size 33 [.int .i64 0, .int .i64 0] := (RowB.new _ _ _).grown hg1 (fun k hk => by simp at hk; omega)
  have g1 : w.grownBy w1 (some g) := grownBy_trans (World.grownBy_alloc _ _ _) hg1
  go_wp2_with fail
  refine (next' h1 600 (by decide)).mono ?_
  rintro e w2 ⟨⟨y, rfl, y0, y1, -⟩, h2, hg2, -⟩
  have y1 := y1 (by decide)
  have rr := rr.grown hg2 (fun k hk => by simp at hk; omega)
  have g2 := grownBy_trans g1 hg2
  have hl2 := h2.lt
  have hrl2 := rr.lt
  go_wp2_with fail
  refine (next' (h2.alloc _) 24 (by decide)).mono ?_
  rintro e w3 ⟨⟨t, rfl, t0, t1, -⟩, h3, hg3, -⟩
  have t1 := t1 (by decide)
  have rr := (rr.alloc _).grown hg3 (fun k hk => by simp at hk; omega)
  have r3 : RowB w3 w2.heap.size 33 [.int .i64 (100000 + 100 * x), .int .i64 y] := (RowB.new _ _ _).grown hg3 (fun k hk => by simp at hk; omega)
  have g3 := grownBy_trans (grownBy_trans g2 (World.grownBy_alloc _ _ _)) hg3
  have hl3 := h3.lt
  have hrl3 := r3.lt
  clear hg1 hg2 hg3 g1 g2
  by_cases ht : t = 0
  · subst ht
    go_wp2_with fail
    refine (next' (h3.alloc _) 5 (by decide)).mono ?_
    rintro e w4 ⟨⟨z, rfl, z0, z1, -⟩, hW, hg4, -⟩
    have z1 := z1 (by decide)
    have rr := (rr.alloc _).grown hg4 (fun k hk => by simp at hk; omega)
    have r3 := (r3.alloc _).grown hg4 (fun k hk => by simp at hk; omega)
    have gW := grownBy_trans (grownBy_trans g3 (World.grownBy_alloc _ _ _)) hg4
    obtain ⟨c0, c1, c2, c3, c4⟩ := ((RowB.new _ _ _).grown hg4 (fun k hk => by simp at hk; omega)).c5
    clear hg4 h3 g3
    obtain rfl | rfl | rfl | rfl | rfl : z = 0 ∨ z = 1 ∨ z = 2 ∨ z = 3 ∨ z = 4 := by omega
    · have hfr := rr.frozen
      have hf3 := r3.frozen
      obtain ⟨p0, p1⟩ := r3.c2
      obtain ⟨s0, s1⟩ := rr.c2
      have hrl := rr.lt
      go_wp2_with fail
      refine bp_gen (fun W' => Dr w0 B g A cp xs W' ∧ w.grownBy W' (some g) ∧ RowB W' w.heap.size 33 [.int .i64 (-1), .int .i64 (y)]) ⟨((hW.set (by omega) (by omega) _).set (by omega) (by omega) _).set (by omega) (by omega) _, grown_new (grown_new (grown_new gW (by omega) _) (Nat.le_refl _) _) (Nat.le_refl _) _, ((rr.other (by simp; omega) _).set 0 _).set 1 _⟩ ?_
      rintro W5 ⟨h5, g5, rr5⟩
      obtain ⟨q0, q1⟩ := rr5.c2
      refine bodyPost_ret (v := .agg #[.int .i64 (-1), .int .i64 (y)]) (by simp [results, Tryd.results51, go_sem, q0, q1]) rfl ?_
      exact ⟨⟨_, _, rfl, by omega, by omega, by omega, by omega⟩, h5, g5⟩
    · have hfr := rr.frozen
      have hf3 := r3.frozen
      obtain ⟨p0, p1⟩ := r3.c2
      obtain ⟨s0, s1⟩ := rr.c2
      have hrl := rr.lt
      go_wp2_with fail
      refine bp_gen (fun W' => Dr w0 B g A cp xs W' ∧ w.grownBy W' (some g) ∧ RowB W' w.heap.size 33 [.int .i64 (0), .int .i64 (y)]) ⟨((hW.set (by omega) (by omega) _).set (by omega) (by omega) _).set (by omega) (by omega) _, grown_new (grown_new (grown_new gW (by omega) _) (Nat.le_refl _) _) (Nat.le_refl _) _, ((rr.other (by simp; omega) _).set 0 _).set 1 _⟩ ?_
      rintro W5 ⟨h5, g5, rr5⟩
      obtain ⟨q0, q1⟩ := rr5.c2
      refine bodyPost_ret (v := .agg #[.int .i64 (0), .int .i64 (y)]) (by simp [results, Tryd.results51, go_sem, q0, q1]) rfl ?_
      exact ⟨⟨_, _, rfl, by omega, by omega, by omega, by omega⟩, h5, g5⟩
    · have hfr := rr.frozen
      have hf3 := r3.frozen
      obtain ⟨p0, p1⟩ := r3.c2
      obtain ⟨s0, s1⟩ := rr.c2
      have hrl := rr.lt
      go_wp2_with fail
      refine bp_gen (fun W' => Dr w0 B g A cp xs W' ∧ w.grownBy W' (some g) ∧ RowB W' w.heap.size 33 [.int .i64 (50), .int .i64 (y)]) ⟨((hW.set (by omega) (by omega) _).set (by omega) (by omega) _).set (by omega) (by omega) _, grown_new (grown_new (grown_new gW (by omega) _) (Nat.le_refl _) _) (Nat.le_refl _) _, ((rr.other (by simp; omega) _).set 0 _).set 1 _⟩ ?_
      rintro W5 ⟨h5, g5, rr5⟩
      obtain ⟨q0, q1⟩ := rr5.c2
      refine bodyPost_ret (v := .agg #[.int .i64 (50), .int .i64 (y)]) (by simp [results, Tryd.results51, go_sem, q0, q1]) rfl ?_
      exact ⟨⟨_, _, rfl, by omega, by omega, by omega, by omega⟩, h5, g5⟩
    · have hfr := rr.frozen
      have hf3 := r3.frozen
      obtain ⟨p0, p1⟩ := r3.c2
      obtain ⟨s0, s1⟩ := rr.c2
      have hrl := rr.lt
      go_wp2_with fail
      refine bp_gen (fun W' => Dr w0 B g A cp xs W' ∧ w.grownBy W' (some g) ∧ RowB W' w.heap.size 33 [.int .i64 (1000000), .int .i64 (y)]) ⟨((hW.set (by omega) (by omega) _).set (by omega) (by omega) _).set (by omega) (by omega) _, grown_new (grown_new (grown_new gW (by omega) _) (Nat.le_refl _) _) (Nat.le_refl _) _, ((rr.other (by simp; omega) _).set 0 _).set 1 _⟩ ?_
      rintro W5 ⟨h5, g5, rr5⟩
      obtain ⟨q0, q1⟩ := rr5.c2
      refine bodyPost_ret (v := .agg #[.int .i64 (1000000), .int .i64 (y)]) (by simp [results, Tryd.results51, go_sem, q0, q1]) rfl ?_
      exact ⟨⟨_, _, rfl, by omega, by omega, by omega, by omega⟩, h5, g5⟩
    · have hfr := rr.frozen
      have hf3 := r3.frozen
      obtain ⟨p0, p1⟩ := r3.c2
      obtain ⟨s0, s1⟩ := rr.c2
      have hrl := rr.lt
      go_wp2_with fail
      refine bp_gen (fun W' => Dr w0 B g A cp xs W' ∧ w.grownBy W' (some g) ∧ RowB W' w.heap.size 33 [.int .i64 (1000001), .int .i64 (y)]) ⟨((hW.set (by omega) (by omega) _).set (by omega) (by omega) _).set (by omega) (by omega) _, grown_new (grown_new (grown_new gW (by omega) _) (Nat.le_refl _) _) (Nat.le_refl _) _, ((rr.other (by simp; omega) _).set 0 _).set 1 _⟩ ?_
      rintro W5 ⟨h5, g5, rr5⟩
      obtain ⟨q0, q1⟩ := rr5.c2
      refine bodyPost_ret (v := .agg #[.int .i64 (1000001), .int .i64 (y)]) (by simp [results, Tryd.results51, go_sem, q0, q1]) rfl ?_
      exact ⟨⟨_, _, rfl, by omega, by omega, by omega, by omega⟩, h5, g5⟩
  · have e1 : (t == 0) = false := by simp [ht]
    by_cases ht1 : t = 1
    · subst ht1
      clear ht
      go_wp2_with fail
      refine (next' (h3.alloc _) 4 (by decide)).mono ?_
      rintro e w4 ⟨⟨z, rfl, z0, z1, -⟩, hW, hg4, -⟩
      have z1 := z1 (by decide)
      have rr := (rr.alloc _).grown hg4 (fun k hk => by simp at hk; omega)
      have r3 := (r3.alloc _).grown hg4 (fun k hk => by simp at hk; omega)
      have gW := grownBy_trans (grownBy_trans g3 (World.grownBy_alloc _ _ _)) hg4
      obtain ⟨c0, c1, c2, c3⟩ := ((RowB.new _ _ _).grown hg4 (fun k hk => by simp at hk; omega)).c4
      clear hg4 h3 g3
      obtain rfl | rfl | rfl | rfl : z = 0 ∨ z = 1 ∨ z = 2 ∨ z = 3 := by omega
      · have hfr := rr.frozen
        have hf3 := r3.frozen
        obtain ⟨p0, p1⟩ := r3.c2
        obtain ⟨s0, s1⟩ := rr.c2
        have hrl := rr.lt
        go_wp2_with fail
        refine bp_gen (fun W' => Dr w0 B g A cp xs W' ∧ w.grownBy W' (some g) ∧ RowB W' w.heap.size 33 [.int .i64 (100000 + 100 * x), .int .i64 (-1)]) ⟨((hW.set (by omega) (by omega) _).set (by omega) (by omega) _).set (by omega) (by omega) _, grown_new (grown_new (grown_new gW (by omega) _) (Nat.le_refl _) _) (Nat.le_refl _) _, ((rr.other (by simp; omega) _).set 0 _).set 1 _⟩ ?_
        rintro W5 ⟨h5, g5, rr5⟩
        obtain ⟨q0, q1⟩ := rr5.c2
        refine bodyPost_ret (v := .agg #[.int .i64 (100000 + 100 * x), .int .i64 (-1)]) (by simp [results, Tryd.results51, go_sem, q0, q1]) rfl ?_
        exact ⟨⟨_, _, rfl, by omega, by omega, by omega, by omega⟩, h5, g5⟩
      · have hfr := rr.frozen
        have hf3 := r3.frozen
        obtain ⟨p0, p1⟩ := r3.c2
        obtain ⟨s0, s1⟩ := rr.c2
        have hrl := rr.lt
        go_wp2_with fail
        refine bp_gen (fun W' => Dr w0 B g A cp xs W' ∧ w.grownBy W' (some g) ∧ RowB W' w.heap.size 33 [.int .i64 (100000 + 100 * x), .int .i64 (0)]) ⟨((hW.set (by omega) (by omega) _).set (by omega) (by omega) _).set (by omega) (by omega) _, grown_new (grown_new (grown_new gW (by omega) _) (Nat.le_refl _) _) (Nat.le_refl _) _, ((rr.other (by simp; omega) _).set 0 _).set 1 _⟩ ?_
        rintro W5 ⟨h5, g5, rr5⟩
        obtain ⟨q0, q1⟩ := rr5.c2
        refine bodyPost_ret (v := .agg #[.int .i64 (100000 + 100 * x), .int .i64 (0)]) (by simp [results, Tryd.results51, go_sem, q0, q1]) rfl ?_
        exact ⟨⟨_, _, rfl, by omega, by omega, by omega, by omega⟩, h5, g5⟩
      · have hfr := rr.frozen
        have hf3 := r3.frozen
        obtain ⟨p0, p1⟩ := r3.c2
        obtain ⟨s0, s1⟩ := rr.c2
        have hrl := rr.lt
        go_wp2_with fail
        refine bp_gen (fun W' => Dr w0 B g A cp xs W' ∧ w.grownBy W' (some g) ∧ RowB W' w.heap.size 33 [.int .i64 (100000 + 100 * x), .int .i64 (100000)]) ⟨((hW.set (by omega) (by omega) _).set (by omega) (by omega) _).set (by omega) (by omega) _, grown_new (grown_new (grown_new gW (by omega) _) (Nat.le_refl _) _) (Nat.le_refl _) _, ((rr.other (by simp; omega) _).set 0 _).set 1 _⟩ ?_
        rintro W5 ⟨h5, g5, rr5⟩
        obtain ⟨q0, q1⟩ := rr5.c2
        refine bodyPost_ret (v := .agg #[.int .i64 (100000 + 100 * x), .int .i64 (100000)]) (by simp [results, Tryd.results51, go_sem, q0, q1]) rfl ?_
        exact ⟨⟨_, _, rfl, by omega, by omega, by omega, by omega⟩, h5, g5⟩
      · have hfr := rr.frozen
        have hf3 := r3.frozen
        obtain ⟨p0, p1⟩ := r3.c2
        obtain ⟨s0, s1⟩ := rr.c2
        have hrl := rr.lt
        go_wp2_with fail
        refine bp_gen (fun W' => Dr w0 B g A cp xs W' ∧ w.grownBy W' (some g) ∧ RowB W' w.heap.size 33 [.int .i64 (100000 + 100 * x), .int .i64 (100001)]) ⟨((hW.set (by omega) (by omega) _).set (by omega) (by omega) _).set (by omega) (by omega) _, grown_new (grown_new (grown_new gW (by omega) _) (Nat.le_refl _) _) (Nat.le_refl _) _, ((rr.other (by simp; omega) _).set 0 _).set 1 _⟩ ?_
        rintro W5 ⟨h5, g5, rr5⟩
        obtain ⟨q0, q1⟩ := rr5.c2
        refine bodyPost_ret (v := .agg #[.int .i64 (100000 + 100 * x), .int .i64 (100001)]) (by simp [results, Tryd.results51, go_sem, q0, q1]) rfl ?_
        exact ⟨⟨_, _, rfl, by omega, by omega, by omega, by omega⟩, h5, g5⟩
    · have e2 : (t == 1) = false := by simp [ht1]
      clear ht ht1
      have hW := h3
      have gW := g3
      clear h3 g3
      have hfr := rr.frozen
      have hf3 := r3.frozen
      obtain ⟨p0, p1⟩ := r3.c2
      obtain ⟨s0, s1⟩ := rr.c2
      have hrl := rr.lt
      go_wp2_with fail
      refine bp_gen (fun W' => Dr w0 B g A cp xs W' ∧ w.grownBy W' (some g) ∧ RowB W' w.heap.size 33 [.int .i64 (100000 + 100 * x), .int .i64 (y)]) ⟨(hW.set (by omega) (by omega) _).set (by omega) (by omega) _, grown_new (grown_new gW (Nat.le_refl _) _) (Nat.le_refl _) _, (rr.set 0 _).set 1 _⟩ ?_
      rintro W5 ⟨h5, g5, rr5⟩
      obtain ⟨q0, q1⟩ := rr5.c2
      refine bodyPost_ret (v := .agg #[.int .i64 (100000 + 100 * x), .int .i64 (y)]) (by simp [results, Tryd.results51, go_sem, q0, q1]) rfl ?_
      exact ⟨⟨_, _, rfl, by omega, by omega, by omega, by omega⟩, h5, g5⟩

set_option maxHeartbeats 4000000 in
theorem perf (hr : RdS w w.heap.size 1 enB A xs) (hw : ∀ x ∈ xs, (Lit.int .u8 x).wf = true) :
    Calls Tryd.prog 21 #[.slice A xs.length cp] w fun e w' => (∃ r k m : Int, e = .returned (.tuple #[.int .i64 r, .int .i64 k, .int .i64 m]) ∧ -1 ≤ r ∧ r ≤ 1000001 ∧ 0 ≤ k ∧ k ≤ 22 ∧ 0 ≤ m ∧ m ≤ 1001) ∧ Below w.heap.size w w' := by
  go_enter Tryd.func21, Tryd.ntmps21
  go_wp2_with fail
  refine (new_ hr hw).mono ?_
  rintro e w1 ⟨rfl, h1⟩
  go_wp2_with fail
  refine (next' h1 20 (by decide)).mono ?_
  rintro e w2 ⟨⟨x, rfl, x0, x1, -⟩, h2, hg2, -⟩
  have x1 := x1 (by decide)
  go_wp2_with fail
  refine (next' h2 _ (by omega)).mono ?_
  rintro e w3 ⟨⟨y, rfl, y0, y1, -⟩, h3, hg3, -⟩
  have y1 := y1 (by omega)
  go_wp2_with fail
  refine (rating h3).mono ?_
  rintro e w4 ⟨⟨v, q, rfl, v0, v1, q0, q1⟩, h4, hg4⟩
  go_wp2_with fail
  have hl4 := h4.lt
  refine (next' (h4.alloc _) 20 (by decide)).mono ?_
  rintro e w5 ⟨⟨t, rfl, t0, t1, -⟩, h5, hg5, -⟩
  have t1 := t1 (by decide)
  have rb : RowB w5 w4.heap.size 33 [.int .i64 v, .int .i64 q] := (RowB.new _ _ _).grown hg5 (fun k hk => by simp at hk; omega)
  clear hg2 hg3 hg4 hg5 h1 h2 h3 h4
  have hrl := rb.lt
  have hl5 := h5.lt
  by_cases ht : t = 0
  · subst ht
    obtain ⟨p0, p1⟩ := rb.c2
    go_wp2_with fail
    go_ret3
    exact ⟨⟨_, _, _, rfl, by omega, by omega, by omega, by omega, by omega, by omega⟩, h5.bel⟩
  · have e1 : (t == 0) = false := by simp [ht]
    by_cases ht1 : t = 1
    · subst ht1
      clear ht
      go_wp2_with fail
      refine (next' (h5.alloc _) 2 (by decide)).mono ?_
      rintro e w6 ⟨⟨z, rfl, z0, z1, -⟩, h6, hg6, -⟩
      have z1 := z1 (by decide)
      obtain ⟨p0, p1⟩ := ((rb.alloc _).grown hg6 (fun k hk => by simp at hk; omega)).c2
      obtain ⟨c0, c1⟩ := ((RowB.new _ _ _).grown hg6 (fun k hk => by simp at hk; omega)).c2
      clear hg6
      obtain rfl | rfl : z = 0 ∨ z = 1 := by omega
      all_goals
        go_wp2_with fail
        go_ret3
        exact ⟨⟨_, _, _, rfl, by omega, by omega, by omega, by omega, by omega, by omega⟩, h6.bel⟩
    · have e2 : (t == 1) = false := by simp [ht1]
      clear ht ht1
      obtain ⟨p0, p1⟩ := rb.c2
      go_wp2_with fail
      go_ret3
      exact ⟨⟨_, _, _, rfl, by omega, by omega, by omega, by omega, by omega, by omega⟩, h5.bel⟩

theorem bigF (n cp : Nat) (A : Option Addr) (w : World) (hn : n ≤ maxLen) : Calls Tryd.prog 14 #[.slice A n cp] w fun e w' => e = .returned (.bool (decide ((4096 : Int) < (n : Int)))) ∧ w = w' := by
  unfold maxLen at hn
  go_enter Tryd.func14, Tryd.ntmps14
  go_wp2
  go_ret
  exact ⟨rfl, rfl⟩
theorem bigB (n cp : Nat) (A : Option Addr) (b : Bool) (hb : decide ((4096 : Int) < (n : Int)) = b) (w : World) (hn : n ≤ maxLen) : Calls Tryd.prog 14 #[.slice A n cp] w fun e w' => e = .returned (.bool b) ∧ w = w' := by
  subst hb; exact bigF n cp A w hn
end Go.Proofs.YtjmckpaemmjcmaaDoor.DrawC
