/-
  The draw of a rating. Conditions: each theorem's own.
-/
import Derived.Test.YtjmckpaemmjcmaaDraw
set_option linter.unusedVariables false
namespace Go.Proofs.Ytjmckpaemmjcmaa.DrawR
open Go.ChangeShapes Go.WideShapes Go.ChangeAt Go.RowKit Base Ints Own Draw
variable {w0 w w' : World} {B g cp : Nat} {A : Option Addr} {xs : List Int}

set_option maxHeartbeats 4000000 in
theorem rating (h : Dr w0 B g A cp xs w) :
    Calls Try.prog 51 #[.pointer (some ⟨g, 0, none⟩)] w fun e w' => (∃ v x : Int, e = .returned (.agg #[.int .i64 v, .int .i64 x]) ∧ -1 ≤ v ∧ v ≤ 1000001 ∧ -1 ≤ x ∧ x ≤ 100001) ∧ Dr w0 B g A cp xs w' ∧ w.grownBy w' (some g) := by
  have hlt := h.lt
  have hbg := h.base
  go_enter Try.func51, Try.ntmps51
  go_wp2_with fail
  refine (next' (h.alloc _) 1000 (by decide)).mono ?_
  rintro e w1 ⟨⟨x, rfl, x0, x1, -⟩, h1, hg1, -⟩
  have x1 := x1 (by decide)
  have rr : RowB w1 w.heap.size 25 [.int .i64 0, .int .i64 0] := (RowB.new _ _ _).grown hg1 (fun k hk => by simp at hk; omega)
  have g1 : w.grownBy w1 (some g) := grownBy_trans (World.grownBy_alloc _ _ _) hg1
  go_wp2_with fail
  refine (next' h1 600 (by decide)).mono ?_
  rintro e w2 ⟨⟨y, rfl, y0, y1, -⟩, h2, hg2, -⟩
  have y1 := y1 (by decide)
  have rr := rr.grown hg2 (fun k hk => by simp at hk; omega)
  have g2 := grownBy_trans g1 hg2
  have hl2 := h2.lt
  have hrl2 := rr.lt
  go_wp2_with fail
  refine (next' (h2.alloc _) 24 (by decide)).mono ?_
  rintro e w3 ⟨⟨t, rfl, t0, t1, -⟩, h3, hg3, -⟩
  have t1 := t1 (by decide)
  have rr := (rr.alloc _).grown hg3 (fun k hk => by simp at hk; omega)
  have r3 : RowB w3 w2.heap.size 25 [.int .i64 (100000 + 100 * x), .int .i64 y] := (RowB.new _ _ _).grown hg3 (fun k hk => by simp at hk; omega)
  have g3 := grownBy_trans (grownBy_trans g2 (World.grownBy_alloc _ _ _)) hg3
  have hl3 := h3.lt
  have hrl3 := r3.lt
  clear hg1 hg2 hg3 g1 g2
  by_cases ht : t = 0
  · subst ht
    go_wp2_with fail
    refine (next' (h3.alloc _) 5 (by decide)).mono ?_
    rintro e w4 ⟨⟨z, rfl, z0, z1, -⟩, hW, hg4, -⟩
    have z1 := z1 (by decide)
    have rr := (rr.alloc _).grown hg4 (fun k hk => by simp at hk; omega)
    have r3 := (r3.alloc _).grown hg4 (fun k hk => by simp at hk; omega)
    have gW := grownBy_trans (grownBy_trans g3 (World.grownBy_alloc _ _ _)) hg4
    obtain ⟨c0, c1, c2, c3, c4⟩ := ((RowB.new _ _ _).grown hg4 (fun k hk => by simp at hk; omega)).c5
    clear hg4 h3 g3
    obtain rfl | rfl | rfl | rfl | rfl : z = 0 ∨ z = 1 ∨ z = 2 ∨ z = 3 ∨ z = 4 := by omega
    · have hfr := rr.frozen
      have hf3 := r3.frozen
      obtain ⟨p0, p1⟩ := r3.c2
      obtain ⟨s0, s1⟩ := rr.c2
      have hrl := rr.lt
      go_wp2_with fail
      refine bp_gen (fun W' => Dr w0 B g A cp xs W' ∧ w.grownBy W' (some g) ∧ RowB W' w.heap.size 25 [.int .i64 (-1), .int .i64 (y)]) ⟨((hW.set (by omega) (by omega) _).set (by omega) (by omega) _).set (by omega) (by omega) _, grown_new (grown_new (grown_new gW (by omega) _) (Nat.le_refl _) _) (Nat.le_refl _) _, ((rr.other (by simp; omega) _).set 0 _).set 1 _⟩ ?_
      rintro W5 ⟨h5, g5, rr5⟩
      obtain ⟨q0, q1⟩ := rr5.c2
      refine bodyPost_ret (v := .agg #[.int .i64 (-1), .int .i64 (y)]) (by simp [results, Try.results51, go_sem, q0, q1]) rfl ?_
      exact ⟨⟨_, _, rfl, by omega, by omega, by omega, by omega⟩, h5, g5⟩
    · have hfr := rr.frozen
      have hf3 := r3.frozen
      obtain ⟨p0, p1⟩ := r3.c2
      obtain ⟨s0, s1⟩ := rr.c2
      have hrl := rr.lt
      go_wp2_with fail
      refine bp_gen (fun W' => Dr w0 B g A cp xs W' ∧ w.grownBy W' (some g) ∧ RowB W' w.heap.size 25 [.int .i64 (0), .int .i64 (y)]) ⟨((hW.set (by omega) (by omega) _).set (by omega) (by omega) _).set (by omega) (by omega) _, grown_new (grown_new (grown_new gW (by omega) _) (Nat.le_refl _) _) (Nat.le_refl _) _, ((rr.other (by simp; omega) _).set 0 _).set 1 _⟩ ?_
      rintro W5 ⟨h5, g5, rr5⟩
      obtain ⟨q0, q1⟩ := rr5.c2
      refine bodyPost_ret (v := .agg #[.int .i64 (0), .int .i64 (y)]) (by simp [results, Try.results51, go_sem, q0, q1]) rfl ?_
      exact ⟨⟨_, _, rfl, by omega, by omega, by omega, by omega⟩, h5, g5⟩
    · have hfr := rr.frozen
      have hf3 := r3.frozen
      obtain ⟨p0, p1⟩ := r3.c2
      obtain ⟨s0, s1⟩ := rr.c2
      have hrl := rr.lt
      go_wp2_with fail
      refine bp_gen (fun W' => Dr w0 B g A cp xs W' ∧ w.grownBy W' (some g) ∧ RowB W' w.heap.size 25 [.int .i64 (50), .int .i64 (y)]) ⟨((hW.set (by omega) (by omega) _).set (by omega) (by omega) _).set (by omega) (by omega) _, grown_new (grown_new (grown_new gW (by omega) _) (Nat.le_refl _) _) (Nat.le_refl _) _, ((rr.other (by simp; omega) _).set 0 _).set 1 _⟩ ?_
      rintro W5 ⟨h5, g5, rr5⟩
      obtain ⟨q0, q1⟩ := rr5.c2
      refine bodyPost_ret (v := .agg #[.int .i64 (50), .int .i64 (y)]) (by simp [results, Try.results51, go_sem, q0, q1]) rfl ?_
      exact ⟨⟨_, _, rfl, by omega, by omega, by omega, by omega⟩, h5, g5⟩
    · have hfr := rr.frozen
      have hf3 := r3.frozen
      obtain ⟨p0, p1⟩ := r3.c2
      obtain ⟨s0, s1⟩ := rr.c2
      have hrl := rr.lt
      go_wp2_with fail
      refine bp_gen (fun W' => Dr w0 B g A cp xs W' ∧ w.grownBy W' (some g) ∧ RowB W' w.heap.size 25 [.int .i64 (1000000), .int .i64 (y)]) ⟨((hW.set (by omega) (by omega) _).set (by omega) (by omega) _).set (by omega) (by omega) _, grown_new (grown_new (grown_new gW (by omega) _) (Nat.le_refl _) _) (Nat.le_refl _) _, ((rr.other (by simp; omega) _).set 0 _).set 1 _⟩ ?_
      rintro W5 ⟨h5, g5, rr5⟩
      obtain ⟨q0, q1⟩ := rr5.c2
      refine bodyPost_ret (v := .agg #[.int .i64 (1000000), .int .i64 (y)]) (by simp [results, Try.results51, go_sem, q0, q1]) rfl ?_
      exact ⟨⟨_, _, rfl, by omega, by omega, by omega, by omega⟩, h5, g5⟩
    · have hfr := rr.frozen
      have hf3 := r3.frozen
      obtain ⟨p0, p1⟩ := r3.c2
      obtain ⟨s0, s1⟩ := rr.c2
      have hrl := rr.lt
      go_wp2_with fail
      refine bp_gen (fun W' => Dr w0 B g A cp xs W' ∧ w.grownBy W' (some g) ∧ RowB W' w.heap.size 25 [.int .i64 (1000001), .int .i64 (y)]) ⟨((hW.set (by omega) (by omega) _).set (by omega) (by omega) _).set (by omega) (by omega) _, grown_new (grown_new (grown_new gW (by omega) _) (Nat.le_refl _) _) (Nat.le_refl _) _, ((rr.other (by simp; omega) _).set 0 _).set 1 _⟩ ?_
      rintro W5 ⟨h5, g5, rr5⟩
      obtain ⟨q0, q1⟩ := rr5.c2
      refine bodyPost_ret (v := .agg #[.int .i64 (1000001), .int .i64 (y)]) (by simp [results, Try.results51, go_sem, q0, q1]) rfl ?_
      exact ⟨⟨_, _, rfl, by omega, by omega, by omega, by omega⟩, h5, g5⟩
  · have e1 : (t == 0) = false := by simp [ht]
    by_cases ht1 : t = 1
    · subst ht1
      clear ht
      go_wp2_with fail
      refine (next' (h3.alloc _) 4 (by decide)).mono ?_
      rintro e w4 ⟨⟨z, rfl, z0, z1, -⟩, hW, hg4, -⟩
      have z1 := z1 (by decide)
      have rr := (rr.alloc _).grown hg4 (fun k hk => by simp at hk; omega)
      have r3 := (r3.alloc _).grown hg4 (fun k hk => by simp at hk; omega)
      have gW := grownBy_trans (grownBy_trans g3 (World.grownBy_alloc _ _ _)) hg4
      obtain ⟨c0, c1, c2, c3⟩ := ((RowB.new _ _ _).grown hg4 (fun k hk => by simp at hk; omega)).c4
      clear hg4 h3 g3
      obtain rfl | rfl | rfl | rfl : z = 0 ∨ z = 1 ∨ z = 2 ∨ z = 3 := by omega
      · have hfr := rr.frozen
        have hf3 := r3.frozen
        obtain ⟨p0, p1⟩ := r3.c2
        obtain ⟨s0, s1⟩ := rr.c2
        have hrl := rr.lt
        go_wp2_with fail
        refine bp_gen (fun W' => Dr w0 B g A cp xs W' ∧ w.grownBy W' (some g) ∧ RowB W' w.heap.size 25 [.int .i64 (100000 + 100 * x), .int .i64 (-1)]) ⟨((hW.set (by omega) (by omega) _).set (by omega) (by omega) _).set (by omega) (by omega) _, grown_new (grown_new (grown_new gW (by omega) _) (Nat.le_refl _) _) (Nat.le_refl _) _, ((rr.other (by simp; omega) _).set 0 _).set 1 _⟩ ?_
        rintro W5 ⟨h5, g5, rr5⟩
        obtain ⟨q0, q1⟩ := rr5.c2
        refine bodyPost_ret (v := .agg #[.int .i64 (100000 + 100 * x), .int .i64 (-1)]) (by simp [results, Try.results51, go_sem, q0, q1]) rfl ?_
        exact ⟨⟨_, _, rfl, by omega, by omega, by omega, by omega⟩, h5, g5⟩
      · have hfr := rr.frozen
        have hf3 := r3.frozen
        obtain ⟨p0, p1⟩ := r3.c2
        obtain ⟨s0, s1⟩ := rr.c2
        have hrl := rr.lt
        go_wp2_with fail
        refine bp_gen (fun W' => Dr w0 B g A cp xs W' ∧ w.grownBy W' (some g) ∧ RowB W' w.heap.size 25 [.int .i64 (100000 + 100 * x), .int .i64 (0)]) ⟨((hW.set (by omega) (by omega) _).set (by omega) (by omega) _).set (by omega) (by omega) _, grown_new (grown_new (grown_new gW (by omega) _) (Nat.le_refl _) _) (Nat.le_refl _) _, ((rr.other (by simp; omega) _).set 0 _).set 1 _⟩ ?_
        rintro W5 ⟨h5, g5, rr5⟩
        obtain ⟨q0, q1⟩ := rr5.c2
        refine bodyPost_ret (v := .agg #[.int .i64 (100000 + 100 * x), .int .i64 (0)]) (by simp [results, Try.results51, go_sem, q0, q1]) rfl ?_
        exact ⟨⟨_, _, rfl, by omega, by omega, by omega, by omega⟩, h5, g5⟩
      · have hfr := rr.frozen
        have hf3 := r3.frozen
        obtain ⟨p0, p1⟩ := r3.c2
        obtain ⟨s0, s1⟩ := rr.c2
        have hrl := rr.lt
        go_wp2_with fail
        refine bp_gen (fun W' => Dr w0 B g A cp xs W' ∧ w.grownBy W' (some g) ∧ RowB W' w.heap.size 25 [.int .i64 (100000 + 100 * x), .int .i64 (100000)]) ⟨((hW.set (by omega) (by omega) _).set (by omega) (by omega) _).set (by omega) (by omega) _, grown_new (grown_new (grown_new gW (by omega) _) (Nat.le_refl _) _) (Nat.le_refl _) _, ((rr.other (by simp; omega) _).set 0 _).set 1 _⟩ ?_
        rintro W5 ⟨h5, g5, rr5⟩
        obtain ⟨q0, q1⟩ := rr5.c2
        refine bodyPost_ret (v := .agg #[.int .i64 (100000 + 100 * x), .int .i64 (100000)]) (by simp [results, Try.results51, go_sem, q0, q1]) rfl ?_
        exact ⟨⟨_, _, rfl, by omega, by omega, by omega, by omega⟩, h5, g5⟩
      · have hfr := rr.frozen
        have hf3 := r3.frozen
        obtain ⟨p0, p1⟩ := r3.c2
        obtain ⟨s0, s1⟩ := rr.c2
        have hrl := rr.lt
        go_wp2_with fail
        refine bp_gen (fun W' => Dr w0 B g A cp xs W' ∧ w.grownBy W' (some g) ∧ RowB W' w.heap.size 25 [.int .i64 (100000 + 100 * x), .int .i64 (100001)]) ⟨((hW.set (by omega) (by omega) _).set (by omega) (by omega) _).set (by omega) (by omega) _, grown_new (grown_new (grown_new gW (by omega) _) (Nat.le_refl _) _) (Nat.le_refl _) _, ((rr.other (by simp; omega) _).set 0 _).set 1 _⟩ ?_
        rintro W5 ⟨h5, g5, rr5⟩
        obtain ⟨q0, q1⟩ := rr5.c2
        refine bodyPost_ret (v := .agg #[.int .i64 (100000 + 100 * x), .int .i64 (100001)]) (by simp [results, Try.results51, go_sem, q0, q1]) rfl ?_
        exact ⟨⟨_, _, rfl, by omega, by omega, by omega, by omega⟩, h5, g5⟩
    · have e2 : (t == 1) = false := by simp [ht1]
      clear ht ht1
      have hW := h3
      have gW := g3
      clear h3 g3
      have hfr := rr.frozen
      have hf3 := r3.frozen
      obtain ⟨p0, p1⟩ := r3.c2
      obtain ⟨s0, s1⟩ := rr.c2
      have hrl := rr.lt
      go_wp2_with fail
      refine bp_gen (fun W' => Dr w0 B g A cp xs W' ∧ w.grownBy W' (some g) ∧ RowB W' w.heap.size 25 [.int .i64 (100000 + 100 * x), .int .i64 (y)]) ⟨(hW.set (by omega) (by omega) _).set (by omega) (by omega) _, grown_new (grown_new gW (Nat.le_refl _) _) (Nat.le_refl _) _, (rr.set 0 _).set 1 _⟩ ?_
      rintro W5 ⟨h5, g5, rr5⟩
      obtain ⟨q0, q1⟩ := rr5.c2
      refine bodyPost_ret (v := .agg #[.int .i64 (100000 + 100 * x), .int .i64 (y)]) (by simp [results, Try.results51, go_sem, q0, q1]) rfl ?_
      exact ⟨⟨_, _, rfl, by omega, by omega, by omega, by omega⟩, h5, g5⟩

theorem bigF (n cp : Nat) (A : Option Addr) (w : World) (hn : n ≤ maxLen) : Calls Try.prog 24 #[.slice A n cp] w fun e w' => e = .returned (.bool (decide ((4096 : Int) < (n : Int)))) ∧ w = w' := by
  unfold maxLen at hn
  go_enter Try.func24, Try.ntmps24
  go_wp2
  go_ret
  exact ⟨rfl, rfl⟩
theorem bigB (n cp : Nat) (A : Option Addr) (b : Bool) (hb : decide ((4096 : Int) < (n : Int)) = b) (w : World) (hn : n ≤ maxLen) : Calls Try.prog 24 #[.slice A n cp] w fun e w' => e = .returned (.bool b) ∧ w = w' := by
  subst hb; exact bigF n cp A w hn
end Go.Proofs.Ytjmckpaemmjcmaa.DrawR
