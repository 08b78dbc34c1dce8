/-
  The laws' own dice (roll, below): they run to their end whatever the code, and the number is some number. Conditions: each theorem's own.
-/
import Derived.Test.YtoicppnkkhajeaaDraw
set_option linter.unusedVariables false
namespace Go.Proofs.Ytoicppnkkhajeaa.Dice
open Go.ChangeShapes Go.WideShapes Go.ChangeAt Go.RowKit Base Ints Own Draw

/-- Dice: their block g, the code they read from. -/
def Dice (w : World) (g : Nat) (A : Option Addr) (n cp : Nat) : Prop :=
  ∃ at_ h : Int, RowB w g 65 [.slice A n cp, .int .i64 at_, .int .u64 h] ∧ 0 ≤ at_ ∧ at_ ≤ n
theorem Dice.lt {w : World} {g : Nat} {A : Option Addr} {n cp : Nat} (h : Dice w g A n cp) : g < w.heap.size := by obtain ⟨_, _, h, _⟩ := h; exact h.lt
theorem Dice.below {w w' : World} {g : Nat} {A : Option Addr} {n cp B : Nat} (h : Dice w g A n cp) (hb : Below B w w') (hg : g < B) : Dice w' g A n cp := by
  obtain ⟨a, s, h, r⟩ := h; exact ⟨a, s, h.below hb hg, r⟩
theorem Dice.grown {w w' : World} {g : Nat} {A : Option Addr} {n cp : Nat} {row : Option Nat} (h : Dice w g A n cp) (hg : w.grownBy w' row) (hr : ∀ k, row = some k → k ≠ g) : Dice w' g A n cp := by
  obtain ⟨a, s, h, r⟩ := h; exact ⟨a, s, h.grown hg hr, r⟩

set_option maxHeartbeats 2000000 in
/-- New dice. -/
theorem roll_ (B : Nat) (A : Option Addr) (cp : Nat) (xs : List Int) (seed : Int) (w : World) (hB : B ≤ w.heap.size) (hr : RdS w B 1 enB A xs) :
    Calls Try.prog 46 #[.slice A xs.length cp, .int .u64 seed] w fun e w' => e = .returned (.pointer (some ⟨w.heap.size, 0, none⟩)) ∧ Dice w' w.heap.size A xs.length cp ∧ Below w.heap.size w w' := by
  have hml := hr.len
  obtain ⟨n, hn⟩ : ∃ n, xs.length = n := ⟨_, rfl⟩
  have HN := Lib.hid hn
  rw [hn] at hml
  rw [hn]
  clear hn
  go_enter Try.func46, Try.ntmps46
  go_wp2_with fail
  go_loopw [6] (fun i wr => ∃ j : Nat, j ≤ n ∧ i = .int .i64 j ∧ Below w.heap.size w wr ∧ Hid (∃ s : Int, RowB wr w.heap.size 65 [.slice A n cp, .int .i64 0, .int .u64 s])) (fun i _ => n - (intOf i).toNat)
  case atStart => exact ⟨0, Nat.zero_le _, rfl, by go_grown, _, RowB.new _ _ _⟩
  case round =>
    obtain ⟨j, hj, rfl, hb, hs⟩ := hrel
    obtain ⟨s, hR⟩ := hs.out
    clear hs
    obtain ⟨c0, c1, c2⟩ := hR.c3
    have hf := hR.frozen
    have hRl := hR.lt
    by_cases h1 : j < n
    · obtain ⟨b, off, x, rfl, hbB, hx, hc⟩ := rdI_at (hr.below hb hB) (by rw [HN.out]; exact h1)
      have hbg : b ≠ w.heap.size := by omega
      clear hx
      go_wp2_with fail
      go_still_tail 15, (by kernel_rfl)
      go_wp2_with fail
      go_roundw
      case rel => exact ⟨j + 1, by omega, by go_num, (hb.setCell (p := ⟨w.heap.size, 2, none⟩) (Nat.le_refl _) _).drew, _, RowB.drew (RowB.set hR 2 _)⟩
      case measure => simp [intOf]; omega
    · obtain rfl : j = n := by omega
      have HS : Hid (Dice wr w.heap.size A j cp) := ⟨0, s, hR, by omega, by omega⟩
      go_wp2_with fail
      go_ret
      exact ⟨rfl, HS.out, hb⟩

set_option maxHeartbeats 2000000 in
theorem below2 (g B : Nat) (A : Option Addr) (n cp : Nat) (xs : List Int) (w : World) (hS : Dice w g A n cp) (hn : xs.length = n) (hr : RdS w B 1 enB A xs) (hB : B ≤ g) :
    Calls Try.prog 48 #[.pointer (some ⟨g, 0, none⟩), .int .i64 2] w fun e w' => (∃ x, e = .returned (.int .i64 x)) ∧ Dice w' g A n cp ∧ w.grownBy w' (some g) ∧ w'.heap.size = w.heap.size := by
  obtain ⟨a, s, hR, ha0, ha1⟩ := hS
  have hml := hr.len
  have HN := Lib.hid hn
  rw [hn] at hml
  clear hn
  obtain ⟨m, rfl⟩ : ∃ m : Nat, a = m := ⟨a.toNat, by omega⟩
  obtain ⟨c0, c1, c2⟩ := hR.c3
  have hf := hR.frozen
  have hlt := hR.lt
  have hRd : Hid (∀ w' : World, w.grownBy w' (some g) → RdS w' B 1 enB A xs) := fun w' hg => hr.keep fun p hp => World.cell?_of_block (hg.block p.block (by omega) (by simp; omega))
  go_enter Try.func48, Try.ntmps48
  go_upto_region 2 with (fail)
  refine wpS (fun W' => (∃ s1 : Int, RowB W' g 65 [.slice A n cp, .int .i64 m, .int .u64 s1]) ∧ w.grownBy W' (some g) ∧ W'.heap.size = w.heap.size) ⟨⟨_, hR.set 2 _⟩, grownBy_setCell _ _ _ _, by simp⟩ ?_
  clear c0 c1 c2 hf hR
  rintro W ⟨⟨s1, hR⟩, hgr, hsz⟩
  obtain ⟨c0, c1, c2⟩ := hR.c3
  have hf := hR.frozen
  by_cases h2 : m < n
  · obtain ⟨b, off, x, rfl, hb, hx, hc⟩ := rdI_at (hRd.out W hgr) (by rw [HN.out]; exact h2)
    have hbg : b ≠ g := by omega
    clear hx
    go_wp2_with fail
    go_quiet (fail)
    go_wp2_with fail
    go_quiet (fail)
    go_upto_region 6 with (fail)
    refine wpS (fun W' => RowB W' g 65 [.slice (some ⟨b, off, none⟩) n cp, .int .i64 ((m : Int) + 1), .int .u64 s1] ∧ w.grownBy W' (some g) ∧ W'.heap.size = w.heap.size) ⟨RowB.set hR 1 _, grownBy_trans (grown_drewN hgr _) (grownBy_setCell _ _ _ _), by simpa using hsz⟩ ?_
    clear c0 c1 c2 hf hR hgr hsz hc
    rintro W5 ⟨hR, hgr, hsz⟩
    have HS : Hid (Dice W5 g (some ⟨b, off, none⟩) n cp) := ⟨(m : Int) + 1, s1, hR, by omega, by omega⟩
    go_wp2_with fail
    go_ret
    exact ⟨⟨_, rfl⟩, HS.out, hgr, hsz⟩
  · obtain rfl : m = n := by omega
    have HS : Hid (Dice W g A m cp) := ⟨(m : Int), s1, hR, by omega, by omega⟩
    go_wp2_with fail
    go_quiet (fail)
    go_wp2_with fail
    go_ret
    exact ⟨⟨_, rfl⟩, HS.out, grown_drewN hgr _, hsz⟩
end Go.Proofs.Ytoicppnkkhajeaa.Dice
