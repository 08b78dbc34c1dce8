/-
  The estimate of a board: of the program and of the reference. Conditions: each theorem's own.
-/
import Derived.Test.YtfgkkmhafdbicaaBd12
import Derived.Test.YtfgkkmhafdbicaaBd2
set_option linter.unusedVariables false
set_option linter.unusedSimpArgs false
namespace Go.Proofs.Ytfgkkmhafdbicaa.Bd13
open Go.ChangeShapes Go.WideShapes Go.ChangeAt Go.RowKit Base Ints Own PlP Bd1 Bd2 Bd12

theorem pips_iq (A : Option Addr) (n cp B : Nat) (xs : List Int) (z : Int) (hn : xs.length = n) (hz : pipP xs = z) (w : World) (k : Nat) (hr : RdS w B 1 enI A xs) (hx : ∀ i, 0 ≤ at_ xs i ∧ at_ xs i ≤ 1000) (hl : xs.length ≤ 1000) : Calls Try.prog 86 #[.slice A n cp] (w.drewN k) fun e w'' => e = .returned (.int .i64 z) ∧ ∃ m, w'' = w.drewN m := by
  subst hn hz
  exact Calls.quiet_of_same ((pips_i A cp B xs (w.drewN k) hr hx hl).mono fun _ _ h => ⟨h.1, h.2.symm⟩)
theorem est_mid {S D : Int} (hS : 0 < S) : (500000 * S + 1000000 * D) / S = 500000 + 1000000 * D / S := by
  rw [Int.add_comm, Int.mul_comm 500000 S, Int.add_mul_ediv_left _ _ (by omega), Int.add_comm]

set_option maxHeartbeats 4000000 in
set_option maxRecDepth 100000 in
theorem est_s (v : Vr) (b : Bd) (hb : Ok v b) (Ao At : Option Addr) (co ct B : Nat) (w : World) (hB : B ≤ w.heap.size) (ho : RdS w B 1 enI Ao b.1) (ht : RdS w B 1 enI At b.2) :
    Calls Try.prog 71 #[.agg #[.int .i64 v.p, .int .i64 v.c, .int .i64 v.h, .int .i64 v.s], .agg #[.slice Ao b.1.length co, .slice At b.2.length ct]] w fun e w' => e = .returned (.int .i64 (est v b)) ∧ Below w.heap.size w w' := by
  have hv := hb.v1
  have X1 := Lib.hid (fun i => (⟨hb.own.nn i, by have := hb.own.top i; omega⟩ : 0 ≤ at_ b.1 i ∧ at_ b.1 i ≤ 1000))
  have X2 := Lib.hid (fun i => (⟨hb.oth.nn i, by have := hb.oth.top i; omega⟩ : 0 ≤ at_ b.2 i ∧ at_ b.2 i ≤ 1000))
  have hn1 := hb.own.len
  have hn2 := hb.oth.len
  obtain ⟨p1, hp1⟩ : ∃ p, pipP b.1 = p := ⟨_, rfl⟩
  obtain ⟨p2, hp2⟩ : ∃ p, pipP b.2 = p := ⟨_, rfl⟩
  have b1 : 0 ≤ p1 ∧ p1 ≤ 25000000 := by have := pipU_bd X1.out b.1.length (by omega); rw [← hp1]; unfold pipP; omega
  have b2 : 0 ≤ p2 ∧ p2 ≤ 25000000 := by have := pipU_bd X2.out b.2.length (by omega); rw [← hp2]; unfold pipP; omega
  obtain ⟨E, hE⟩ : ∃ e, est v b = e := ⟨_, rfl⟩
  have hE2 := hE
  unfold est at hE2
  rw [hp1, hp2] at hE2
  have HE := Lib.hid hE2
  rw [hE]
  have C1 := Lib.hid (fun w (h : RdS w B 1 enI Ao b.1) => sum_s Ao co B b.1 w h X1.out (by omega))
  have C2 := Lib.hid (fun w (h : RdS w B 1 enI At b.2) => sum_s At ct B b.2 w h X2.out (by omega))
  have HP1 := Lib.hid hp1
  have HP2 := Lib.hid hp2
  have D1 := Lib.hid (fun w (h : RdS w B 1 enI Ao b.1) => pips_s Ao co B b.1 w h X1.out (by omega))
  have D2 := Lib.hid (fun w (h : RdS w B 1 enI At b.2) => pips_s At ct B b.2 w h X2.out (by omega))
  rw [hp1] at D1
  rw [hp2] at D2
  have hN1 := Lib.hid (show b.1.length ≤ 1000 by omega)
  have hN2 := Lib.hid (show b.2.length ≤ 1000 by omega)
  have hs0 : 1 ≤ v.s ∧ v.s ≤ 6 := hv.2.2.2
  clear hb hv hE hE2 hp1 hp2 hn1 hn2
  go_enter Try.func71, Try.ntmps71
  go_wp2_with fail
  refine (C1.out _ (ho.below (by go_grown) hB)).mono ?_
  rintro e w1 ⟨rfl, rfl⟩
  by_cases h1 : b.1.sum = 0
  · obtain rfl : E = 1000000 := by rw [← HE.out]; simp [h1]
    have e1 : (b.1.sum == 0) = true := by simp [h1]
    clear h1
    go_wp2_with fail
    go_ret
    exact ⟨rfl, by go_grown⟩
  · have e1 : (b.1.sum == 0) = false := by simp [h1]
    rw [if_neg h1] at HE
    clear h1
    go_wp2_with fail
    refine (C2.out _ (ht.below (by go_grown) hB)).mono ?_
    rintro e w2 ⟨rfl, rfl⟩
    by_cases h2 : b.2.sum = 0
    · obtain rfl : E = 0 := by rw [← HE.out]; simp [h2]
      have e2 : (b.2.sum == 0) = true := by simp [h2]
      clear h2
      go_wp2_with fail
      go_ret
      exact ⟨rfl, by go_grown⟩
    · have e2 : (b.2.sum == 0) = false := by simp [h2]
      rw [if_neg h2] at HE
      clear h2
      have g1 : IntKind.i64.wrap (p1 + p2) = p1 + p2 := IntWalk.i64_in _ (by omega)
      have g2 : IntKind.i64.wrap (p1 + p2 + v.s) = p1 + p2 + v.s := IntWalk.i64_in _ (by omega)
      have g3 : IntKind.i64.wrap (p2 - p1) = p2 - p1 := IntWalk.i64_in _ (by omega)
      have g4 : IntKind.i64.wrap (p2 - p1 + v.s) = p2 - p1 + v.s := IntWalk.i64_in _ (by omega)
      have g5 : IntKind.i64.wrap (1000000 * (p2 - p1 + v.s)) = 1000000 * (p2 - p1 + v.s) := IntWalk.i64_in _ (by omega)
      have hdv : 500000 + 1000000 * (p2 - p1 + v.s) / (p1 + p2 + v.s) ≤ 1000000000000000 ∧ -1000000000000000 ≤ 500000 + 1000000 * (p2 - p1 + v.s) / (p1 + p2 + v.s) := by
        have hpos : 0 < p1 + p2 + v.s := by omega
        have h1 : -1000000 ≤ 1000000 * (p2 - p1 + v.s) / (p1 + p2 + v.s) := (Int.le_ediv_iff_mul_le hpos).2 (by omega)
        have h2 : 1000000 * (p2 - p1 + v.s) / (p1 + p2 + v.s) ≤ 1000000 := Int.ediv_le_of_le_mul hpos (by omega)
        omega
      have CF := Lib.hid (fun w => floor_s (1000000 * (p2 - p1 + v.s)) (p1 + p2 + v.s) (by omega) (by omega) w)
      generalize 1000000 * (p2 - p1 + v.s) / (p1 + p2 + v.s) = Q at HE CF hdv ⊢
      have g8 : IntKind.i64.wrap (500000 + Q) = 500000 + Q := IntWalk.i64_in _ (by omega)
      go_wp2_with fail
      refine (D1.out _ (ho.below (by go_grown) hB)).mono ?_
      rintro e w3 ⟨rfl, rfl⟩
      go_wp2_with fail
      refine (D2.out _ (ht.below (by go_grown) hB)).mono ?_
      rintro e w4 ⟨rfl, rfl⟩
      go_wp2_with fail
      refine (CF.out _).mono ?_
      rintro e w5 ⟨rfl, rfl⟩
      go_wp2_with fail
      all_goals
        go_ret
        refine ⟨ret1 ?_, by go_grown⟩
        rw [← HE.out]
        omega
end Go.Proofs.Ytfgkkmhafdbicaa.Bd13
