/-
  The estimate of a board: of the program and of the reference. Conditions: each theorem's own.
-/
import Derived.Test.YtfgkkmhafdbicaaBd12
import Derived.Test.YtfgkkmhafdbicaaBd2
set_option linter.unusedVariables false
set_option linter.unusedSimpArgs false
namespace Go.Proofs.Ytfgkkmhafdbicaa.Bd13I
open Go.ChangeShapes Go.WideShapes Go.ChangeAt Go.RowKit Base Ints Own PlP Bd1 Bd2 Bd12

theorem pips_iq (A : Option Addr) (n cp B : Nat) (xs : List Int) (z : Int) (hn : xs.length = n) (hz : pipP xs = z) (w : World) (k : Nat) (hr : RdS w B 1 enI A xs) (hx : ∀ i, 0 ≤ at_ xs i ∧ at_ xs i ≤ 1000) (hl : xs.length ≤ 1000) : Calls Try.prog 86 #[.slice A n cp] (w.drewN k) fun e w'' => e = .returned (.int .i64 z) ∧ ∃ m, w'' = w.drewN m := by
  subst hn hz
  exact Calls.quiet_of_same ((pips_i A cp B xs (w.drewN k) hr hx hl).mono fun _ _ h => ⟨h.1, h.2.symm⟩)
theorem est_mid {S D : Int} (hS : 0 < S) : (500000 * S + 1000000 * D) / S = 500000 + 1000000 * D / S := by
  rw [Int.add_comm, Int.mul_comm 500000 S, Int.add_mul_ediv_left _ _ (by omega), Int.add_comm]

set_option maxHeartbeats 4000000 in
set_option maxRecDepth 100000 in
theorem est_i (v : Vr) (b : Bd) (hb : Ok v b) (Ao At : Option Addr) (co ct B : Nat) (w : World) (hB : B ≤ w.heap.size) (ho : RdS w B 1 enI Ao b.1) (ht : RdS w B 1 enI At b.2) :
    Calls Try.prog 76 #[.agg #[.int .i64 v.p, .int .i64 v.c, .int .i64 v.h, .int .i64 v.s], .agg #[.slice Ao b.1.length co, .slice At b.2.length ct]] w fun e w' => e = .returned (.int .i64 (est v b)) ∧ Below w.heap.size w w' := by
  have hv := hb.v1
  have X1 := Lib.hid (fun i => (⟨hb.own.nn i, by have := hb.own.top i; omega⟩ : 0 ≤ at_ b.1 i ∧ at_ b.1 i ≤ 1000))
  have X2 := Lib.hid (fun i => (⟨hb.oth.nn i, by have := hb.oth.top i; omega⟩ : 0 ≤ at_ b.2 i ∧ at_ b.2 i ≤ 1000))
  have hn1 := hb.own.len
  have hn2 := hb.oth.len
  obtain ⟨p1, hp1⟩ : ∃ p, pipP b.1 = p := ⟨_, rfl⟩
  obtain ⟨p2, hp2⟩ : ∃ p, pipP b.2 = p := ⟨_, rfl⟩
  have b1 : 0 ≤ p1 ∧ p1 ≤ 25000000 := by have := pipU_bd X1.out b.1.length (by omega); rw [← hp1]; unfold pipP; omega
  have b2 : 0 ≤ p2 ∧ p2 ≤ 25000000 := by have := pipU_bd X2.out b.2.length (by omega); rw [← hp2]; unfold pipP; omega
  obtain ⟨E, hE⟩ : ∃ e, est v b = e := ⟨_, rfl⟩
  have hE2 := hE
  unfold est at hE2
  rw [hp1, hp2] at hE2
  have HE := Lib.hid hE2
  rw [hE]
  have C1 := Lib.hid (fun w (h : RdS w B 1 enI Ao b.1) => sum_i Ao co B b.1 w h X1.out (by omega))
  have C2 := Lib.hid (fun w (h : RdS w B 1 enI At b.2) => sum_i At ct B b.2 w h X2.out (by omega))
  have HP1 := Lib.hid hp1
  have HP2 := Lib.hid hp2
  have D1 := Lib.hid (fun w (h : RdS w B 1 enI Ao b.1) => pips_i Ao co B b.1 w h X1.out (by omega))
  have D2 := Lib.hid (fun w (h : RdS w B 1 enI At b.2) => pips_i At ct B b.2 w h X2.out (by omega))
  rw [hp1] at D1
  rw [hp2] at D2
  have hN1 := Lib.hid (show b.1.length ≤ 1000 by omega)
  have hN2 := Lib.hid (show b.2.length ≤ 1000 by omega)
  have hs0 : 1 ≤ v.s ∧ v.s ≤ 6 := hv.2.2.2
  clear hb hv hE hE2 hp1 hp2 hn1 hn2
  go_enter Try.func76, Try.ntmps76
  go_wp2_with fail
  refine (C1.out _ (ho.below (by go_grown) hB)).mono ?_
  rintro e w1 ⟨rfl, rfl⟩
  by_cases h1 : b.1.sum = 0
  · obtain rfl : E = 1000000 := by rw [← HE.out]; simp [h1]
    have e1 : (b.1.sum == 0) = true := by simp [h1]
    clear h1
    go_wp2_with fail
    go_ret
    exact ⟨rfl, by go_grown⟩
  · have e1 : (b.1.sum == 0) = false := by simp [h1]
    rw [if_neg h1] at HE
    clear h1
    go_wp2_with fail
    refine (C2.out _ (ht.below (by go_grown) hB)).mono ?_
    rintro e w2 ⟨rfl, rfl⟩
    by_cases h2 : b.2.sum = 0
    · obtain rfl : E = 0 := by rw [← HE.out]; simp [h2]
      have e2 : (b.2.sum == 0) = true := by simp [h2]
      clear h2
      go_wp2_with fail
      go_ret
      exact ⟨rfl, by go_grown⟩
    · have e2 : (b.2.sum == 0) = false := by simp [h2]
      rw [if_neg h2] at HE
      clear h2
      have g1 : IntKind.i64.wrap (p1 + p2) = p1 + p2 := IntWalk.i64_in _ (by omega)
      have g2 : IntKind.i64.wrap (p1 + p2 + v.s) = p1 + p2 + v.s := IntWalk.i64_in _ (by omega)
      have g3 : IntKind.i64.wrap (p2 - p1) = p2 - p1 := IntWalk.i64_in _ (by omega)
      have g4 : IntKind.i64.wrap (p2 - p1 + v.s) = p2 - p1 + v.s := IntWalk.i64_in _ (by omega)
      have g5 : IntKind.i64.wrap (1000000 * (p2 - p1 + v.s)) = 1000000 * (p2 - p1 + v.s) := IntWalk.i64_in _ (by omega)
      have g6 : IntKind.i64.wrap (500000 * (p1 + p2 + v.s)) = 500000 * (p1 + p2 + v.s) := IntWalk.i64_in _ (by omega)
      have g7 : IntKind.i64.wrap (500000 * (p1 + p2 + v.s) + 1000000 * (p2 - p1 + v.s)) = 500000 * (p1 + p2 + v.s) + 1000000 * (p2 - p1 + v.s) := IntWalk.i64_in _ (by omega)
      have CF := Lib.hid (fun w => floor_i (500000 * (p1 + p2 + v.s) + 1000000 * (p2 - p1 + v.s)) (p1 + p2 + v.s) (by omega) (by omega) w)
      rw [est_mid (by omega)] at CF
      have HO := Lib.hid ho
      have HT := Lib.hid ht
      clear ho ht C1 C2 D1 D2
      go_upto_region 5 with (fail)
      refine wp_gen (fun W' => Below w.heap.size w W' ∧ RowB W' w.heap.size 32 [.int .i64 v.p, .int .i64 v.c, .int .i64 v.h, .int .i64 v.s] ∧ RowB W' (w.heap.size + 1) 34 [.slice Ao b.1.length co, .slice At b.2.length ct]) ⟨by go_grown, (RowB.new _ _ _).alloc _, RowB.new' _ _ _ (by simp)⟩ ?_
      rintro w1 ⟨hb, rv, rb⟩
      obtain ⟨q0, q1, q2, q3⟩ := rv.c4
      obtain ⟨r0, r1⟩ := rb.c2
      have hl1 := rv.lt
      have hl2 := rb.lt
      have K1 := Lib.hid (fun k => pips_iq Ao _ co B b.1 p1 rfl HP1.out w1 k ((HO.out.below hb hB)) X1.out hN1.out)
      have K2 := Lib.hid (fun k => pips_iq At _ ct B b.2 p2 rfl HP2.out w1 k ((HT.out.below hb hB)) X2.out hN2.out)
      clear HO HT e1 e2
      go_wp2_with fail
      go_quiet ((go_at_call 86; first | with_reducible exact K1.out _ | with_reducible exact K2.out _))
      go_wp2_with fail
      refine (CF.out _).mono ?_
      rintro e w3 ⟨rfl, rfl⟩
      generalize 500000 + 1000000 * (p2 - p1 + v.s) / (p1 + p2 + v.s) = Q at HE ⊢
      go_wp2_with fail
      all_goals
        go_ret
        refine ⟨ret1 ?_, below_drewN hb _⟩
        rw [← HE.out]
        omega

end Go.Proofs.Ytfgkkmhafdbicaa.Bd13I
