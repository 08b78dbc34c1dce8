/-
  Pips; the first greatest of a list, the greatest; floor division. Conditions: each theorem's own.
  The weight of a roll: of the reference. Conditions: each theorem's own.
  The estimate of a board: of the program and of the reference. Conditions: each theorem's own.
  The estimate of a board: of the program and of the reference. Conditions: each theorem's own.
-/
import Derived.Test.YtfgkkmhafdbicaaPlP
import Derived.Test.YtfgkkmhafdbicaaBd1
import Derived.Deep.DeepCutAuto
import Derived.Test.YtfgkkmhafdbicaaOwn
import Derived.Test.YtfgkkmhafdbicaaInts

set_option linter.unusedVariables false
set_option linter.unusedSimpArgs false
namespace Go.Proofs.Ytfgkkmhafdbicaa.Bd12
open Go.ChangeShapes Go.WideShapes Go.ChangeAt Go.RowKit Base Ints Own PlP Bd1

theorem pipU_bd {l : List Int} (h : ∀ i, 0 ≤ at_ l i ∧ at_ l i ≤ 1000) : ∀ k, k ≤ 1000 → 0 ≤ pipU l k ∧ pipU l k ≤ 1000000 * (k : Int) := by
  intro k
  induction k with
  | zero => intro _; simp [pipU]
  | succ k ih =>
    intro hk
    have h1 := ih (by omega)
    have h2 := h k
    have h3 : 0 ≤ ((k : Int) + 1) * at_ l k := Int.mul_nonneg (by omega) h2.1
    have h4 : ((k : Int) + 1) * at_ l k ≤ 1000 * 1000 := Int.mul_le_mul (by omega) h2.2 h2.1 (by omega)
    simp only [pipU]
    omega
set_option maxHeartbeats 1000000 in
theorem pips_i (A : Option Addr) (cp B : Nat) (xs : List Int) (w : World) (hr : RdS w B 1 enI A xs) (hx : ∀ i, 0 ≤ at_ xs i ∧ at_ xs i ≤ 1000) (hl : xs.length ≤ 1000) :
    Calls Try.prog 86 #[.slice A xs.length cp] w fun e w' => e = .returned (.int .i64 (pipP xs)) ∧ w = w' := by
  obtain ⟨n, hn⟩ : ∃ n, xs.length = n := ⟨_, rfl⟩
  obtain ⟨z, hz⟩ : ∃ z, pipP xs = z := ⟨_, rfl⟩
  have HN := Lib.hid hn
  have HX := Lib.hid hx
  have HZ : Hid (pipU xs n = z) := Lib.hid (by rw [← hn, ← hz]; rfl)
  rw [hn] at hl
  rw [hn, hz]
  clear hn hz hx
  go_enter Try.func86, Try.ntmps86
  go_wp2_with fail
  go_loopw [3, 8] (fun s i wr => ∃ (k : Nat) (t : Int), k ≤ n ∧ s = .int .i64 t ∧ i = .int .i64 (k : Int) ∧ Hid (w = wr) ∧ Hid (t = pipU xs k)) (fun _ i _ => n - (intOf i).toNat)
  case atStart => exact ⟨0, 0, Nat.zero_le _, by first | rfl | trivial, by first | rfl | trivial, Lib.hid (by first | rfl | trivial), Lib.hid rfl⟩
  case round =>
    obtain ⟨k, t, hk, rfl, rfl, hw, ht⟩ := hrel
    by_cases hlt : k < n
    · obtain ⟨bk, off, rfl, hbk, hc⟩ := at_rd hr (i := k) (by rw [HN.out]; exact hlt)
      rw [hw.out] at hc
      have hkn : (k : Int) < (n : Int) := by omega
      have hm1 := HX.out k
      have hb0 := pipU_bd HX.out k (by omega)
      have hb1 := pipU_bd HX.out (k + 1) (by omega)
      have hS : pipU xs (k + 1) = t + ((k : Int) + 1) * at_ xs k := by rw [ht.out]; rfl
      have hT := ht.out
      have hmul0 : 0 ≤ ((k : Int) + 1) * at_ xs k := Int.mul_nonneg (by omega) hm1.1
      have e1 : IntKind.i64.wrap ((k : Int) + 1) = (k : Int) + 1 := IntWalk.i64_in _ (by omega)
      have e2 : IntKind.i64.wrap (((k : Int) + 1) * at_ xs k) = ((k : Int) + 1) * at_ xs k := IntWalk.i64_in _ (by omega)
      have e3 : IntKind.i64.wrap (t + ((k : Int) + 1) * at_ xs k) = t + ((k : Int) + 1) * at_ xs k := IntWalk.i64_in _ (by omega)
      have HS := Lib.hid hS.symm
      clear hS hT hb0 hb1 hm1 hmul0
      go_wp2_with fail
      go_roundw
      case rel => exact ⟨k + 1, _, by omega, rfl, by go_num, hw, HS⟩
      case measure => simp [intOf]; omega
    · obtain rfl : n = k := by omega
      obtain rfl : t = z := by rw [ht.out, HZ.out]
      go_wp2_with fail
      go_ret
      exact ⟨rfl, hw.out⟩
set_option maxHeartbeats 1000000 in
theorem pips_s (A : Option Addr) (cp B : Nat) (xs : List Int) (w : World) (hr : RdS w B 1 enI A xs) (hx : ∀ i, 0 ≤ at_ xs i ∧ at_ xs i ≤ 1000) (hl : xs.length ≤ 1000) :
    Calls Try.prog 84 #[.slice A xs.length cp] w fun e w' => e = .returned (.int .i64 (pipP xs)) ∧ w = w' := by
  obtain ⟨n, hn⟩ : ∃ n, xs.length = n := ⟨_, rfl⟩
  obtain ⟨z, hz⟩ : ∃ z, pipP xs = z := ⟨_, rfl⟩
  have HN := Lib.hid hn
  have HX := Lib.hid hx
  have HZ : Hid (pipU xs n = z) := Lib.hid (by rw [← hn, ← hz]; rfl)
  rw [hn] at hl
  rw [hn, hz]
  clear hn hz hx
  go_enter Try.func84, Try.ntmps84
  go_wp2_with fail
  go_loopw [3, 4] (fun s i wr => ∃ (k : Nat) (t : Int), k ≤ n ∧ s = .int .i64 t ∧ i = .int .i64 (k : Int) ∧ Hid (w = wr) ∧ Hid (t = pipU xs k)) (fun _ i _ => n - (intOf i).toNat)
  case atStart => exact ⟨0, 0, Nat.zero_le _, by first | rfl | trivial, by first | rfl | trivial, Lib.hid (by first | rfl | trivial), Lib.hid rfl⟩
  case round =>
    obtain ⟨k, t, hk, rfl, rfl, hw, ht⟩ := hrel
    by_cases hlt : k < n
    · obtain ⟨bk, off, rfl, hbk, hc⟩ := at_rd hr (i := k) (by rw [HN.out]; exact hlt)
      rw [hw.out] at hc
      have hkn : (k : Int) < (n : Int) := by omega
      have hm1 := HX.out k
      have hb0 := pipU_bd HX.out k (by omega)
      have hb1 := pipU_bd HX.out (k + 1) (by omega)
      have hS : pipU xs (k + 1) = t + ((k : Int) + 1) * at_ xs k := by rw [ht.out]; rfl
      have hT := ht.out
      have hmul0 : 0 ≤ ((k : Int) + 1) * at_ xs k := Int.mul_nonneg (by omega) hm1.1
      have e1 : IntKind.i64.wrap ((k : Int) + 1) = (k : Int) + 1 := IntWalk.i64_in _ (by omega)
      have e2 : IntKind.i64.wrap (((k : Int) + 1) * at_ xs k) = ((k : Int) + 1) * at_ xs k := IntWalk.i64_in _ (by omega)
      have e3 : IntKind.i64.wrap (t + ((k : Int) + 1) * at_ xs k) = t + ((k : Int) + 1) * at_ xs k := IntWalk.i64_in _ (by omega)
      have HS := Lib.hid hS.symm
      clear hS hT hb0 hb1 hm1 hmul0
      go_wp2_with fail
      go_roundw
      case rel => exact ⟨k + 1, _, by omega, rfl, by go_num, hw, HS⟩
      case measure => simp [intOf]; omega
    · obtain rfl : n = k := by omega
      obtain rfl : t = z := by rw [ht.out, HZ.out]
      go_wp2_with fail
      go_ret
      exact ⟨rfl, hw.out⟩
set_option maxHeartbeats 1000000 in
theorem first_i (A : Option Addr) (cp B : Nat) (xs : List Int) (w : World) (hr : RdS w B 1 enI A xs) (hl : 0 < xs.length) :
    Calls Try.prog 39 #[.slice A xs.length cp] w fun e w' => e = .returned (.int .i64 (fgP xs : Nat)) ∧ w = w' := by
  have hmx := hr.len
  obtain ⟨n, hn⟩ : ∃ n, xs.length = n := ⟨_, rfl⟩
  obtain ⟨z, hz⟩ : ∃ z, fgP xs = z := ⟨_, rfl⟩
  have HN := Lib.hid hn
  have HZ : Hid (fgU xs (n - 1) = z) := Lib.hid (by rw [← hn, ← hz]; rfl)
  rw [hn] at hl hmx
  rw [hn, hz]
  clear hn hz
  go_enter Try.func39, Try.ntmps39
  go_wp2_with fail
  go_loopw [3, 8] (fun s i wr => ∃ (k t : Nat), k ≤ n ∧ t < n ∧ s = .int .i64 (t : Int) ∧ i = .int .i64 (k : Int) ∧ Hid (w = wr) ∧ Hid (t = fgU xs (k - 1))) (fun _ i _ => n - (intOf i).toNat)
  case atStart => exact ⟨0, 0, Nat.zero_le _, hl, by first | rfl | trivial, by first | rfl | trivial, Lib.hid (by first | rfl | trivial), Lib.hid rfl⟩
  case round =>
    obtain ⟨k, t, hk, htn, rfl, rfl, hw, ht⟩ := hrel
    by_cases hlt : k < n
    · obtain ⟨bk, off, rfl, hbk, hc⟩ := at_rd hr (i := k) (by rw [HN.out]; exact hlt)
      obtain ⟨bk', off', hA, -, hc2⟩ := at_rd hr (i := t) (by rw [HN.out]; exact htn)
      simp only [Option.some.injEq, Addr.mk.injEq, and_true] at hA
      obtain ⟨rfl, rfl⟩ := hA
      rw [hw.out] at hc hc2
      have hkn : (k : Int) < (n : Int) := by omega
      have htn2 : (t : Int) < (n : Int) := by omega
      have e1 : IntKind.i64.wrap ((k : Int) + 1) = (k : Int) + 1 := IntWalk.i64_in _ (by omega)
      by_cases hv : at_ xs t < at_ xs k
      · have HS : Hid (k = fgU xs (k + 1 - 1)) := Lib.hid (by
          cases k with
          | zero => have h0 := ht.out; simp [fgU] at h0; subst h0; omega
          | succ j => have h0 := ht.out; simp only [Nat.add_sub_cancel] at h0 ⊢; simp only [fgU]; rw [← h0, if_pos hv])
        go_wp2_with fail
        go_roundw
        case rel => exact ⟨k + 1, k, by omega, hlt, by first | rfl | go_num, by go_num, hw, HS⟩
        case measure => simp [intOf]; omega
      · have HS : Hid (t = fgU xs (k + 1 - 1)) := Lib.hid (by
          cases k with
          | zero => have h0 := ht.out; simp [fgU] at h0; subst h0; rfl
          | succ j => have h0 := ht.out; simp only [Nat.add_sub_cancel] at h0 ⊢; simp only [fgU]; rw [← h0, if_neg hv])
        go_wp2_with fail
        go_roundw
        case rel => exact ⟨k + 1, t, by omega, htn, rfl, by go_num, hw, HS⟩
        case measure => simp [intOf]; omega
    · obtain rfl : n = k := by omega
      obtain rfl : t = z := by rw [ht.out, HZ.out]
      go_wp2_with fail
      go_ret
      exact ⟨rfl, hw.out⟩

set_option maxHeartbeats 1000000 in
theorem great_s (A : Option Addr) (cp B : Nat) (xs : List Int) (w : World) (hr : RdS w B 1 enI A xs) (hl : 0 < xs.length) :
    Calls Try.prog 48 #[.slice A xs.length cp] w fun e w' => e = .returned (.int .i64 (grt xs)) ∧ w = w' := by
  have hmx := hr.len
  obtain ⟨n, hn⟩ : ∃ n, xs.length = n := ⟨_, rfl⟩
  obtain ⟨z, hz⟩ : ∃ z, grt xs = z := ⟨_, rfl⟩
  have HN := Lib.hid hn
  have HZ : Hid (grU xs (n - 1) = z) := Lib.hid (by rw [← hn, ← hz]; rfl)
  rw [hn] at hl hmx
  rw [hn, hz]
  clear hn hz
  obtain ⟨bk, off, rfl, hbk, hc0⟩ := at_rd hr (i := 0) (by rw [HN.out]; exact hl)
  simp only [Nat.add_zero] at hc0
  have hl0 : (0 : Int) < (n : Int) := by omega
  go_enter Try.func48, Try.ntmps48
  go_wp2_with fail
  go_loopw [3, 4] (fun s i wr => ∃ (k : Nat) (t : Int), k ≤ n ∧ 1 ≤ k ∧ s = .int .i64 t ∧ i = .int .i64 (k : Int) ∧ Hid (w = wr) ∧ Hid (t = grU xs (k - 1))) (fun _ i _ => n - (intOf i).toNat)
  case atStart => exact ⟨1, at_ xs 0, by omega, by omega, by first | rfl | trivial, by first | rfl | trivial, Lib.hid (by first | rfl | trivial), Lib.hid rfl⟩
  case round =>
    obtain ⟨k, t, hk, hk1, rfl, rfl, hw, ht⟩ := hrel
    by_cases hlt : k < n
    · obtain ⟨bk', off', hA, -, hc⟩ := at_rd hr (i := k) (by rw [HN.out]; exact hlt)
      simp only [Option.some.injEq, Addr.mk.injEq, and_true] at hA
      obtain ⟨rfl, rfl⟩ := hA
      rw [hw.out] at hc
      have hkn : (k : Int) < (n : Int) := by omega
      have e1 : IntKind.i64.wrap ((k : Int) + 1) = (k : Int) + 1 := IntWalk.i64_in _ (by omega)
      have HS : Hid ((if t < at_ xs k then at_ xs k else t) = grU xs (k + 1 - 1)) := Lib.hid (by
        obtain ⟨j, rfl⟩ : ∃ j, k = j + 1 := ⟨k - 1, by omega⟩
        have h0 := ht.out
        simp only [Nat.add_sub_cancel] at h0 ⊢
        simp only [grU]
        rw [← h0]
        split <;> omega)
      go_wp2_with fail
      go_roundw
      case rel => exact ⟨k + 1, _, by omega, by omega, rfl, by go_num, hw, HS⟩
      case measure => simp [intOf]; omega
    · obtain rfl : n = k := by omega
      obtain rfl : t = z := by rw [ht.out, HZ.out]
      go_wp2_with fail
      go_ret
      exact ⟨rfl, hw.out⟩

set_option maxHeartbeats 1000000 in
theorem floor_i (x y : Int) (hy : 0 < y ∧ y ≤ 1000000000) (hx : -1000000000000000 ≤ x ∧ x ≤ 1000000000000000) (w : World) :
    Calls Try.prog 87 #[.int .i64 x, .int .i64 y] w fun e w' => e = .returned (.int .i64 (x / y)) ∧ w = w' := by
  have hfe := floor_eq (x := x) hy.1
  have hd1 : -1000000000000000 ≤ x.tdiv y ∧ x.tdiv y ≤ 1000000000000000 := by
    have h := Int.natAbs_tdiv_le_natAbs x y
    omega
  have hne : (y == 0) = false := by simp; omega
  have hne2 : ¬ y = 0 := by omega
  have hrm : -1000000000000 ≤ x.tmod y ∧ x.tmod y ≤ 1000000000000 := by
    have h1 := Int.tmod_lt_of_pos x hy.1
    have h2 : -y < x.tmod y := by
      by_cases h0 : 0 ≤ x
      · have := Int.tmod_nonneg y h0; omega
      · have := Int.tmod_lt_of_pos (-x) hy.1
        rw [Int.neg_tmod] at this
        omega
    omega
  have e1 : IntKind.i64.wrap (x.tdiv y) = x.tdiv y := IntWalk.i64_in _ (by omega)
  have e2 : IntKind.i64.wrap (x.tmod y) = x.tmod y := IntWalk.i64_in _ (by omega)
  have e3 : IntKind.i64.wrap (x.tdiv y - 1) = x.tdiv y - 1 := IntWalk.i64_in _ (by omega)
  by_cases hr : x.tmod y < 0
  · rw [if_pos hr] at hfe
    have HF := Lib.hid hfe
    clear hfe
    go_enter Try.func87, Try.ntmps87
    go_wp2_with fail
    go_ret
    exact ⟨ret1 HF.out, rfl⟩
  · rw [if_neg hr] at hfe
    have HF := Lib.hid hfe
    clear hfe
    go_enter Try.func87, Try.ntmps87
    go_wp2_with fail
    go_ret
    exact ⟨ret1 HF.out, rfl⟩
set_option maxHeartbeats 1000000 in
theorem floor_s (x y : Int) (hy : 0 < y ∧ y ≤ 1000000000) (hx : -1000000000000000 ≤ x ∧ x ≤ 1000000000000000) (w : World) :
    Calls Try.prog 85 #[.int .i64 x, .int .i64 y] w fun e w' => e = .returned (.int .i64 (x / y)) ∧ w = w' := by
  have hfe := floor_eq (x := x) hy.1
  have hd1 : -1000000000000000 ≤ x.tdiv y ∧ x.tdiv y ≤ 1000000000000000 := by
    have h := Int.natAbs_tdiv_le_natAbs x y
    omega
  have hne : (y == 0) = false := by simp; omega
  have hne2 : ¬ y = 0 := by omega
  have hrm : -1000000000000 ≤ x.tmod y ∧ x.tmod y ≤ 1000000000000 := by
    have h1 := Int.tmod_lt_of_pos x hy.1
    have h2 : -y < x.tmod y := by
      by_cases h0 : 0 ≤ x
      · have := Int.tmod_nonneg y h0; omega
      · have := Int.tmod_lt_of_pos (-x) hy.1
        rw [Int.neg_tmod] at this
        omega
    omega
  have e1 : IntKind.i64.wrap (x.tdiv y) = x.tdiv y := IntWalk.i64_in _ (by omega)
  have e2 : IntKind.i64.wrap (x.tmod y) = x.tmod y := IntWalk.i64_in _ (by omega)
  have e3 : IntKind.i64.wrap (x.tdiv y - 1) = x.tdiv y - 1 := IntWalk.i64_in _ (by omega)
  by_cases hr : x.tmod y < 0
  · rw [if_pos hr] at hfe
    have HF := Lib.hid hfe
    clear hfe
    go_enter Try.func85, Try.ntmps85
    go_wp2_with fail
    go_ret
    exact ⟨ret1 HF.out, rfl⟩
  · rw [if_neg hr] at hfe
    have HF := Lib.hid hfe
    clear hfe
    go_enter Try.func85, Try.ntmps85
    go_wp2_with fail
    go_ret
    exact ⟨ret1 HF.out, rfl⟩
end Go.Proofs.Ytfgkkmhafdbicaa.Bd12

set_option linter.unusedVariables false
set_option linter.unusedSimpArgs false
namespace Go.Proofs.Ytfgkkmhafdbicaa.Bd14
open Go.ChangeShapes Go.WideShapes Go.ChangeAt Go.RowKit Base Ints Own PlP

theorem weight_s (a b : Int) (w : World) : Calls Try.prog 73 #[.agg #[.int .i64 a, .int .i64 b]] w fun e w' => e = .returned (.int .i64 (wtP (a, b))) ∧ Below w.heap.size w w' := by
  by_cases h : a = b
  · have HO : Hid (wtP (a, b) = 1) := Lib.hid (by unfold wtP; rw [if_pos h])
    have e1 : (a == b) = true := by simp [h]
    clear h
    go_enter Try.func73, Try.ntmps73
    go_wp2_with fail
    go_ret
    exact ⟨ret1 HO.out.symm, by go_grown⟩
  · have HO : Hid (wtP (a, b) = 2) := Lib.hid (by unfold wtP; rw [if_neg h])
    have e1 : (a == b) = false := by simp [h]
    clear h
    go_enter Try.func73, Try.ntmps73
    go_wp2_with fail
    go_ret
    exact ⟨ret1 HO.out.symm, by go_grown⟩
end Go.Proofs.Ytfgkkmhafdbicaa.Bd14

set_option linter.unusedVariables false
set_option linter.unusedSimpArgs false
namespace Go.Proofs.Ytfgkkmhafdbicaa.Bd13
open Go.ChangeShapes Go.WideShapes Go.ChangeAt Go.RowKit Base Ints Own PlP Bd1 Bd2 Bd12

theorem pips_iq (A : Option Addr) (n cp B : Nat) (xs : List Int) (z : Int) (hn : xs.length = n) (hz : pipP xs = z) (w : World) (k : Nat) (hr : RdS w B 1 enI A xs) (hx : ∀ i, 0 ≤ at_ xs i ∧ at_ xs i ≤ 1000) (hl : xs.length ≤ 1000) : Calls Try.prog 86 #[.slice A n cp] (w.drewN k) fun e w'' => e = .returned (.int .i64 z) ∧ ∃ m, w'' = w.drewN m := by
  subst hn hz
  exact Calls.quiet_of_same ((pips_i A cp B xs (w.drewN k) hr hx hl).mono fun _ _ h => ⟨h.1, h.2.symm⟩)
theorem est_mid {S D : Int} (hS : 0 < S) : (500000 * S + 1000000 * D) / S = 500000 + 1000000 * D / S := by
  rw [Int.add_comm, Int.mul_comm 500000 S, Int.add_mul_ediv_left _ _ (by omega), Int.add_comm]

set_option maxHeartbeats 4000000 in
set_option maxRecDepth 100000 in
theorem est_s (v : Vr) (b : Bd) (hb : Ok v b) (Ao At : Option Addr) (co ct B : Nat) (w : World) (hB : B ≤ w.heap.size) (ho : RdS w B 1 enI Ao b.1) (ht : RdS w B 1 enI At b.2) :
    Calls Try.prog 71 #[.agg #[.int .i64 v.p, .int .i64 v.c, .int .i64 v.h, .int .i64 v.s], .agg #[.slice Ao b.1.length co, .slice At b.2.length ct]] w fun e w' => e = .returned (.int .i64 (est v b)) ∧ Below w.heap.size w w' := by
  have hv := hb.v1
  have X1 := Lib.hid (fun i => (⟨hb.own.nn i, by have := hb.own.top i; omega⟩ : 0 ≤ at_ b.1 i ∧ at_ b.1 i ≤ 1000))
  have X2 := Lib.hid (fun i => (⟨hb.oth.nn i, by have := hb.oth.top i; omega⟩ : 0 ≤ at_ b.2 i ∧ at_ b.2 i ≤ 1000))
  have hn1 := hb.own.len
  have hn2 := hb.oth.len
  obtain ⟨p1, hp1⟩ : ∃ p, pipP b.1 = p := ⟨_, rfl⟩
  obtain ⟨p2, hp2⟩ : ∃ p, pipP b.2 = p := ⟨_, rfl⟩
  have b1 : 0 ≤ p1 ∧ p1 ≤ 25000000 := by have := pipU_bd X1.out b.1.length (by omega); rw [← hp1]; unfold pipP; omega
  have b2 : 0 ≤ p2 ∧ p2 ≤ 25000000 := by have := pipU_bd X2.out b.2.length (by omega); rw [← hp2]; unfold pipP; omega
  obtain ⟨E, hE⟩ : ∃ e, est v b = e := ⟨_, rfl⟩
  have hE2 := hE
  unfold est at hE2
  rw [hp1, hp2] at hE2
  have HE := Lib.hid hE2
  rw [hE]
  have C1 := Lib.hid (fun w (h : RdS w B 1 enI Ao b.1) => sum_s Ao co B b.1 w h X1.out (by omega))
  have C2 := Lib.hid (fun w (h : RdS w B 1 enI At b.2) => sum_s At ct B b.2 w h X2.out (by omega))
  have HP1 := Lib.hid hp1
  have HP2 := Lib.hid hp2
  have D1 := Lib.hid (fun w (h : RdS w B 1 enI Ao b.1) => pips_s Ao co B b.1 w h X1.out (by omega))
  have D2 := Lib.hid (fun w (h : RdS w B 1 enI At b.2) => pips_s At ct B b.2 w h X2.out (by omega))
  rw [hp1] at D1
  rw [hp2] at D2
  have hN1 := Lib.hid (show b.1.length ≤ 1000 by omega)
  have hN2 := Lib.hid (show b.2.length ≤ 1000 by omega)
  have hs0 : 1 ≤ v.s ∧ v.s ≤ 6 := hv.2.2.2
  clear hb hv hE hE2 hp1 hp2 hn1 hn2
  go_enter Try.func71, Try.ntmps71
  go_wp2_with fail
  refine (C1.out _ (ho.below (by go_grown) hB)).mono ?_
  rintro e w1 ⟨rfl, rfl⟩
  by_cases h1 : b.1.sum = 0
  · obtain rfl : E = 1000000 := by rw [← HE.out]; simp [h1]
    have e1 : (b.1.sum == 0) = true := by simp [h1]
    clear h1
    go_wp2_with fail
    go_ret
    exact ⟨rfl, by go_grown⟩
  · have e1 : (b.1.sum == 0) = false := by simp [h1]
    rw [if_neg h1] at HE
    clear h1
    go_wp2_with fail
    refine (C2.out _ (ht.below (by go_grown) hB)).mono ?_
    rintro e w2 ⟨rfl, rfl⟩
    by_cases h2 : b.2.sum = 0
    · obtain rfl : E = 0 := by rw [← HE.out]; simp [h2]
      have e2 : (b.2.sum == 0) = true := by simp [h2]
      clear h2
      go_wp2_with fail
      go_ret
      exact ⟨rfl, by go_grown⟩
    · have e2 : (b.2.sum == 0) = false := by simp [h2]
      rw [if_neg h2] at HE
      clear h2
      have g1 : IntKind.i64.wrap (p1 + p2) = p1 + p2 := IntWalk.i64_in _ (by omega)
      have g2 : IntKind.i64.wrap (p1 + p2 + v.s) = p1 + p2 + v.s := IntWalk.i64_in _ (by omega)
      have g3 : IntKind.i64.wrap (p2 - p1) = p2 - p1 := IntWalk.i64_in _ (by omega)
      have g4 : IntKind.i64.wrap (p2 - p1 + v.s) = p2 - p1 + v.s := IntWalk.i64_in _ (by omega)
      have g5 : IntKind.i64.wrap (1000000 * (p2 - p1 + v.s)) = 1000000 * (p2 - p1 + v.s) := IntWalk.i64_in _ (by omega)
      have hdv : 500000 + 1000000 * (p2 - p1 + v.s) / (p1 + p2 + v.s) ≤ 1000000000000000 ∧ -1000000000000000 ≤ 500000 + 1000000 * (p2 - p1 + v.s) / (p1 + p2 + v.s) := by
        have hpos : 0 < p1 + p2 + v.s := by omega
        have h1 : -1000000 ≤ 1000000 * (p2 - p1 + v.s) / (p1 + p2 + v.s) := (Int.le_ediv_iff_mul_le hpos).2 (by omega)
        have h2 : 1000000 * (p2 - p1 + v.s) / (p1 + p2 + v.s) ≤ 1000000 := Int.ediv_le_of_le_mul hpos (by omega)
        omega
      have CF := Lib.hid (fun w => floor_s (1000000 * (p2 - p1 + v.s)) (p1 + p2 + v.s) (by omega) (by omega) w)
      generalize 1000000 * (p2 - p1 + v.s) / (p1 + p2 + v.s) = Q at HE CF hdv ⊢
      have g8 : IntKind.i64.wrap (500000 + Q) = 500000 + Q := IntWalk.i64_in _ (by omega)
      go_wp2_with fail
      refine (D1.out _ (ho.below (by go_grown) hB)).mono ?_
      rintro e w3 ⟨rfl, rfl⟩
      go_wp2_with fail
      refine (D2.out _ (ht.below (by go_grown) hB)).mono ?_
      rintro e w4 ⟨rfl, rfl⟩
      go_wp2_with fail
      refine (CF.out _).mono ?_
      rintro e w5 ⟨rfl, rfl⟩
      go_wp2_with fail
      all_goals
        go_ret
        refine ⟨ret1 ?_, by go_grown⟩
        rw [← HE.out]
        omega
end Go.Proofs.Ytfgkkmhafdbicaa.Bd13

set_option linter.unusedVariables false
set_option linter.unusedSimpArgs false
namespace Go.Proofs.Ytfgkkmhafdbicaa.Bd13I
open Go.ChangeShapes Go.WideShapes Go.ChangeAt Go.RowKit Base Ints Own PlP Bd1 Bd2 Bd12

theorem pips_iq (A : Option Addr) (n cp B : Nat) (xs : List Int) (z : Int) (hn : xs.length = n) (hz : pipP xs = z) (w : World) (k : Nat) (hr : RdS w B 1 enI A xs) (hx : ∀ i, 0 ≤ at_ xs i ∧ at_ xs i ≤ 1000) (hl : xs.length ≤ 1000) : Calls Try.prog 86 #[.slice A n cp] (w.drewN k) fun e w'' => e = .returned (.int .i64 z) ∧ ∃ m, w'' = w.drewN m := by
  subst hn hz
  exact Calls.quiet_of_same ((pips_i A cp B xs (w.drewN k) hr hx hl).mono fun _ _ h => ⟨h.1, h.2.symm⟩)
theorem est_mid {S D : Int} (hS : 0 < S) : (500000 * S + 1000000 * D) / S = 500000 + 1000000 * D / S := by
  rw [Int.add_comm, Int.mul_comm 500000 S, Int.add_mul_ediv_left _ _ (by omega), Int.add_comm]

set_option maxHeartbeats 4000000 in
set_option maxRecDepth 100000 in
theorem est_i (v : Vr) (b : Bd) (hb : Ok v b) (Ao At : Option Addr) (co ct B : Nat) (w : World) (hB : B ≤ w.heap.size) (ho : RdS w B 1 enI Ao b.1) (ht : RdS w B 1 enI At b.2) :
    Calls Try.prog 76 #[.agg #[.int .i64 v.p, .int .i64 v.c, .int .i64 v.h, .int .i64 v.s], .agg #[.slice Ao b.1.length co, .slice At b.2.length ct]] w fun e w' => e = .returned (.int .i64 (est v b)) ∧ Below w.heap.size w w' := by
  have hv := hb.v1
  have X1 := Lib.hid (fun i => (⟨hb.own.nn i, by have := hb.own.top i; omega⟩ : 0 ≤ at_ b.1 i ∧ at_ b.1 i ≤ 1000))
  have X2 := Lib.hid (fun i => (⟨hb.oth.nn i, by have := hb.oth.top i; omega⟩ : 0 ≤ at_ b.2 i ∧ at_ b.2 i ≤ 1000))
  have hn1 := hb.own.len
  have hn2 := hb.oth.len
  obtain ⟨p1, hp1⟩ : ∃ p, pipP b.1 = p := ⟨_, rfl⟩
  obtain ⟨p2, hp2⟩ : ∃ p, pipP b.2 = p := ⟨_, rfl⟩
  have b1 : 0 ≤ p1 ∧ p1 ≤ 25000000 := by have := pipU_bd X1.out b.1.length (by omega); rw [← hp1]; unfold pipP; omega
  have b2 : 0 ≤ p2 ∧ p2 ≤ 25000000 := by have := pipU_bd X2.out b.2.length (by omega); rw [← hp2]; unfold pipP; omega
  obtain ⟨E, hE⟩ : ∃ e, est v b = e := ⟨_, rfl⟩
  have hE2 := hE
  unfold est at hE2
  rw [hp1, hp2] at hE2
  have HE := Lib.hid hE2
  rw [hE]
  have C1 := Lib.hid (fun w (h : RdS w B 1 enI Ao b.1) => sum_i Ao co B b.1 w h X1.out (by omega))
  have C2 := Lib.hid (fun w (h : RdS w B 1 enI At b.2) => sum_i At ct B b.2 w h X2.out (by omega))
  have HP1 := Lib.hid hp1
  have HP2 := Lib.hid hp2
  have D1 := Lib.hid (fun w (h : RdS w B 1 enI Ao b.1) => pips_i Ao co B b.1 w h X1.out (by omega))
  have D2 := Lib.hid (fun w (h : RdS w B 1 enI At b.2) => pips_i At ct B b.2 w h X2.out (by omega))
  rw [hp1] at D1
  rw [hp2] at D2
  have hN1 := Lib.hid (show b.1.length ≤ 1000 by omega)
  have hN2 := Lib.hid (show b.2.length ≤ 1000 by omega)
  have hs0 : 1 ≤ v.s ∧ v.s ≤ 6 := hv.2.2.2
  clear hb hv hE hE2 hp1 hp2 hn1 hn2
  go_enter Try.func76, Try.ntmps76
  go_wp2_with fail
  refine (C1.out _ (ho.below (by go_grown) hB)).mono ?_
  rintro e w1 ⟨rfl, rfl⟩
  by_cases h1 : b.1.sum = 0
  · obtain rfl : E = 1000000 := by rw [← HE.out]; simp [h1]
    have e1 : (b.1.sum == 0) = true := by simp [h1]
    clear h1
    go_wp2_with fail
    go_ret
    exact ⟨rfl, by go_grown⟩
  · have e1 : (b.1.sum == 0) = false := by simp [h1]
    rw [if_neg h1] at HE
    clear h1
    go_wp2_with fail
    refine (C2.out _ (ht.below (by go_grown) hB)).mono ?_
    rintro e w2 ⟨rfl, rfl⟩
    by_cases h2 : b.2.sum = 0
    · obtain rfl : E = 0 := by rw [← HE.out]; simp [h2]
      have e2 : (b.2.sum == 0) = true := by simp [h2]
      clear h2
      go_wp2_with fail
      go_ret
      exact ⟨rfl, by go_grown⟩
    · have e2 : (b.2.sum == 0) = false := by simp [h2]
      rw [if_neg h2] at HE
      clear h2
      have g1 : IntKind.i64.wrap (p1 + p2) = p1 + p2 := IntWalk.i64_in _ (by omega)
      have g2 : IntKind.i64.wrap (p1 + p2 + v.s) = p1 + p2 + v.s := IntWalk.i64_in _ (by omega)
      have g3 : IntKind.i64.wrap (p2 - p1) = p2 - p1 := IntWalk.i64_in _ (by omega)
      have g4 : IntKind.i64.wrap (p2 - p1 + v.s) = p2 - p1 + v.s := IntWalk.i64_in _ (by omega)
      have g5 : IntKind.i64.wrap (1000000 * (p2 - p1 + v.s)) = 1000000 * (p2 - p1 + v.s) := IntWalk.i64_in _ (by omega)
      have g6 : IntKind.i64.wrap (500000 * (p1 + p2 + v.s)) = 500000 * (p1 + p2 + v.s) := IntWalk.i64_in _ (by omega)
      have g7 : IntKind.i64.wrap (500000 * (p1 + p2 + v.s) + 1000000 * (p2 - p1 + v.s)) = 500000 * (p1 + p2 + v.s) + 1000000 * (p2 - p1 + v.s) := IntWalk.i64_in _ (by omega)
      have CF := Lib.hid (fun w => floor_i (500000 * (p1 + p2 + v.s) + 1000000 * (p2 - p1 + v.s)) (p1 + p2 + v.s) (by omega) (by omega) w)
      rw [est_mid (by omega)] at CF
      have HO := Lib.hid ho
      have HT := Lib.hid ht
      clear ho ht C1 C2 D1 D2
      go_upto_region 5 with (fail)
      refine wp_gen (fun W' => Below w.heap.size w W' ∧ RowB W' w.heap.size 32 [.int .i64 v.p, .int .i64 v.c, .int .i64 v.h, .int .i64 v.s] ∧ RowB W' (w.heap.size + 1) 34 [.slice Ao b.1.length co, .slice At b.2.length ct]) ⟨by go_grown, (RowB.new _ _ _).alloc _, RowB.new' _ _ _ (by simp)⟩ ?_
      rintro w1 ⟨hb, rv, rb⟩
      obtain ⟨q0, q1, q2, q3⟩ := rv.c4
      obtain ⟨r0, r1⟩ := rb.c2
      have hl1 := rv.lt
      have hl2 := rb.lt
      have K1 := Lib.hid (fun k => pips_iq Ao _ co B b.1 p1 rfl HP1.out w1 k ((HO.out.below hb hB)) X1.out hN1.out)
      have K2 := Lib.hid (fun k => pips_iq At _ ct B b.2 p2 rfl HP2.out w1 k ((HT.out.below hb hB)) X2.out hN2.out)
      clear HO HT e1 e2
      go_wp2_with fail
      go_quiet ((go_at_call 86; first | with_reducible exact K1.out _ | with_reducible exact K2.out _))
      go_wp2_with fail
      refine (CF.out _).mono ?_
      rintro e w3 ⟨rfl, rfl⟩
      generalize 500000 + 1000000 * (p2 - p1 + v.s) / (p1 + p2 + v.s) = Q at HE ⊢
      go_wp2_with fail
      all_goals
        go_ret
        refine ⟨ret1 ?_, below_drewN hb _⟩
        rw [← HE.out]
        omega

end Go.Proofs.Ytfgkkmhafdbicaa.Bd13I
