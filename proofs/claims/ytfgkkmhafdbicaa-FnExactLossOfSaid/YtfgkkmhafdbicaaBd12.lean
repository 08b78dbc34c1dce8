/-
  Pips; the first greatest of a list, the greatest; floor division. Conditions: each theorem's own.
-/
import Derived.Test.YtfgkkmhafdbicaaPlP3
import Derived.Test.YtfgkkmhafdbicaaBd1
import Derived.Deep.DeepCutAuto
set_option linter.unusedVariables false
set_option linter.unusedSimpArgs false
namespace Go.Proofs.Ytfgkkmhafdbicaa.Bd12
open Go.ChangeShapes Go.WideShapes Go.ChangeAt Go.RowKit Base Ints Own PlP Bd1

theorem pipU_bd {l : List Int} (h : ∀ i, 0 ≤ at_ l i ∧ at_ l i ≤ 1000) : ∀ k, k ≤ 1000 → 0 ≤ pipU l k ∧ pipU l k ≤ 1000000 * (k : Int) := by
  intro k
  induction k with
  | zero => intro _; simp [pipU]
  | succ k ih =>
    intro hk
    have h1 := ih (by omega)
    have h2 := h k
    have h3 : 0 ≤ ((k : Int) + 1) * at_ l k := Int.mul_nonneg (by omega) h2.1
    have h4 : ((k : Int) + 1) * at_ l k ≤ 1000 * 1000 := Int.mul_le_mul (by omega) h2.2 h2.1 (by omega)
    simp only [pipU]
    omega
set_option maxHeartbeats 1000000 in
theorem pips_i (A : Option Addr) (cp B : Nat) (xs : List Int) (w : World) (hr : RdS w B 1 enI A xs) (hx : ∀ i, 0 ≤ at_ xs i ∧ at_ xs i ≤ 1000) (hl : xs.length ≤ 1000) :
    Calls Try.prog 86 #[.slice A xs.length cp] w fun e w' => e = .returned (.int .i64 (pipP xs)) ∧ w = w' := by
  obtain ⟨n, hn⟩ : ∃ n, xs.length = n := ⟨_, rfl⟩
  obtain ⟨z, hz⟩ : ∃ z, pipP xs = z := ⟨_, rfl⟩
  have HN := Lib.hid hn
  have HX := Lib.hid hx
  have HZ : Hid (pipU xs n = z) := Lib.hid (by rw [← hn, ← hz]; rfl)
  rw [hn] at hl
  rw [hn, hz]
  clear hn hz hx
  go_enter Try.func86, Try.ntmps86
  go_wp2_with fail
  go_loopw [3, 8] (fun s i wr => ∃ (k : Nat) (t : Int), k ≤ n ∧ s = .int .i64 t ∧ i = .int .i64 (k : Int) ∧ Hid (w = wr) ∧ Hid (t = pipU xs k)) (fun _ i _ => n - (intOf i).toNat)
  case atStart => exact ⟨0, 0, Nat.zero_le _, by first | rfl | trivial, by first | rfl | trivial, Lib.hid (by first | rfl | trivial), Lib.hid rfl⟩
  case round =>
    obtain ⟨k, t, hk, rfl, rfl, hw, ht⟩ := hrel
    by_cases hlt : k < n
    · obtain ⟨bk, off, rfl, hbk, hc⟩ := at_rd hr (i := k) (by rw [HN.out]; exact hlt)
      rw [hw.out] at hc
      have hkn : (k : Int) < (n : Int) := by omega
      have hm1 := HX.out k
      have hb0 := pipU_bd HX.out k (by omega)
      have hb1 := pipU_bd HX.out (k + 1) (by omega)
      have hS : pipU xs (k + 1) = t + ((k : Int) + 1) * at_ xs k := by rw [ht.out]; rfl
      have hT := ht.out
      have hmul0 : 0 ≤ ((k : Int) + 1) * at_ xs k := Int.mul_nonneg (by omega) hm1.1
      have e1 : IntKind.i64.wrap ((k : Int) + 1) = (k : Int) + 1 := IntWalk.i64_in _ (by omega)
      have e2 : IntKind.i64.wrap (((k : Int) + 1) * at_ xs k) = ((k : Int) + 1) * at_ xs k := IntWalk.i64_in _ (by omega)
      have e3 : IntKind.i64.wrap (t + ((k : Int) + 1) * at_ xs k) = t + ((k : Int) + 1) * at_ xs k := IntWalk.i64_in _ (by omega)
      have HS := Lib.hid hS.symm
      clear hS hT hb0 hb1 hm1 hmul0
      go_wp2_with fail
      go_roundw
      case rel => exact ⟨k + 1, _, by omega, rfl, by go_num, hw, HS⟩
      case measure => simp [intOf]; omega
    · obtain rfl : n = k := by omega
      obtain rfl : t = z := by rw [ht.out, HZ.out]
      go_wp2_with fail
      go_ret
      exact ⟨rfl, hw.out⟩
set_option maxHeartbeats 1000000 in
theorem pips_s (A : Option Addr) (cp B : Nat) (xs : List Int) (w : World) (hr : RdS w B 1 enI A xs) (hx : ∀ i, 0 ≤ at_ xs i ∧ at_ xs i ≤ 1000) (hl : xs.length ≤ 1000) :
    Calls Try.prog 84 #[.slice A xs.length cp] w fun e w' => e = .returned (.int .i64 (pipP xs)) ∧ w = w' := by
  obtain ⟨n, hn⟩ : ∃ n, xs.length = n := ⟨_, rfl⟩
  obtain ⟨z, hz⟩ : ∃ z, pipP xs = z := ⟨_, rfl⟩
  have HN := Lib.hid hn
  have HX := Lib.hid hx
  have HZ : Hid (pipU xs n = z) := Lib.hid (by rw [← hn, ← hz]; rfl)
  rw [hn] at hl
  rw [hn, hz]
  clear hn hz hx
  go_enter Try.func84, Try.ntmps84
  go_wp2_with fail
  go_loopw [3, 4] (fun s i wr => ∃ (k : Nat) (t : Int), k ≤ n ∧ s = .int .i64 t ∧ i = .int .i64 (k : Int) ∧ Hid (w = wr) ∧ Hid (t = pipU xs k)) (fun _ i _ => n - (intOf i).toNat)
  case atStart => exact ⟨0, 0, Nat.zero_le _, by first | rfl | trivial, by first | rfl | trivial, Lib.hid (by first | rfl | trivial), Lib.hid rfl⟩
  case round =>
    obtain ⟨k, t, hk, rfl, rfl, hw, ht⟩ := hrel
    by_cases hlt : k < n
    · obtain ⟨bk, off, rfl, hbk, hc⟩ := at_rd hr (i := k) (by rw [HN.out]; exact hlt)
      rw [hw.out] at hc
      have hkn : (k : Int) < (n : Int) := by omega
      have hm1 := HX.out k
      have hb0 := pipU_bd HX.out k (by omega)
      have hb1 := pipU_bd HX.out (k + 1) (by omega)
      have hS : pipU xs (k + 1) = t + ((k : Int) + 1) * at_ xs k := by rw [ht.out]; rfl
      have hT := ht.out
      have hmul0 : 0 ≤ ((k : Int) + 1) * at_ xs k := Int.mul_nonneg (by omega) hm1.1
      have e1 : IntKind.i64.wrap ((k : Int) + 1) = (k : Int) + 1 := IntWalk.i64_in _ (by omega)
      have e2 : IntKind.i64.wrap (((k : Int) + 1) * at_ xs k) = ((k : Int) + 1) * at_ xs k := IntWalk.i64_in _ (by omega)
      have e3 : IntKind.i64.wrap (t + ((k : Int) + 1) * at_ xs k) = t + ((k : Int) + 1) * at_ xs k := IntWalk.i64_in _ (by omega)
      have HS := Lib.hid hS.symm
      clear hS hT hb0 hb1 hm1 hmul0
      go_wp2_with fail
      go_roundw
      case rel => exact ⟨k + 1, _, by omega, rfl, by go_num, hw, HS⟩
      case measure => simp [intOf]; omega
    · obtain rfl : n = k := by omega
      obtain rfl : t = z := by rw [ht.out, HZ.out]
      go_wp2_with fail
      go_ret
      exact ⟨rfl, hw.out⟩
set_option maxHeartbeats 1000000 in
theorem first_i (A : Option Addr) (cp B : Nat) (xs : List Int) (w : World) (hr : RdS w B 1 enI A xs) (hl : 0 < xs.length) :
    Calls Try.prog 39 #[.slice A xs.length cp] w fun e w' => e = .returned (.int .i64 (fgP xs : Nat)) ∧ w = w' := by
  have hmx := hr.len
  obtain ⟨n, hn⟩ : ∃ n, xs.length = n := ⟨_, rfl⟩
  obtain ⟨z, hz⟩ : ∃ z, fgP xs = z := ⟨_, rfl⟩
  have HN := Lib.hid hn
  have HZ : Hid (fgU xs (n - 1) = z) := Lib.hid (by rw [← hn, ← hz]; rfl)
  rw [hn] at hl hmx
  rw [hn, hz]
  clear hn hz
  go_enter Try.func39, Try.ntmps39
  go_wp2_with fail
  go_loopw [3, 8] (fun s i wr => ∃ (k t : Nat), k ≤ n ∧ t < n ∧ s = .int .i64 (t : Int) ∧ i = .int .i64 (k : Int) ∧ Hid (w = wr) ∧ Hid (t = fgU xs (k - 1))) (fun _ i _ => n - (intOf i).toNat)
  case atStart => exact ⟨0, 0, Nat.zero_le _, hl, by first | rfl | trivial, by first | rfl | trivial, Lib.hid (by first | rfl | trivial), Lib.hid rfl⟩
  case round =>
    obtain ⟨k, t, hk, htn, rfl, rfl, hw, ht⟩ := hrel
    by_cases hlt : k < n
    · obtain ⟨bk, off, rfl, hbk, hc⟩ := at_rd hr (i := k) (by rw [HN.out]; exact hlt)
      obtain ⟨bk', off', hA, -, hc2⟩ := at_rd hr (i := t) (by rw [HN.out]; exact htn)
      simp only [Option.some.injEq, Addr.mk.injEq, and_true] at hA
      obtain ⟨rfl, rfl⟩ := hA
      rw [hw.out] at hc hc2
      have hkn : (k : Int) < (n : Int) := by omega
      have htn2 : (t : Int) < (n : Int) := by omega
      have e1 : IntKind.i64.wrap ((k : Int) + 1) = (k : Int) + 1 := IntWalk.i64_in _ (by omega)
      by_cases hv : at_ xs t < at_ xs k
      · have HS : Hid (k = fgU xs (k + 1 - 1)) := Lib.hid (by
          cases k with
          | zero => have h0 := ht.out; simp [fgU] at h0; subst h0; omega
          | succ j => have h0 := ht.out; simp only [Nat.add_sub_cancel] at h0 ⊢; simp only [fgU]; rw [← h0, if_pos hv])
        go_wp2_with fail
        go_roundw
        case rel => exact ⟨k + 1, k, by omega, hlt, by first | rfl | go_num, by go_num, hw, HS⟩
        case measure => simp [intOf]; omega
      · have HS : Hid (t = fgU xs (k + 1 - 1)) := Lib.hid (by
          cases k with
          | zero => have h0 := ht.out; simp [fgU] at h0; subst h0; rfl
          | succ j => have h0 := ht.out; simp only [Nat.add_sub_cancel] at h0 ⊢; simp only [fgU]; rw [← h0, if_neg hv])
        go_wp2_with fail
        go_roundw
        case rel => exact ⟨k + 1, t, by omega, htn, rfl, by go_num, hw, HS⟩
        case measure => simp [intOf]; omega
    · obtain rfl : n = k := by omega
      obtain rfl : t = z := by rw [ht.out, HZ.out]
      go_wp2_with fail
      go_ret
      exact ⟨rfl, hw.out⟩

set_option maxHeartbeats 1000000 in
theorem great_s (A : Option Addr) (cp B : Nat) (xs : List Int) (w : World) (hr : RdS w B 1 enI A xs) (hl : 0 < xs.length) :
    Calls Try.prog 48 #[.slice A xs.length cp] w fun e w' => e = .returned (.int .i64 (grt xs)) ∧ w = w' := by
  have hmx := hr.len
  obtain ⟨n, hn⟩ : ∃ n, xs.length = n := ⟨_, rfl⟩
  obtain ⟨z, hz⟩ : ∃ z, grt xs = z := ⟨_, rfl⟩
  have HN := Lib.hid hn
  have HZ : Hid (grU xs (n - 1) = z) := Lib.hid (by rw [← hn, ← hz]; rfl)
  rw [hn] at hl hmx
  rw [hn, hz]
  clear hn hz
  obtain ⟨bk, off, rfl, hbk, hc0⟩ := at_rd hr (i := 0) (by rw [HN.out]; exact hl)
  simp only [Nat.add_zero] at hc0
  have hl0 : (0 : Int) < (n : Int) := by omega
  go_enter Try.func48, Try.ntmps48
  go_wp2_with fail
  go_loopw [3, 4] (fun s i wr => ∃ (k : Nat) (t : Int), k ≤ n ∧ 1 ≤ k ∧ s = .int .i64 t ∧ i = .int .i64 (k : Int) ∧ Hid (w = wr) ∧ Hid (t = grU xs (k - 1))) (fun _ i _ => n - (intOf i).toNat)
  case atStart => exact ⟨1, at_ xs 0, by omega, by omega, by first | rfl | trivial, by first | rfl | trivial, Lib.hid (by first | rfl | trivial), Lib.hid rfl⟩
  case round =>
    obtain ⟨k, t, hk, hk1, rfl, rfl, hw, ht⟩ := hrel
    by_cases hlt : k < n
    · obtain ⟨bk', off', hA, -, hc⟩ := at_rd hr (i := k) (by rw [HN.out]; exact hlt)
      simp only [Option.some.injEq, Addr.mk.injEq, and_true] at hA
      obtain ⟨rfl, rfl⟩ := hA
      rw [hw.out] at hc
      have hkn : (k : Int) < (n : Int) := by omega
      have e1 : IntKind.i64.wrap ((k : Int) + 1) = (k : Int) + 1 := IntWalk.i64_in _ (by omega)
      have HS : Hid ((if t < at_ xs k then at_ xs k else t) = grU xs (k + 1 - 1)) := Lib.hid (by
        obtain ⟨j, rfl⟩ : ∃ j, k = j + 1 := ⟨k - 1, by omega⟩
        have h0 := ht.out
        simp only [Nat.add_sub_cancel] at h0 ⊢
        simp only [grU]
        rw [← h0]
        split <;> omega)
      go_wp2_with fail
      go_roundw
      case rel => exact ⟨k + 1, _, by omega, by omega, rfl, by go_num, hw, HS⟩
      case measure => simp [intOf]; omega
    · obtain rfl : n = k := by omega
      obtain rfl : t = z := by rw [ht.out, HZ.out]
      go_wp2_with fail
      go_ret
      exact ⟨rfl, hw.out⟩

set_option maxHeartbeats 1000000 in
theorem floor_i (x y : Int) (hy : 0 < y ∧ y ≤ 1000000000) (hx : -1000000000000000 ≤ x ∧ x ≤ 1000000000000000) (w : World) :
    Calls Try.prog 87 #[.int .i64 x, .int .i64 y] w fun e w' => e = .returned (.int .i64 (x / y)) ∧ w = w' := by
  have hfe := floor_eq (x := x) hy.1
  have hd1 : -1000000000000000 ≤ x.tdiv y ∧ x.tdiv y ≤ 1000000000000000 := by
    have h := Int.natAbs_tdiv_le_natAbs x y
    omega
  have hne : (y == 0) = false := by simp; omega
  have hne2 : ¬ y = 0 := by omega
  have hrm : -1000000000000 ≤ x.tmod y ∧ x.tmod y ≤ 1000000000000 := by
    have h1 := Int.tmod_lt_of_pos x hy.1
    have h2 : -y < x.tmod y := by
      by_cases h0 : 0 ≤ x
      · have := Int.tmod_nonneg y h0; omega
      · have := Int.tmod_lt_of_pos (-x) hy.1
        rw [Int.neg_tmod] at this
        omega
    omega
  have e1 : IntKind.i64.wrap (x.tdiv y) = x.tdiv y := IntWalk.i64_in _ (by omega)
  have e2 : IntKind.i64.wrap (x.tmod y) = x.tmod y := IntWalk.i64_in _ (by omega)
  have e3 : IntKind.i64.wrap (x.tdiv y - 1) = x.tdiv y - 1 := IntWalk.i64_in _ (by omega)
  by_cases hr : x.tmod y < 0
  · rw [if_pos hr] at hfe
    have HF := Lib.hid hfe
    clear hfe
    go_enter Try.func87, Try.ntmps87
    go_wp2_with fail
    go_ret
    exact ⟨ret1 HF.out, rfl⟩
  · rw [if_neg hr] at hfe
    have HF := Lib.hid hfe
    clear hfe
    go_enter Try.func87, Try.ntmps87
    go_wp2_with fail
    go_ret
    exact ⟨ret1 HF.out, rfl⟩
set_option maxHeartbeats 1000000 in
theorem floor_s (x y : Int) (hy : 0 < y ∧ y ≤ 1000000000) (hx : -1000000000000000 ≤ x ∧ x ≤ 1000000000000000) (w : World) :
    Calls Try.prog 85 #[.int .i64 x, .int .i64 y] w fun e w' => e = .returned (.int .i64 (x / y)) ∧ w = w' := by
  have hfe := floor_eq (x := x) hy.1
  have hd1 : -1000000000000000 ≤ x.tdiv y ∧ x.tdiv y ≤ 1000000000000000 := by
    have h := Int.natAbs_tdiv_le_natAbs x y
    omega
  have hne : (y == 0) = false := by simp; omega
  have hne2 : ¬ y = 0 := by omega
  have hrm : -1000000000000 ≤ x.tmod y ∧ x.tmod y ≤ 1000000000000 := by
    have h1 := Int.tmod_lt_of_pos x hy.1
    have h2 : -y < x.tmod y := by
      by_cases h0 : 0 ≤ x
      · have := Int.tmod_nonneg y h0; omega
      · have := Int.tmod_lt_of_pos (-x) hy.1
        rw [Int.neg_tmod] at this
        omega
    omega
  have e1 : IntKind.i64.wrap (x.tdiv y) = x.tdiv y := IntWalk.i64_in _ (by omega)
  have e2 : IntKind.i64.wrap (x.tmod y) = x.tmod y := IntWalk.i64_in _ (by omega)
  have e3 : IntKind.i64.wrap (x.tdiv y - 1) = x.tdiv y - 1 := IntWalk.i64_in _ (by omega)
  by_cases hr : x.tmod y < 0
  · rw [if_pos hr] at hfe
    have HF := Lib.hid hfe
    clear hfe
    go_enter Try.func85, Try.ntmps85
    go_wp2_with fail
    go_ret
    exact ⟨ret1 HF.out, rfl⟩
  · rw [if_neg hr] at hfe
    have HF := Lib.hid hfe
    clear hfe
    go_enter Try.func85, Try.ntmps85
    go_wp2_with fail
    go_ret
    exact ⟨ret1 HF.out, rfl⟩
end Go.Proofs.Ytfgkkmhafdbicaa.Bd12
