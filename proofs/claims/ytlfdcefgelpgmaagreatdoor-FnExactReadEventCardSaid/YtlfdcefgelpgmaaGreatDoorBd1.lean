/-
  Ranges, variants, sums and last checkers: what the program's and the reference's functions return. Conditions: each theorem's own.
  Sides and boards: what the program's and the reference's functions return. Conditions: each theorem's own.
-/
import Derived.Test.YtlfdcefgelpgmaaGreatDoorRelG
import Derived.Test.YtlfdcefgelpgmaaGreatDoorPlP
import Derived.Test.YtlfdcefgelpgmaaGreatDoorClone
import Derived.StillTailTactics
import Derived.Deep.RegionHeld3

set_option linter.unusedVariables false
set_option linter.unusedSimpArgs false
namespace Go.Proofs.YtlfdcefgelpgmaaGreatDoor.Bd1
open Go.ChangeShapes Go.WideShapes Go.ChangeAt Go.RowKit Base Ints Own Clone RelG PlP

theorem at_rd {w : World} {B : Nat} {A : Option Addr} {xs : List Int} (h : RdS w B 1 enI A xs) {i : Nat} (hi : i < xs.length) :
    ∃ b off, A = some ⟨b, off, none⟩ ∧ b < B ∧ w.cell? ⟨b, off + i, none⟩ = some (.int .i64 (at_ xs i)) := by
  obtain ⟨b, off, x, rfl, hb, hx, hc⟩ := rdI_at h hi
  rw [at_get hi] at hx
  simp only [Option.some.injEq] at hx
  subst hx
  exact ⟨b, off, rfl, hb, hc⟩
/-- The sum of the first k. -/
def sumU (l : List Int) : Nat → Int
  | 0 => 0
  | k + 1 => sumU l k + at_ l k
theorem sumU_take (l : List Int) : ∀ k, k ≤ l.length → sumU l k = (l.take k).sum := by
  intro k
  induction k with
  | zero => intro _; simp [sumU]
  | succ k ih =>
    intro hk
    simp only [sumU]
    rw [ih (by omega), take_succ l k (at_ l k) (at_get (by omega)), List.sum_append]
    simp
theorem sumU_all (l : List Int) : sumU l l.length = l.sum := by rw [sumU_take l _ (Nat.le_refl _), List.take_length]
theorem sumU_bd {l : List Int} (h : ∀ i, 0 ≤ at_ l i ∧ at_ l i ≤ 1000) : ∀ k, 0 ≤ sumU l k ∧ sumU l k ≤ 1000 * (k : Int) := by
  intro k
  induction k with
  | zero => simp [sumU]
  | succ k ih => have := h k; simp only [sumU]; omega

theorem in_s (n a b : Int) (x : Bool) (hx : decide (a ≤ n ∧ n ≤ b) = x) (w : World) : Calls Tryz.prog 46 #[.int .i64 n, .int .i64 a, .int .i64 b] w fun e w' => e = .returned (.bool x) ∧ w = w' := by
  subst hx
  by_cases h1 : a ≤ n
  · have e1 : decide (a ≤ n ∧ n ≤ b) = decide (n ≤ b) := by simp [h1]
    rw [e1]
    go_enter Tryz.func46, Tryz.ntmps46
    go_wp2
    go_ret
    exact ⟨rfl, rfl⟩
  · have e1 : decide (a ≤ n ∧ n ≤ b) = false := decide_eq_false (fun h => h1 h.1)
    rw [e1]
    go_enter Tryz.func46, Tryz.ntmps46
    go_wp2
    go_ret
    exact ⟨rfl, rfl⟩
theorem in_sq (n a b : Int) (x : Bool) (hx : decide (a ≤ n ∧ n ≤ b) = x) (w : World) (k : Nat) : Calls Tryz.prog 46 #[.int .i64 n, .int .i64 a, .int .i64 b] (w.drewN k) fun e w'' => e = .returned (.bool x) ∧ ∃ m, w'' = w.drewN m :=
  Calls.quiet_of_same ((in_s n a b x hx (w.drewN k)).mono fun _ _ h => ⟨h.1, h.2.symm⟩)

theorem in_i (n a b : Int) (x : Bool) (hx : decide (a ≤ n ∧ n ≤ b) = x) (w : World) : Calls Tryz.prog 23 #[.int .i64 n, .int .i64 a, .int .i64 b] w fun e w' => e = .returned (.bool x) ∧ w = w' := by
  subst hx
  by_cases h1 : a ≤ n
  · have e1 : decide (a ≤ n ∧ n ≤ b) = decide (n ≤ b) := by simp [h1]
    rw [e1]
    go_enter Tryz.func23, Tryz.ntmps23
    go_wp2
    go_ret
    exact ⟨rfl, rfl⟩
  · have e1 : decide (a ≤ n ∧ n ≤ b) = false := decide_eq_false (fun h => h1 h.1)
    rw [e1]
    go_enter Tryz.func23, Tryz.ntmps23
    go_wp2
    go_ret
    exact ⟨rfl, rfl⟩
theorem in_iq (n a b : Int) (x : Bool) (hx : decide (a ≤ n ∧ n ≤ b) = x) (w : World) (k : Nat) : Calls Tryz.prog 23 #[.int .i64 n, .int .i64 a, .int .i64 b] (w.drewN k) fun e w'' => e = .returned (.bool x) ∧ ∃ m, w'' = w.drewN m :=
  Calls.quiet_of_same ((in_i n a b x hx (w.drewN k)).mono fun _ _ h => ⟨h.1, h.2.symm⟩)

set_option maxHeartbeats 1000000 in
theorem var_s (v : Vr) (x : Bool) (hx : okV v = x) (w : World) : Calls Tryz.prog 26 #[.agg #[.int .i64 v.p, .int .i64 v.c, .int .i64 v.h, .int .i64 v.s]] w fun e w' => e = .returned (.bool x) ∧ Below w.heap.size w w' := by
  unfold okV at hx
  have HX := Lib.hid hx
  clear hx
  obtain ⟨a, ha⟩ : ∃ a, decide (2 ≤ v.p ∧ v.p ≤ 24) = a := ⟨_, rfl⟩
  obtain ⟨b, hb⟩ : ∃ b, decide (1 ≤ v.c ∧ v.c ≤ 15) = b := ⟨_, rfl⟩
  obtain ⟨c, hc⟩ : ∃ c, decide (1 ≤ v.h ∧ v.h ≤ v.p) = c := ⟨_, rfl⟩
  obtain ⟨d, hd⟩ : ∃ d, decide (1 ≤ v.s ∧ v.s ≤ 6) = d := ⟨_, rfl⟩
  have HH : Hid (x = (a && b && c && d)) := Lib.hid (by rw [← HX.out, ← ha, ← hb, ← hc, ← hd]; simp only [Bool.decide_and]; simp [Bool.and_assoc])
  have CA := Lib.hid (fun w => in_s v.p 2 24 a ha w)
  have CB := Lib.hid (fun w => in_s v.c 1 15 b hb w)
  have CC := Lib.hid (fun w => in_s v.h 1 v.p c hc w)
  have CD := Lib.hid (fun w => in_s v.s 1 6 d hd w)
  clear ha hb hc hd HX
  go_enter Tryz.func26, Tryz.ntmps26
  go_wp2_with fail
  refine (CA.out _).mono ?_
  rintro e w1 ⟨rfl, rfl⟩
  cases a
  case false =>
    obtain rfl : x = false := by rw [HH.out]; rfl
    go_wp2_with fail
    go_ret
    exact ⟨rfl, by go_grown⟩
  go_wp2_with fail
  refine (CB.out _).mono ?_
  rintro e w1 ⟨rfl, rfl⟩
  cases b
  case false =>
    obtain rfl : x = false := by rw [HH.out]; rfl
    go_wp2_with fail
    go_ret
    exact ⟨rfl, by go_grown⟩
  go_wp2_with fail
  refine (CC.out _).mono ?_
  rintro e w1 ⟨rfl, rfl⟩
  cases c
  case false =>
    obtain rfl : x = false := by rw [HH.out]; rfl
    go_wp2_with fail
    go_ret
    exact ⟨rfl, by go_grown⟩
  go_wp2_with fail
  refine (CD.out _).mono ?_
  rintro e w1 ⟨rfl, rfl⟩
  obtain rfl : x = d := by rw [HH.out]; rfl
  go_wp2_with fail
  go_ret
  exact ⟨rfl, by go_grown⟩

set_option maxHeartbeats 1000000 in
theorem var_i (v : Vr) (x : Bool) (hx : okV v = x) (w : World) : Calls Tryz.prog 22 #[.agg #[.int .i64 v.p, .int .i64 v.c, .int .i64 v.h, .int .i64 v.s]] w fun e w' => e = .returned (.bool x) ∧ Below w.heap.size w w' := by
  unfold okV at hx
  have HX := Lib.hid hx
  clear hx
  obtain ⟨a, ha⟩ : ∃ a, decide (2 ≤ v.p ∧ v.p ≤ 24) = a := ⟨_, rfl⟩
  obtain ⟨b, hb⟩ : ∃ b, decide (1 ≤ v.c ∧ v.c ≤ 15) = b := ⟨_, rfl⟩
  obtain ⟨c, hc⟩ : ∃ c, decide (1 ≤ v.h ∧ v.h ≤ v.p) = c := ⟨_, rfl⟩
  obtain ⟨d, hd⟩ : ∃ d, decide (1 ≤ v.s ∧ v.s ≤ 6) = d := ⟨_, rfl⟩
  have HH : Hid (x = (a && b && c && d)) := Lib.hid (by rw [← HX.out, ← ha, ← hb, ← hc, ← hd]; simp only [Bool.decide_and]; simp [Bool.and_assoc])
  have CA := Lib.hid (fun w => in_i v.p 2 24 a ha w)
  have CB := Lib.hid (fun w => in_i v.c 1 15 b hb w)
  have CC := Lib.hid (fun w => in_i v.h 1 v.p c hc w)
  have CD := Lib.hid (fun w => in_i v.s 1 6 d hd w)
  clear ha hb hc hd HX
  go_enter Tryz.func22, Tryz.ntmps22
  go_wp2_with fail
  refine (CA.out _).mono ?_
  rintro e w1 ⟨rfl, rfl⟩
  cases a
  case false =>
    obtain rfl : x = false := by rw [HH.out]; rfl
    go_wp2_with fail
    go_ret
    exact ⟨rfl, by go_grown⟩
  go_wp2_with fail
  refine (CB.out _).mono ?_
  rintro e w1 ⟨rfl, rfl⟩
  cases b
  case false =>
    obtain rfl : x = false := by rw [HH.out]; rfl
    go_wp2_with fail
    go_ret
    exact ⟨rfl, by go_grown⟩
  go_wp2_with fail
  refine (CC.out _).mono ?_
  rintro e w1 ⟨rfl, rfl⟩
  cases c
  case false =>
    obtain rfl : x = false := by rw [HH.out]; rfl
    go_wp2_with fail
    go_ret
    exact ⟨rfl, by go_grown⟩
  go_wp2_with fail
  refine (CD.out _).mono ?_
  rintro e w1 ⟨rfl, rfl⟩
  obtain rfl : x = d := by rw [HH.out]; rfl
  go_wp2_with fail
  go_ret
  exact ⟨rfl, by go_grown⟩



set_option maxHeartbeats 1000000 in
theorem sum_s (A : Option Addr) (cp B : Nat) (xs : List Int) (w : World) (hr : RdS w B 1 enI A xs) (hx : ∀ i, 0 ≤ at_ xs i ∧ at_ xs i ≤ 1000) (hl : xs.length ≤ 1000) :
    Calls Tryz.prog 114 #[.slice A xs.length cp] w fun e w' => e = .returned (.int .i64 xs.sum) ∧ w = w' := by
  obtain ⟨n, hn⟩ : ∃ n, xs.length = n := ⟨_, rfl⟩
  obtain ⟨z, hz⟩ : ∃ z, xs.sum = z := ⟨_, rfl⟩
  have HN := Lib.hid hn
  have HX := Lib.hid hx
  have HZ : Hid (sumU xs n = z) := Lib.hid (by rw [← hn, sumU_all, hz])
  rw [hn] at hl
  rw [hn, hz]
  clear hn hz hx
  go_enter Tryz.func114, Tryz.ntmps114
  go_wp2_with fail
  go_loopw [3, 4] (fun s i wr => ∃ (k : Nat) (t : Int), k ≤ n ∧ s = .int .i64 t ∧ i = .int .i64 (k : Int) ∧ Hid (w = wr) ∧ 0 ≤ t ∧ t ≤ 1000 * (k : Int) ∧ Hid (t = sumU xs k)) (fun _ i _ => n - (intOf i).toNat)
  case atStart => exact ⟨0, 0, Nat.zero_le _, by first | rfl | trivial, by first | rfl | trivial, Lib.hid (by first | rfl | trivial), by omega, by omega, rfl⟩
  case round =>
    obtain ⟨k, t, hk, rfl, rfl, hw, t0, t1, ht⟩ := hrel
    obtain rfl := hw.out
    clear hw
    by_cases hlt : k < n
    · obtain ⟨b, off, rfl, hb, hc⟩ := at_rd hr (i := k) (by rw [HN.out]; exact hlt)
      obtain ⟨x0, x1⟩ := HX.out k
      have HT : Hid (t + at_ xs k = sumU xs (k + 1)) := Lib.hid (by simp only [sumU]; rw [ht.out])
      go_wp2_with fail
      go_roundw
      case rel => exact ⟨k + 1, t + at_ xs k, by omega, by first | rfl | trivial, by go_num, Lib.hid (by first | rfl | trivial), by omega, by omega, HT⟩
      case measure => simp [intOf]; omega
    · obtain rfl : k = n := by omega
      obtain rfl : t = z := by rw [ht.out, HZ.out]
      go_wp2_with fail
      go_ret
      exact ⟨rfl, rfl⟩
theorem sum_sq (A : Option Addr) (n cp B : Nat) (xs : List Int) (z : Int) (hn : xs.length = n) (hz : xs.sum = z) (w : World) (k : Nat) (hr : RdS w B 1 enI A xs) (hx : ∀ i, 0 ≤ at_ xs i ∧ at_ xs i ≤ 1000) (hl : xs.length ≤ 1000) : Calls Tryz.prog 114 #[.slice A n cp] (w.drewN k) fun e w'' => e = .returned (.int .i64 z) ∧ ∃ m, w'' = w.drewN m := by
  subst hn hz
  exact Calls.quiet_of_same ((sum_s A cp B xs (w.drewN k) hr hx hl).mono fun _ _ h => ⟨h.1, h.2.symm⟩)

set_option maxHeartbeats 1000000 in
theorem last_s (A : Option Addr) (cp B : Nat) (xs : List Int) (w : World) (hr : RdS w B 1 enI A xs) (hl : xs.length ≤ 1000) :
    Calls Tryz.prog 164 #[.slice A xs.length cp] w fun e w' => e = .returned (.int .i64 (last xs)) ∧ w = w' := by
  obtain ⟨n, hn⟩ : ∃ n, xs.length = n := ⟨_, rfl⟩
  obtain ⟨z, hz⟩ : ∃ z, last xs = z := ⟨_, rfl⟩
  have HN := Lib.hid hn
  have HZ : Hid (lastU xs n = z) := Lib.hid (by rw [← hn, ← hz]; rfl)
  rw [hn] at hl
  rw [hn, hz]
  clear hn hz
  go_enter Tryz.func164, Tryz.ntmps164
  go_wp2_with fail
  go_loopw [3, 4] (fun s i wr => ∃ (k : Nat) (t : Int), k ≤ n ∧ s = .int .i64 t ∧ i = .int .i64 (k : Int) ∧ Hid (w = wr) ∧ Hid (t = lastU xs k)) (fun _ i _ => n - (intOf i).toNat)
  case atStart => exact ⟨0, -1, Nat.zero_le _, by first | rfl | trivial, by first | rfl | trivial, Lib.hid (by first | rfl | trivial), rfl⟩
  case round =>
    obtain ⟨k, t, hk, rfl, rfl, hw, ht⟩ := hrel
    obtain rfl := hw.out
    clear hw
    by_cases hlt : k < n
    · obtain ⟨b, off, rfl, hb, hc⟩ := at_rd hr (i := k) (by rw [HN.out]; exact hlt)
      by_cases hp : 0 < at_ xs k
      · have HT : Hid ((k : Int) = lastU xs (k + 1)) := Lib.hid (by simp only [lastU]; rw [if_pos hp])
        go_wp2_with fail
        go_roundw
        case rel => exact ⟨k + 1, (k : Int), by omega, by first | rfl | trivial, by go_num, Lib.hid (by first | rfl | trivial), HT⟩
        case measure => simp [intOf]; omega
      · have HT : Hid (t = lastU xs (k + 1)) := Lib.hid (by simp only [lastU]; rw [if_neg hp, ht.out])
        go_wp2_with fail
        go_roundw
        case rel => exact ⟨k + 1, t, by omega, by first | rfl | trivial, by go_num, Lib.hid (by first | rfl | trivial), HT⟩
        case measure => simp [intOf]; omega
    · obtain rfl : k = n := by omega
      obtain rfl : t = z := by rw [ht.out, HZ.out]
      go_wp2_with fail
      go_ret
      exact ⟨rfl, rfl⟩

end Go.Proofs.YtlfdcefgelpgmaaGreatDoor.Bd1

set_option linter.unusedVariables false
set_option linter.unusedSimpArgs false
namespace Go.Proofs.YtlfdcefgelpgmaaGreatDoor.Bd2
open Go.ChangeShapes Go.WideShapes Go.ChangeAt Go.RowKit Base Ints Own Clone RelG PlP Bd1

theorem sumU_le {l : List Int} (h : ∀ i, 0 ≤ at_ l i) : ∀ k, 0 ≤ sumU l k ∧ ∀ j, j ≤ k → sumU l j ≤ sumU l k := by
  intro k
  induction k with
  | zero => exact ⟨by simp [sumU], fun j hj => by rw [show j = 0 from by omega]; exact Int.le_refl _⟩
  | succ k ih =>
    have h0 := h k
    simp only [sumU]
    refine ⟨by omega, fun j hj => ?_⟩
    by_cases e : j = k + 1
    · subst e; simp only [sumU]; omega
    · have := ih.2 j (by omega); omega
theorem okS_len {v : Vr} {l : List Int} (h : ¬ (l.length : Int) = v.p + 1) : okS v l = false := by
  cases hc : okS v l with
  | false => rfl
  | true => exact absurd (okS_iff.1 hc).len h
theorem okS_at {v : Vr} {l : List Int} (k : Nat) (h : ¬ (0 ≤ at_ l k ∧ at_ l k ≤ v.c)) : okS v l = false := by
  cases hc : okS v l with
  | false => rfl
  | true => exact absurd ⟨(okS_iff.1 hc).nn k, (okS_iff.1 hc).top k⟩ h
theorem okS_left {v : Vr} {l : List Int} {k : Nat} (hk : k < l.length) (h : v.c < sumU l (k + 1)) : okS v l = false := by
  cases hc : okS v l with
  | false => rfl
  | true =>
    have h1 := (sumU_le (okS_iff.1 hc).nn l.length).2 (k + 1) (by omega)
    rw [sumU_all] at h1
    have := (okS_iff.1 hc).sum
    omega
theorem okS_all {v : Vr} {l : List Int} (h1 : (l.length : Int) = v.p + 1) (h2 : ∀ i, 0 ≤ at_ l i) : okS v l = decide (l.sum ≤ v.c) := by
  by_cases h : l.sum ≤ v.c
  · rw [decide_eq_true h]; exact okS_iff.2 ⟨h1, h2, h⟩
  · rw [decide_eq_false h]
    cases hc : okS v l with
    | false => rfl
    | true => exact absurd (okS_iff.1 hc).sum h
theorem nn_of {l : List Int} {c : Int} (h : ∀ i, i < l.length → 0 ≤ at_ l i ∧ at_ l i ≤ c) (hc : 0 ≤ c) : ∀ i, 0 ≤ at_ l i ∧ at_ l i ≤ c := by
  intro i
  rcases Nat.lt_or_ge i l.length with hi | hi
  · exact h i hi
  · rw [at_out hi]; omega

set_option maxHeartbeats 2000000 in
theorem side_s (v : Vr) (hv : okV v = true) (A : Option Addr) (cp B : Nat) (l : List Int) (x : Bool) (hx : okS v l = x) (w : World) (hB : B ≤ w.heap.size) (hr : RdS w B 1 enI A l) :
    Calls Tryz.prog 113 #[.agg #[.int .i64 v.p, .int .i64 v.c, .int .i64 v.h, .int .i64 v.s], .slice A l.length cp] w fun e w' => e = .returned (.bool x) ∧ Below w.heap.size w w' := by
  have hv := okV_iff.1 hv
  obtain ⟨⟨p0, p1⟩, ⟨c0, c1⟩, -, -⟩ := hv
  have hml := hr.len
  obtain ⟨n, hn⟩ : ∃ n, l.length = n := ⟨_, rfl⟩
  have HN := Lib.hid hn
  have HX := Lib.hid hx
  have HR := Lib.hid hr
  have ea : IntKind.i64.wrap (v.p + 1) = v.p + 1 := IntWalk.i64_in _ (by omega)
  rw [hn] at hml
  rw [hn]
  clear hn hx hr
  by_cases hlen : (n : Int) = v.p + 1
  case neg =>
    obtain rfl : x = false := by rw [← HX.out, okS_len (by rw [HN.out]; exact hlen)]
    have e1 : ((n : Int) != v.p + 1) = true := by simp [hlen]
    clear hlen
    go_enter Tryz.func113, Tryz.ntmps113
    go_wp2_with fail
    go_ret
    exact ⟨rfl, by go_grown⟩
  have e1 : ((n : Int) != v.p + 1) = false := by simp [hlen]
  have HL := Lib.hid hlen
  have hn25 : n ≤ 25 := by omega
  clear hlen
  go_enter Tryz.func113, Tryz.ntmps113
  go_wp2_with fail
  go_loopw [5] (fun i wr => ∃ (k : Nat), k ≤ n ∧ i = .int .i64 (k : Int) ∧ Hid (Below w.heap.size w wr) ∧ RowB wr w.heap.size 25 [.int .i64 v.p, .int .i64 v.c, .int .i64 v.h, .int .i64 v.s] ∧ Hid (∀ j, j < k → 0 ≤ at_ l j ∧ at_ l j ≤ v.c)) (fun i _ => n - (intOf i).toNat)
  case atStart => exact ⟨0, Nat.zero_le _, by first | rfl | trivial, Lib.hid (by go_grown), RowB.new _ _ _, fun j hj => absurd hj (by omega)⟩
  case round =>
    obtain ⟨k, hk, rfl, hb, row, hall⟩ := hrel
    obtain ⟨q0, q1, q2, q3⟩ := row.c4
    by_cases hlt : k < n
    · obtain ⟨bk, off, rfl, hbk, hc⟩ := at_rd (HR.out.below hb.out hB) (i := k) (by rw [HN.out]; exact hlt)
      obtain ⟨y, hy⟩ : ∃ y, decide (0 ≤ at_ l k ∧ at_ l k ≤ v.c) = y := ⟨_, rfl⟩
      have HY := Lib.hid hy
      clear hy
      cases y
      case false =>
        obtain rfl : x = false := by rw [← HX.out]; exact okS_at k (of_decide_eq_false HY.out)
        go_wp2_with fail
        go_quiet ((go_at_call 46; exact in_sq _ _ _ false HY.out _ _))
        go_wp2_with fail
        go_ret
        exact ⟨rfl, below_drewN hb.out _⟩
      case true =>
        have HA : Hid (∀ j, j < k + 1 → 0 ≤ at_ l j ∧ at_ l j ≤ v.c) := Lib.hid (fun j hj => by
          by_cases e : j = k
          · subst e; exact of_decide_eq_true HY.out
          · exact hall.out j (by omega))
        go_wp2_with fail
        go_quiet ((go_at_call 46; exact in_sq _ _ _ true HY.out _ _))
        go_wp2_with fail
        go_roundw
        case rel => exact ⟨k + 1, by omega, by go_num, Lib.hid (below_drewN hb.out _), row.drewN _, HA⟩
        case measure => simp [intOf]; omega
    · obtain rfl : k = n := by omega
      have hnn := Lib.hid (nn_of (l := l) (by rw [HN.out]; exact hall.out) (by omega))
      obtain ⟨z, hz⟩ : ∃ z, l.sum = z := ⟨_, rfl⟩
      obtain rfl : x = decide (z ≤ v.c) := by rw [← HX.out, okS_all (by rw [HN.out]; exact HL.out) (fun i => (hnn.out i).1), hz]
      have HZ := Lib.hid hz
      clear hz
      go_wp2_with fail
      go_quiet ((go_at_call 114; exact sum_sq A _ cp B l z HN.out HZ.out _ _ (HR.out.below hb.out hB) (fun i => by have := hnn.out i; omega) (by rw [HN.out]; omega)))
      go_wp2_with fail
      go_ret
      exact ⟨rfl, below_drewN hb.out _⟩

theorem over_s (v : Vr) (b : Bd) (hb : Ok v b) (Ao At : Option Addr) (co ct B : Nat) (w : World) (hB : B ≤ w.heap.size) (ho : RdS w B 1 enI Ao b.1) (ht : RdS w B 1 enI At b.2) (x : Bool) (hx : over b = x) :
    Calls Tryz.prog 141 #[.agg #[.slice Ao b.1.length co, .slice At b.2.length ct]] w fun e w' => e = .returned (.bool x) ∧ Below w.heap.size w w' := by
  have hv := hb.v1
  have C1 := Lib.hid (fun w (h : RdS w B 1 enI Ao b.1) => sum_s Ao co B b.1 w h (fun i => ⟨hb.own.nn i, by have := hb.own.top i; omega⟩) (by have := hb.own.len; omega))
  have C2 := Lib.hid (fun w (h : RdS w B 1 enI At b.2) => sum_s At ct B b.2 w h (fun i => ⟨hb.oth.nn i, by have := hb.oth.top i; omega⟩) (by have := hb.oth.len; omega))
  unfold over at hx
  have HX := Lib.hid hx
  clear hx hb hv
  go_enter Tryz.func141, Tryz.ntmps141
  go_wp2_with fail
  refine (C1.out _ (ho.below (by go_grown) hB)).mono ?_
  rintro e w1 ⟨rfl, rfl⟩
  by_cases h1 : b.1.sum = 0
  · obtain rfl : x = true := by rw [← HX.out]; simp [h1]
    have e1 : (b.1.sum == 0) = true := by simp [h1]
    clear h1
    go_wp2_with fail
    go_ret
    exact ⟨rfl, by go_grown⟩
  · obtain rfl : x = (b.2.sum == 0) := by rw [← HX.out]; simp [h1]; rfl
    have e1 : (b.1.sum == 0) = false := by simp [h1]
    clear h1
    go_wp2_with fail
    refine (C2.out _ (ht.below (by go_grown) hB)).mono ?_
    rintro e w2 ⟨rfl, rfl⟩
    go_wp2_with fail
    go_ret
    exact ⟨rfl, by go_grown⟩

end Go.Proofs.YtlfdcefgelpgmaaGreatDoor.Bd2
