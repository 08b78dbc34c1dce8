/-
  IsTournament, of the program and of the reference. Conditions: each theorem's own.
-/
import Derived.Test.YtoicppnkkhajeaaTournament
set_option linter.unusedVariables false
namespace Go.Proofs.Ytoicppnkkhajeaa.Tourn1
open Go.ChangeShapes Go.WideShapes Go.ChangeAt Go.RowKit Base Ints

theorem retb {a b : Bool} (h : a = b) : Ending.returned (.bool a) = Ending.returned (.bool b) := by rw [h]
/-- Is it the size of a tournament? -/
def okSz (n : Int) : Bool := decide (n = 2 ∨ n = 4 ∨ n = 8 ∨ n = 16 ∨ n = 32)

theorem and_sz (n : Int) (h1 : 2 ≤ n) (h2 : n ≤ 32) : (bits BinOp.and IntKind.i64 n (n - 1) == 0) = okSz n := by
  have key : ∀ m : Fin 33, 2 ≤ m.val → (bits BinOp.and IntKind.i64 (m.val : Int) ((m.val : Int) - 1) == 0) = okSz (m.val : Int) := by decide +kernel
  have := key ⟨n.toNat, by omega⟩ (by show 2 ≤ n.toNat; omega)
  simp only at this
  rw [show ((n.toNat : Nat) : Int) = n from by omega] at this
  exact this
theorem okSz_no {n : Int} (h : n < 2 ∨ 32 < n) : okSz n = false := decide_eq_false (by omega)

theorem isSize (n : Int) (w : World) : Calls Try.prog 51 #[.int .i64 n] w fun e w' => e = .returned (.bool (okSz n)) ∧ w = w' := by
  by_cases h1 : 2 ≤ n
  · by_cases h2 : n ≤ 32
    · have h3 : 1 ≤ n := by omega
      have H := Lib.hid (and_sz n h1 h2)
      go_enter Try.func51, Try.ntmps51
      go_wp2
      go_ret
      exact ⟨retb H.out, rfl⟩
    · have h3 : 1 ≤ n := by omega
      have H := Lib.hid (okSz_no (n := n) (by omega))
      have hd : decide (n ≤ 32) = false := decide_eq_false h2
      replace h2 := Int.not_le.1 h2
      go_enter Try.func51, Try.ntmps51
      go_wp2
      go_ret
      exact ⟨retb (by rw [H.out]), rfl⟩
  · have H := Lib.hid (okSz_no (n := n) (by omega))
    have hd : decide (2 ≤ n) = false := decide_eq_false h1
    replace h1 := Int.not_le.1 h1
    go_enter Try.func51, Try.ntmps51
    go_wp2
    go_ret
    exact ⟨retb (by rw [H.out]), rfl⟩

/-- All are 0 or 1. -/
def is01 (x : Int) : Bool := decide (0 ≤ x ∧ x ≤ 1)
def okT (size : Int) (xs : List Int) : Bool := okSz size && (decide ((xs.length : Int) < size) && xs.all is01)
theorem all_snoc {α : Type} (p : α → Bool) (xs : List α) (k : Nat) (x : α) (h : xs[k]? = some x) (h1 : (xs.take k).all p = true) (h2 : p x = true) : (xs.take (k + 1)).all p = true := by
  rw [take_succ xs k x h, List.all_append, h1]; simp [h2]
theorem all_no {α : Type} (p : α → Bool) (xs : List α) (k : Nat) (x : α) (h : xs[k]? = some x) (h2 : p x = false) : xs.all p = false := by
  rw [List.all_eq_false]
  exact ⟨x, List.mem_of_getElem? h, by simp [h2]⟩

set_option maxHeartbeats 1000000 in
theorem allW (B : Nat) (A : Option Addr) (c : Nat) (xs : List Int) (w : World) (hr : RdS w B 1 enI A xs) :
    Calls Try.prog 55 #[.slice A xs.length c, .int .i64 0, .int .i64 1] w fun e w' => e = .returned (.bool (xs.all is01)) ∧ w = w' := by
  have hn := hr.len
  generalize hnn : xs.length = n at *
  have H := Lib.hid hnn; clear hnn
  go_enter Try.func55, Try.ntmps55
  go_wp2
  go_loop [11] (fun i => ∃ k : Nat, k ≤ n ∧ i = .int .i64 k ∧ Hid ((xs.take k).all is01 = true)) (fun i => n - (intOf i).toNat)
  case atStart => exact ⟨0, Nat.zero_le _, rfl, by simp [Hid]⟩
  case round =>
    obtain ⟨k, hk, rfl, hall⟩ := hrel
    by_cases hlt : k < n
    · obtain ⟨b, off, x, rfl, hb, hx, hc⟩ := rdI_at hr (by rw [H.out]; exact hlt)
      by_cases h1 : 0 ≤ x
      · by_cases h2 : x ≤ 1
        · have HT := Lib.hid (all_snoc is01 xs k x hx hall.out (by simp [is01, h1, h2]))
          clear hx
          go_wp2
          go_round
          case rel => exact ⟨k + 1, by omega, by go_num, HT⟩
          case measure => simp [intOf]; omega
        · have HF := Lib.hid (all_no is01 xs k x hx (by simp [is01, h2]))
          have hd : decide (x ≤ 1) = false := decide_eq_false h2
          replace h2 := Int.not_le.1 h2
          clear hx
          go_wp2
          all_goals go_ret
          all_goals exact ⟨retb (by rw [HF.out]), rfl⟩
      · have HF := Lib.hid (all_no is01 xs k x hx (by simp [is01, h1]))
        have hd : decide (0 ≤ x) = false := decide_eq_false h1
        replace h1 := Int.not_le.1 h1
        clear hx
        go_wp2
        all_goals go_ret
        all_goals exact ⟨retb (by rw [HF.out]), rfl⟩
    · obtain rfl : k = n := by omega
      have HA : Hid (xs.all is01 = true) := by
        have := hall.out
        rw [List.take_of_length_le (by rw [H.out]; exact Nat.le_refl _)] at this
        exact this
      go_wp2
      go_ret
      exact ⟨retb (by rw [HA.out]), rfl⟩

theorem szSpec (n : Int) (w : World) : Calls Try.prog 49 #[.int .i64 n] w fun e w' => e = .returned (.bool (okSz n)) ∧ w = w' := by
  by_cases h : n = 2 ∨ n = 4 ∨ n = 8 ∨ n = 16 ∨ n = 32
  · rcases h with rfl | rfl | rfl | rfl | rfl
    all_goals
      go_enter Try.func49, Try.ntmps49
      go_wp2
      go_ret
      exact ⟨rfl, rfl⟩
  · have H := Lib.hid (show okSz n = false from decide_eq_false h)
    have a1 : (n == 2) = false := by simp; omega
    have a2 : (n == 4) = false := by simp; omega
    have a3 : (n == 8) = false := by simp; omega
    have a4 : (n == 16) = false := by simp; omega
    have a5 : (n == 32) = false := by simp; omega
    clear h
    go_enter Try.func49, Try.ntmps49
    go_wp2
    go_ret
    exact ⟨retb (by rw [H.out]), rfl⟩

set_option maxHeartbeats 1000000 in
theorem isT_impl (size : Int) (A : Option Addr) (cp B : Nat) (xs : List Int) (w : World) (hB : B ≤ w.heap.size) (hr : RdS w B 1 enI A xs) (h64 : I64 size) :
    Calls Try.prog 23 #[.agg #[.int .i64 size, .slice A xs.length cp]] w fun e w' => e = .returned (.bool (okT size xs)) ∧ Below w.heap.size w w' := by
  have hn := hr.len
  unfold okT
  have HR := fun o => hr.below (Below.alloc (Below.refl w.heap.size w) (Nat.le_refl _) o) hB
  have HR := Lib.hid HR
  by_cases h1 : okSz size = true
  · by_cases h2 : (xs.length : Int) < size
    · have HV := Lib.hid (show (okSz size && (decide ((xs.length : Int) < size) && xs.all is01)) = xs.all is01 by simp [h1, h2])
      have C := fun w0 => isSize size w0
      rw [h1] at C
      have C := Lib.hid C
      clear h1
      go_enter Try.func23, Try.ntmps23
      go_wp2_with (first | (go_at_call 51; refine (C.out _).mono ?_; rintro e w' ⟨rfl, rfl⟩) | (go_at_call 55; refine (allW B A cp xs _ (by exact HR.out _)).mono ?_; rintro e w' ⟨rfl, rfl⟩))
      go_ret
      exact ⟨retb (by rw [HV.out]), by go_grown⟩
    · have HV := Lib.hid (show (okSz size && (decide ((xs.length : Int) < size) && xs.all is01)) = false by simp [h2])
      have C := fun w0 => isSize size w0
      rw [h1] at C
      have C := Lib.hid C
      clear h1
      have hd : decide ((xs.length : Int) < size) = false := decide_eq_false h2
      replace h2 := Int.not_lt.1 h2
      go_enter Try.func23, Try.ntmps23
      go_wp2_with (first | (go_at_call 51; refine (C.out _).mono ?_; rintro e w' ⟨rfl, rfl⟩))
      go_ret
      exact ⟨retb (by rw [HV.out]), by go_grown⟩
  · have h1 : okSz size = false := by simpa using h1
    have HV := Lib.hid (show (okSz size && (decide ((xs.length : Int) < size) && xs.all is01)) = false by simp [h1])
    have C := fun w0 => isSize size w0
    rw [h1] at C
    have C := Lib.hid C
    clear h1
    go_enter Try.func23, Try.ntmps23
    go_wp2_with (first | (go_at_call 51; refine (C.out _).mono ?_; rintro e w' ⟨rfl, rfl⟩))
    go_ret
    exact ⟨retb (by rw [HV.out]), by go_grown⟩

set_option maxHeartbeats 1000000 in
theorem isT_spec (size : Int) (A : Option Addr) (cp B : Nat) (xs : List Int) (w : World) (hB : B ≤ w.heap.size) (hr : RdS w B 1 enI A xs) (h64 : I64 size) :
    Calls Try.prog 21 #[.agg #[.int .i64 size, .slice A xs.length cp]] w fun e w' => e = .returned (.bool (okT size xs)) ∧ Below w.heap.size w w' := by
  have hn := hr.len
  unfold okT
  generalize hnn : xs.length = n at *
  have H := Lib.hid hnn; clear hnn
  go_enter Try.func21, Try.ntmps21
  go_wp2
  go_loop [3] (fun i => ∃ k : Nat, k ≤ n ∧ i = .int .i64 k ∧ Hid ((xs.take k).all is01 = true)) (fun i => n - (intOf i).toNat)
  case atStart => exact ⟨0, Nat.zero_le _, rfl, by simp [Hid]⟩
  case round =>
    obtain ⟨k, hk, rfl, hall⟩ := hrel
    by_cases hlt : k < n
    · obtain ⟨b, off, x, rfl, hb, hx, hc⟩ := rdI_at hr (by rw [H.out]; exact hlt)
      have hbw : b < w.heap.size := by omega
      by_cases h1 : 0 ≤ x
      · by_cases h2 : x ≤ 1
        · have HT := Lib.hid (all_snoc is01 xs k x hx hall.out (by simp [is01, h1, h2]))
          clear hx
          go_wp2
          go_round
          case rel => exact ⟨k + 1, by omega, by go_num, HT⟩
          case measure => simp [intOf]; omega
        · have HF := Lib.hid (all_no is01 xs k x hx (by simp [is01, h2]))
          have hd : decide (x ≤ 1) = false := decide_eq_false h2
          replace h2 := Int.not_le.1 h2
          clear hx
          go_wp2
          all_goals go_ret
          all_goals exact ⟨retb (by rw [HF.out]; simp), by go_grown⟩
      · have HF := Lib.hid (all_no is01 xs k x hx (by simp [is01, h1]))
        have hd : decide (0 ≤ x) = false := decide_eq_false h1
        replace h1 := Int.not_le.1 h1
        clear hx
        go_wp2
        all_goals go_ret
        all_goals exact ⟨retb (by rw [HF.out]; simp), by go_grown⟩
    · obtain rfl : k = n := by omega
      have HA : Hid (xs.all is01 = true) := by
        have := hall.out
        rw [List.take_of_length_le (by rw [H.out]; exact Nat.le_refl _)] at this
        exact this
      clear hall
      cases h1 : okSz size
      · have C := fun w0 => szSpec size w0
        rw [h1] at C
        have C := Lib.hid C
        have H1 := Lib.hid h1; clear h1
        go_wp2_with (first | (go_at_call 49; refine (C.out _).mono ?_; rintro e w' ⟨rfl, rfl⟩))
        go_ret
        exact ⟨retb (by rw [H1.out]; simp), by go_grown⟩
      · have C := fun w0 => szSpec size w0
        rw [h1] at C
        have C := Lib.hid C
        have H1 := Lib.hid h1; clear h1
        go_wp2_with (first | (go_at_call 49; refine (C.out _).mono ?_; rintro e w' ⟨rfl, rfl⟩))
        go_ret
        exact ⟨retb (by rw [HA.out, H1.out]; simp), by go_grown⟩
end Go.Proofs.Ytoicppnkkhajeaa.Tourn1
