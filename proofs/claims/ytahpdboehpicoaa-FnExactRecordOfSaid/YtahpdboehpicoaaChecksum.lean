/-
  The checksum of bytes, of the program and of the reference, and the law on ChecksumOf. Conditions: each theorem's own.
-/
import Derived.Test.YtahpdboehpicoaaBytes
set_option linter.unusedVariables false
namespace Go.Proofs.Ytahpdboehpicoaa.Checksum
open Go.ChangeShapes Go.WideShapes Go.ChangeAt Go.RowKit Base Bytes

def ck (xs : List Int) : Int := xs.foldl (fun s x => (257 * s + x) % 65521) 1
theorem ck_snoc (xs : List Int) (k : Nat) (x : Int) (hx : xs[k]? = some x) (s : Int) (hs : s = ck (xs.take k)) : (257 * s + x) % 65521 = ck (xs.take (k + 1)) := by
  rw [take_succ xs k x hx]
  unfold ck at hs ⊢
  rw [List.foldl_append, ← hs]
  rfl

theorem spec (B : Nat) (A : Option Addr) (c : Nat) (xs : List Int) (w : World) (hr : RdS w B 1 enB A xs) (hw : ∀ x ∈ xs, (Lit.int .u8 x).wf = true) :
    Calls Try.prog 10 #[.slice A xs.length c] w fun e w' => e = .returned (.int .i64 (ck xs)) ∧ w = w' := by
  have hlen := hr.len
  have HW := Lib.hid hw; clear hw
  generalize hnn : xs.length = n at *
  have H := Lib.hid hnn; clear hnn
  go_enter Try.func10, Try.ntmps10
  go_wp2
  go_loop [3, 4] (fun t i => ∃ (k : Nat) (s : Int), k ≤ n ∧ i = .int .i64 k ∧ 0 ≤ s ∧ s ≤ 65520 ∧ t = .int .i64 s ∧ Hid (s = ck (xs.take k))) (fun t i => n - (intOf i).toNat)
  case atStart => exact ⟨0, 1, Nat.zero_le _, rfl, by omega, by omega, rfl, rfl⟩
  case round =>
    obtain ⟨k, s, hk, rfl, hs0, hs1, rfl, hs⟩ := hrel
    by_cases hlt : k < n
    · obtain ⟨b, off, x, rfl, hb, hx, hc⟩ := rdI_at hr (by rw [H.out]; exact hlt)
      have hb8 := bounds_u8 (HW.out x (List.mem_of_getElem? hx))
      obtain ⟨hx0, hx1⟩ := hb8
      have hst := Lib.hid (ck_snoc xs k x hx s hs.out)
      clear hx
      go_wp2
      go_round
      case rel => exact ⟨k + 1, (257 * s + x) % 65521, by omega, by go_num, by omega, by omega, rfl, hst⟩
      case measure => simp [intOf]; omega
    · obtain rfl : k = n := by omega
      have hs' : Hid (s = ck xs) := by
        have := hs.out
        rw [List.take_of_length_le (by rw [H.out]; exact Nat.le_refl _)] at this
        exact this
      go_wp2
      go_ret
      exact ⟨by rw [← hs'.out]; rfl, rfl⟩

theorem implB (B : Nat) (A : Option Addr) (c : Nat) (xs : List Int) (w : World) (hr : RdS w B 1 enB A xs) (hw : ∀ x ∈ xs, (Lit.int .u8 x).wf = true) :
    Calls Try.prog 31 #[.slice A xs.length c] w fun e w' => e = .returned (.int .i64 (ck xs)) ∧ w = w' := by
  have hlen := hr.len
  have HW := Lib.hid hw; clear hw
  generalize hnn : xs.length = n at *
  have H := Lib.hid hnn; clear hnn
  go_enter Try.func31, Try.ntmps31
  go_wp2
  go_loop [3, 7] (fun t i => ∃ (k : Nat) (s : Int), k ≤ n ∧ i = .int .i64 k ∧ 0 ≤ s ∧ s ≤ 65520 ∧ t = .int .i64 s ∧ Hid (s = ck (xs.take k))) (fun t i => n - (intOf i).toNat)
  case atStart => exact ⟨0, 1, Nat.zero_le _, rfl, by omega, by omega, rfl, rfl⟩
  case round =>
    obtain ⟨k, s, hk, rfl, hs0, hs1, rfl, hs⟩ := hrel
    by_cases hlt : k < n
    · obtain ⟨b, off, x, rfl, hb, hx, hc⟩ := rdI_at hr (by rw [H.out]; exact hlt)
      have hb8 := bounds_u8 (HW.out x (List.mem_of_getElem? hx))
      obtain ⟨hx0, hx1⟩ := hb8
      have hst := Lib.hid (ck_snoc xs k x hx s hs.out)
      clear hx
      go_wp2
      go_round
      case rel => exact ⟨k + 1, (257 * s + x) % 65521, by omega, by go_num, by omega, by omega, rfl, hst⟩
      case measure => simp [intOf]; omega
    · obtain rfl : k = n := by omega
      have hs' : Hid (s = ck xs) := by
        have := hs.out
        rw [List.take_of_length_le (by rw [H.out]; exact Nat.le_refl _)] at this
        exact this
      go_wp2
      go_ret
      exact ⟨by rw [← hs'.out]; rfl, rfl⟩

theorem impl (B : Nat) (A : Option Addr) (c : Nat) (xs : List Int) (w : World) (hr : RdS w B 1 enB A xs) (hw : ∀ x ∈ xs, (Lit.int .u8 x).wf = true) :
    Calls Try.prog 12 #[.slice A xs.length c] w fun e w' => e = .returned (.int .i64 (ck xs)) ∧ w = w' := by
  go_enter Try.func12, Try.ntmps12
  go_wp2_with fail
  refine (implB B A c xs _ hr hw).mono ?_
  rintro e w' ⟨rfl, rfl⟩
  go_wp2_with fail
  go_ret
  exact ⟨rfl, rfl⟩

theorem law (A : Option Addr) (c : Nat) (xs : List Int) (W : World) (hr : RdS W W.heap.size 1 enB A xs) (hw : ∀ x ∈ xs, (Lit.int .u8 x).wf = true) :
    Calls Try.prog 4 #[.slice A xs.length c] W fun e w' => e = .returned (.bool true) ∧ Below W.heap.size W w' := by
  have hlen := hr.len
  by_cases hn : xs.length ≤ 1048576
  · have e1 : (ck xs != ck xs) = false := by simp
    have HW := Lib.hid hw; clear hw
    go_enter Try.func4, Try.ntmps4
    go_wp2_with fail
    refine (toB W.heap.size A c xs _ (Nat.le_refl _) hn hr).mono ?_
    rintro e w1 ⟨rfl, q1, o1⟩
    obtain ⟨A1, c1, hv1, rd1⟩ := o1.form enB_len
    simp only [Value.slice.injEq, true_and] at hv1
    obtain ⟨rfl, rfl⟩ := hv1
    go_wp2_with fail
    refine (spec _ _ _ xs _ rd1 HW.out).mono ?_
    rintro e w' ⟨rfl, rfl⟩
    go_wp2_with fail
    refine (toB W.heap.size A c xs _ q1.size hn (hr.below q1 (Nat.le_refl _))).mono ?_
    rintro e w2 ⟨rfl, t2, o2⟩
    have q2 := q1.trans (t2.mono q1.size)
    obtain ⟨A2, c2, hv2, rd2⟩ := o2.form enB_len
    simp only [Value.slice.injEq, true_and] at hv2
    obtain ⟨rfl, rfl⟩ := hv2
    go_wp2_with fail
    refine (impl _ _ _ xs _ rd2 HW.out).mono ?_
    rintro e w' ⟨rfl, rfl⟩
    go_wp2_with fail
    refine (toB W.heap.size A c xs _ q2.size hn (hr.below q2 (Nat.le_refl _))).mono ?_
    rintro e w3 ⟨rfl, t3, o3⟩
    have q3 := q2.trans (t3.mono q2.size)
    obtain ⟨A3, c3, hv3, rd3⟩ := o3.form enB_len
    simp only [Value.slice.injEq, true_and] at hv3
    obtain ⟨rfl, rfl⟩ := hv3
    go_wp2_with fail
    refine (eqB _ _ _ _ _ _ xs _ (rd2.below t3 (Nat.le_refl _)) rd3).mono ?_
    rintro e w4 ⟨rfl, m, rfl⟩
    go_wp2_with fail
    go_ret
    exact ⟨rfl, below_drewN q3 _⟩
  · go_enter Try.func4, Try.ntmps4
    go_wp2_with fail
    go_ret
    exact ⟨rfl, Below.refl _ _⟩
end Go.Proofs.Ytahpdboehpicoaa.Checksum
