/-
  Are two boards the same: of the reference. Conditions: each theorem's own.
-/
import Derived.Test.YtfgkkmhafdbicaaBd9
set_option linter.unusedVariables false
set_option linter.unusedSimpArgs false
namespace Go.Proofs.Ytfgkkmhafdbicaa.Bd10
open Go.ChangeShapes Go.WideShapes Go.ChangeAt Go.RowKit Base Ints Own Clone PlP Bd1

theorem eq_at {a b : List Int} (hl : a.length = b.length) : decide (a = b) = decide (∀ i, i < a.length → at_ a i = at_ b i) :=
  decide_eq_decide.2 ⟨fun h i _ => by rw [h], list_ext hl⟩
set_option maxHeartbeats 4000000 in
set_option maxRecDepth 100000 in
theorem same_s (a b : Bd) (n : Nat) (h1 : a.1.length = n) (h2 : a.2.length = n) (h3 : b.1.length = n) (h4 : b.2.length = n) (hn : 0 < n ∧ n ≤ 1000) (A1 A2 A3 A4 : Option Addr) (c1 c2 c3 c4 B : Nat) (w : World) (hB : B ≤ w.heap.size)
    (r1 : RdS w B 1 enI A1 a.1) (r2 : RdS w B 1 enI A2 a.2) (r3 : RdS w B 1 enI A3 b.1) (r4 : RdS w B 1 enI A4 b.2) (x : Bool) (hx : decide (a = b) = x) :
    Calls Try.prog 62 #[.agg #[.slice A1 n c1, .slice A2 n c2], .agg #[.slice A3 n c3, .slice A4 n c4]] w fun e w' => e = .returned (.bool x) ∧ Below w.heap.size w w' := by
  obtain ⟨l, m⟩ := a
  obtain ⟨p, q⟩ := b
  simp only at *
  have HX : Hid (decide ((∀ i, i < n → at_ l i = at_ p i) ∧ (∀ i, i < n → at_ m i = at_ q i)) = x) := Lib.hid (by
    rw [← hx]
    refine decide_eq_decide.2 ⟨fun h => ?_, fun h => ?_⟩
    · exact Prod.ext (list_ext (by simp only; omega) (fun i hi => h.1 i (by simp only at hi; omega))) (list_ext (by simp only; omega) (fun i hi => h.2 i (by simp only at hi; omega)))
    · simp only [Prod.mk.injEq] at h
      rw [h.1, h.2]
      exact ⟨fun _ _ => rfl, fun _ _ => rfl⟩)
  have H1 := Lib.hid h1
  have H2 := Lib.hid h2
  have H3 := Lib.hid h3
  have H4 := Lib.hid h4
  have R1 := Lib.hid r1
  have R2 := Lib.hid r2
  have R3 := Lib.hid r3
  have R4 := Lib.hid r4
  clear h1 h2 h3 h4 r1 r2 r3 r4 hx
  go_enter Try.func62, Try.ntmps62
  go_upto_region 1 with (fail)
  refine wp_gen (fun W' => Below w.heap.size w W' ∧ RowB W' w.heap.size 34 [.slice A1 n c1, .slice A2 n c2] ∧ RowB W' (w.heap.size + 1) 34 [.slice A3 n c3, .slice A4 n c4]) ⟨by go_grown, RowB.alloc (RowB.new _ _ _) _, RowB.new' _ _ _ (by first | simp | go_size | rfl)⟩ ?_
  rintro w1 ⟨hbW, ra, rb⟩
  obtain ⟨y0, y1⟩ := ra.c2
  obtain ⟨z0, z1⟩ := rb.c2
  have hl1 := ra.lt
  have hl2 := rb.lt
  go_wp2_with fail
  go_loopw [5] (fun i wr => ∃ k : Nat, k ≤ n ∧ i = .int .i64 (k : Int) ∧ Hid (Below w.heap.size w wr) ∧ RowB wr w.heap.size 34 [.slice A1 n c1, .slice A2 n c2] ∧ RowB wr (w.heap.size + 1) 34 [.slice A3 n c3, .slice A4 n c4] ∧ Hid (∀ i, i < k → at_ l i = at_ p i)) (fun i _ => n - (intOf i).toNat)
  case atStart => exact ⟨0, Nat.zero_le _, by first | rfl | trivial, Lib.hid hbW, ra, rb, Lib.hid (fun i h => absurd h (Nat.not_lt_zero _))⟩
  case round =>
    obtain ⟨k, hk, rfl, hb, ra, rb, hsame⟩ := hrel
    clear y0 y1 z0 z1 hl1 hl2
    obtain ⟨y0, y1⟩ := ra.c2
    obtain ⟨z0, z1⟩ := rb.c2
    have hl1 := ra.lt
    have hl2 := rb.lt
    by_cases hlt : k < n
    · obtain ⟨b1, o1, rfl, hb1', hc1⟩ := at_rd (R1.out.below hb.out hB) (i := k) (by rw [H1.out]; exact hlt)
      obtain ⟨b2, o2, rfl, hb2', hc2⟩ := at_rd (R3.out.below hb.out hB) (i := k) (by rw [H3.out]; exact hlt)
      have hkn : (k : Int) < (n : Int) := by omega
      have hwk : IntKind.i64.wrap ((k : Int) + 1) = (k : Int) + 1 := IntWalk.i64_in _ (by omega)
      by_cases hv : at_ l k = at_ p k
      · have e1 : (at_ l k != at_ p k) = false := by simp [hv]
        have hsN := Lib.hid (show ∀ i, i < k + 1 → at_ l i = at_ p i from fun i hi => by
          by_cases e : i = k
          · rw [e]; exact hv
          · exact hsame.out i (by omega))
        clear hv
        go_wp2_with fail
        go_quiet (fail)
        go_wp2_with fail
        go_roundw
        case rel => exact ⟨k + 1, by omega, by go_num, Lib.hid (below_drewN hb.out _), ra.drewN _, rb.drewN _, hsN⟩
        case measure => simp [intOf]; omega
      · have e1 : (at_ l k != at_ p k) = true := by simp [hv]
        obtain rfl : x = false := by rw [← HX.out]; exact decide_eq_false (fun h => hv (h.1 k hlt))
        clear hv
        go_wp2_with fail
        go_quiet (fail)
        go_wp2_with fail
        go_ret
        exact ⟨rfl, below_drewN hb.out _⟩
    · obtain rfl : n = k := by omega
      have HP := hsame
      clear hsame
      go_wp2_with fail
      go_loopw [6] (fun i wr => ∃ k : Nat, k ≤ n ∧ i = .int .i64 (k : Int) ∧ Hid (Below w.heap.size w wr) ∧ RowB wr w.heap.size 34 [.slice A1 n c1, .slice A2 n c2] ∧ RowB wr (w.heap.size + 1) 34 [.slice A3 n c3, .slice A4 n c4] ∧ Hid (∀ i, i < k → at_ m i = at_ q i)) (fun i _ => n - (intOf i).toNat)
      case atStart => exact ⟨0, Nat.zero_le _, by first | rfl | trivial, hb, ra, rb, Lib.hid (fun i h => absurd h (Nat.not_lt_zero _))⟩
      case round =>
        obtain ⟨k, hk, rfl, hb, ra, rb, hsame⟩ := hrel
        clear y0 y1 z0 z1 hl1 hl2
        obtain ⟨y0, y1⟩ := ra.c2
        obtain ⟨z0, z1⟩ := rb.c2
        have hl1 := ra.lt
        have hl2 := rb.lt
        by_cases hlt : k < n
        · obtain ⟨b1, o1, rfl, hb1', hc1⟩ := at_rd (R2.out.below hb.out hB) (i := k) (by rw [H2.out]; exact hlt)
          obtain ⟨b2, o2, rfl, hb2', hc2⟩ := at_rd (R4.out.below hb.out hB) (i := k) (by rw [H4.out]; exact hlt)
          have hkn : (k : Int) < (n : Int) := by omega
          have hwk : IntKind.i64.wrap ((k : Int) + 1) = (k : Int) + 1 := IntWalk.i64_in _ (by omega)
          by_cases hv : at_ m k = at_ q k
          · have e1 : (at_ m k != at_ q k) = false := by simp [hv]
            have hsN := Lib.hid (show ∀ i, i < k + 1 → at_ m i = at_ q i from fun i hi => by
              by_cases e : i = k
              · rw [e]; exact hv
              · exact hsame.out i (by omega))
            clear hv
            go_wp2_with fail
            go_quiet (fail)
            go_wp2_with fail
            go_roundw
            case rel => exact ⟨k + 1, by omega, by go_num, Lib.hid (below_drewN hb.out _), ra.drewN _, rb.drewN _, hsN⟩
            case measure => simp [intOf]; omega
          · have e1 : (at_ m k != at_ q k) = true := by simp [hv]
            obtain rfl : x = false := by rw [← HX.out]; exact decide_eq_false (fun h => hv (h.2 k hlt))
            clear hv
            go_wp2_with fail
            go_quiet (fail)
            go_wp2_with fail
            go_ret
            exact ⟨rfl, below_drewN hb.out _⟩
        · obtain rfl : n = k := by omega
          obtain rfl : x = true := by rw [← HX.out]; exact decide_eq_true ⟨HP.out, hsame.out⟩
          go_wp2_with fail
          go_ret
          exact ⟨rfl, hb.out⟩
end Go.Proofs.Ytfgkkmhafdbicaa.Bd10
