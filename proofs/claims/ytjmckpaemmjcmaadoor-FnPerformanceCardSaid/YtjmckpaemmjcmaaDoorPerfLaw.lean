/-
  The law on performances: the smallest value with the wanted chance. Conditions: none beyond the given row's.
-/
import Derived.Test.YtjmckpaemmjcmaaDoorPerf
import Derived.Test.YtjmckpaemmjcmaaDoorChanceLaw
set_option linter.unusedVariables false
namespace Go.Proofs.YtjmckpaemmjcmaaDoor.PerfLaw
open Go.ChangeShapes Go.WideShapes Go.ChangeAt Go.RowKit Base Ints Own Draw Rating Chance ChanceLaw Perf

theorem bs_prop (r g k : Int) : ∀ (f : Nat) (l h : Int), 0 ≤ l → l ≤ h → h - l < 2 ^ f → enough r g k h = true → (l = 0 ∨ enough r g k (l - 1) = false) →
    l ≤ bsF r g k f l h ∧ bsF r g k f l h ≤ h ∧ enough r g k (bsF r g k f l h) = true ∧ (bsF r g k f l h = 0 ∨ enough r g k (bsF r g k f l h - 1) = false) := by
  intro f
  induction f with
  | zero =>
    intro l h h0 h1 h2 h3 h4
    simp at h2
    obtain rfl : l = h := by omega
    exact ⟨Int.le_refl _, Int.le_refl _, h3, h4⟩
  | succ f ih =>
    intro l h h0 h1 h2 h3 h4
    have hp : (2 : Int) ^ (f + 1) = 2 * 2 ^ f := by rw [Int.pow_succ]; omega
    rw [hp] at h2
    rw [bsF]
    by_cases hlt : l < h
    · rw [if_pos hlt]
      cases he : enough r g k ((l + h) / 2)
      · have := ih ((l + h) / 2 + 1) h (by omega) (by omega) (by omega) h3 (.inr (by rw [show (l + h) / 2 + 1 - 1 = (l + h) / 2 from by omega]; exact he))
        exact ⟨by have := this.1; simp; omega, this.2⟩
      · have := ih l ((l + h) / 2) h0 (by omega) (by omega) he h4
        exact ⟨this.1, by have := this.2.1; simp; omega, this.2.2⟩
    · obtain rfl : l = h := by omega
      rw [if_neg hlt]
      exact ⟨Int.le_refl _, Int.le_refl _, h3, h4⟩
theorem pe_prop {r k g : Int} (h : peC r k g = 0) : (0 ≤ r ∧ r ≤ 1000000) ∧ (1 ≤ g ∧ g ≤ 1000) ∧ (0 ≤ k ∧ k ≤ g) ∧ 0 ≤ peV r k g ∧ peV r k g ≤ 1000000 ∧ 1000 * k ≤ ch (peV r k g - r) 1 * g ∧ (peV r k g = 0 ∨ ch (peV r k g - 1 - r) 1 * g < 1000 * k) := by
  have hok : peOk r k g = true := by
    cases h1 : peOk r k g
    · simp [peC, h1] at h
    · rfl
  have he : enough r g k 1000000 = true := by
    cases h1 : enough r g k 1000000
    · simp [peC, hok, h1] at h
    · rfl
  have hv : peV r k g = bsF r g k 20 0 1000000 := by unfold peV; rw [if_pos h]
  have hb := bs_prop r g k 20 0 1000000 (by omega) (by omega) pow20 he (.inl rfl)
  rw [hv]
  unfold peOk at hok
  simp only [Bool.and_eq_true, decide_eq_true_eq] at hok
  refine ⟨hok.1, hok.2.1, hok.2.2, hb.1, hb.2.1, of_decide_eq_true hb.2.2.1, ?_⟩
  rcases hb.2.2.2 with h0 | h0
  · exact .inl h0
  · exact .inr (Int.not_le.1 (of_decide_eq_false h0))
theorem pe_no {r k g : Int} (h : peC r k g ≠ 0) : peV r k g = 0 := by unfold peV; rw [if_neg h]

set_option maxHeartbeats 4000000 in
theorem performance (A : Option Addr) (cp : Nat) (xs : List Int) (W : World) (hr : RdS W W.heap.size 1 enB A xs) (hw : ∀ x ∈ xs, (Lit.int .u8 x).wf = true) (tb : ∀ i : Nat, i < 11 → W.cell? ⟨0, i, none⟩ = some (.int .i64 (tab.getD i 0))) (hz : 0 < W.heap.size) :
    Calls Tryd.prog 7 #[.slice A xs.length cp] W fun e w' => e = .returned (.bool true) ∧ Below W.heap.size W w' := by
  have T := Lib.hid (fun (w' : World) (hb : Below W.heap.size W w') (i : Nat) (hi : i < 11) => (hb.cell (p := ⟨0, i, none⟩) hz).trans (tb i hi))
  clear tb
  cases hbig : decide ((4096 : Int) < (xs.length : Int))
  case true =>
    have HB := Lib.hid hbig; clear hbig
    go_enter Tryd.func7, Tryd.ntmps7
    go_wp2_with fail
    refine (DrawC.bigB _ cp A true HB.out _ hr.1).mono ?_
    rintro e w1 ⟨rfl, rfl⟩
    go_wp2_with fail
    go_ret
    exact ⟨rfl, Below.refl _ _⟩
  have HB := Lib.hid hbig; clear hbig
  go_enter Tryd.func7, Tryd.ntmps7
  go_wp2_with fail
  refine (DrawC.bigB _ cp A false HB.out _ hr.1).mono ?_
  rintro e w1 ⟨rfl, rfl⟩
  go_wp2_with fail
  refine (DrawC.perf hr hw).mono ?_
  rintro e w2 ⟨⟨r, k, g, rfl, r0, r1, k0, k1, g0, g1⟩, hb2⟩
  have hz2 : 0 < w2.heap.size := Nat.lt_of_lt_of_le hz hb2.size
  go_wp2_with fail
  refine (pe_impl r k g _ (T.out _ hb2) hz2).mono ?_
  rintro e w3 ⟨rfl, hb3⟩
  have q3 := hb2.trans (hb3.mono hb2.size)
  go_wp2_with fail
  refine (pe_spec r k g _).mono ?_
  rintro e w4 ⟨rfl, hb4⟩
  have q4 := q3.trans (hb4.mono q3.size)
  clear hb2 hb3 hb4 q3
  by_cases hc : peC r k g = 0
  · obtain ⟨⟨a0, a1⟩, ⟨b0, b1⟩, ⟨c0, c1⟩, v0, v1, he, hs⟩ := pe_prop hc
    rw [hc]
    generalize peV r k g = n at *
    have hp := ch_bd (n - r)
    have C := Lib.hid (fun w0 tb => wcI (n - r) 1 w0 tb ⟨⟨by omega, by omega⟩, by omega, by omega⟩)
    have C2 := Lib.hid (fun w0 tb (h : n ≠ 0) => wcI (n - 1 - r) 1 w0 tb ⟨⟨by omega, by omega⟩, by omega, by omega⟩)
    have hq := ch_bd (n - 1 - r)
    generalize ch (n - r) 1 = p at *
    generalize ch (n - 1 - r) 1 = q at *
    obtain ⟨m0, m1⟩ := mul_bd hp.1 hp.2 (show 0 ≤ g by omega) b1
    obtain ⟨m2, m3⟩ := mul_bd hq.1 hq.2 (show 0 ≤ g by omega) b1
    have hd1 : decide (p * g < 1000 * k) = false := decide_eq_false (by omega)
    have hd2 : decide (n < 0) = false := decide_eq_false (by omega)
    by_cases hn : n = 0
    · have e1 : (n == 0) = true := by simp [hn]
      clear hs C2 hn
      go_wp2_with fail
      refine (C.out _ (T.out _ q4)).mono ?_
      rintro e w5 ⟨rfl, hb5⟩
      have q5 := q4.trans (hb5.mono q4.size)
      go_wp2_with fail
      go_ret
      exact ⟨rfl, q5⟩
    · have hs := hs.resolve_left hn
      have e1 : (n == 0) = false := by simp [hn]
      go_wp2_with fail
      refine (C.out _ (T.out _ q4)).mono ?_
      rintro e w5 ⟨rfl, hb5⟩
      have q5 := q4.trans (hb5.mono q4.size)
      go_wp2_with fail
      refine (C2.out _ (T.out _ q5) hn).mono ?_
      rintro e w6 ⟨rfl, hb6⟩
      have q6 := q5.trans (hb6.mono q5.size)
      go_wp2_with fail
      go_ret
      exact ⟨rfl, q6⟩
  · rw [pe_no hc]
    generalize peC r k g = c at *
    have e1 : (c != 0) = true := by simp [hc]
    have e2 : (c != c) = false := by simp
    clear hc
    go_wp2_with fail
    go_ret
    exact ⟨rfl, q4⟩
end Go.Proofs.YtjmckpaemmjcmaaDoor.PerfLaw
