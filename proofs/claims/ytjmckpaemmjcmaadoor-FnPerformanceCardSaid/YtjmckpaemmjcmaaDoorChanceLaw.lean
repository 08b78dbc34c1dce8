/-
  The law on chances: both add up to 1000, and neither a greater difference nor a longer match lowers the stronger one's. Conditions: none beyond the given row's.
-/
import Derived.Test.YtjmckpaemmjcmaaDoorChance
import Derived.Test.YtjmckpaemmjcmaaDoorDrawC
set_option linter.unusedVariables false
namespace Go.Proofs.YtjmckpaemmjcmaaDoor.ChanceLaw
open Go.ChangeShapes Go.WideShapes Go.ChangeAt Go.RowKit Base Ints Own Draw Rating Chance

theorem chP_fin : ∀ x : Fin 2001, chP (x.val : Int) ≤ chP ((x.val : Int) + 1) := by decide +kernel
theorem chP_step (x : Nat) : chP (x : Int) ≤ chP ((x : Int) + 1) := by
  by_cases h : x < 2001
  · exact chP_fin ⟨x, h⟩
  · unfold chP
    rw [if_pos (by omega), if_pos (by omega)]
    exact Int.le_refl _
theorem chP_mono {x y : Int} (h0 : 0 ≤ x) (h : x ≤ y) : chP x ≤ chP y := by
  obtain ⟨a, rfl⟩ : ∃ a : Nat, x = a := ⟨x.toNat, by omega⟩
  obtain ⟨b, rfl⟩ : ∃ b : Nat, y = ((a + b : Nat) : Int) := ⟨(y - a).toNat, by omega⟩
  clear h h0
  induction b with
  | zero => exact Int.le_refl _
  | succ b ih =>
    have := chP_step (a + b)
    have e : ((a + (b + 1) : Nat) : Int) = ((a + b : Nat) : Int) + 1 := by omega
    rw [e]
    omega
theorem fac_fin : ∀ L : Fin 24, fac ((L.val : Int) + 1) < fac ((L.val : Int) + 2) := by decide +kernel
theorem fac_lt {L : Int} (h1 : 1 ≤ L) (h2 : L ≤ 24) : fac L < fac (L + 1) := by
  obtain ⟨a, rfl⟩ : ∃ a : Nat, L = (a : Int) + 1 := ⟨(L - 1).toNat, by omega⟩
  have := fac_fin ⟨a, by omega⟩
  rw [show (a : Int) + 1 + 1 = (a : Int) + 2 from by omega]
  exact this
theorem chN_zero (L : Int) : chN 0 L = 500 := by unfold chN; rw [Int.zero_mul]; decide
theorem ch_sum (d L : Int) : ch d L + ch (-d) L = 1000 := by
  unfold ch
  by_cases h : d < 0
  · rw [if_pos h, if_neg (by omega)]; omega
  · by_cases h0 : d = 0
    · subst h0
      rw [if_neg (by decide), if_neg (by decide), Int.neg_zero, chN_zero]; decide
    · rw [if_neg h, if_pos (by omega), Int.neg_neg]; omega
theorem ch_pos {d L : Int} (h : 0 ≤ d) : 500 ≤ ch d L ∧ ch d L ≤ 1000 := by
  unfold ch; rw [if_neg (by omega)]; exact chN_bd d L h
theorem ch_up {d L : Int} (h : 0 ≤ d) : ch d L ≤ ch (d + 1) L := by
  unfold ch
  rw [if_neg (by omega), if_neg (by omega)]
  have h1 := Int.mul_nonneg h (fac_bd L).1
  have h2 : d * fac L ≤ (d + 1) * fac L := Int.mul_le_mul_of_nonneg_right (by omega) (fac_bd L).1
  exact chP_mono (by omega) (by omega)
theorem ch_long {d L : Int} (h : 0 ≤ d) (h1 : 1 ≤ L) (h2 : L ≤ 24) : ch d L ≤ ch d (L + 1) := by
  unfold ch
  rw [if_neg (by omega), if_neg (by omega)]
  have h3 := Int.mul_nonneg h (fac_bd L).1
  have h4 : d * fac L ≤ d * fac (L + 1) := Int.mul_le_mul_of_nonneg_left (by have := fac_lt h1 h2; omega) h
  exact chP_mono (by omega) (by omega)

def inR (d L : Int) : Prop := (-1000000 ≤ d ∧ d ≤ 1000000) ∧ (1 ≤ L ∧ L ≤ 25)
theorem wcV_ok {d L : Int} (h : inR d L) : wcV d L = ch d L := by unfold wcV; exact if_pos h
theorem wcC_ok {d L : Int} (h : inR d L) : wcC d L = 0 := by unfold wcC; exact if_pos h
theorem wcV_no {d L : Int} (h : ¬ inR d L) : wcV d L = 0 := by unfold wcV; exact if_neg h
theorem wcC_no {d L : Int} (h : ¬ inR d L) : wcC d L = 2 := by unfold wcC; exact if_neg h
theorem wcI (d L : Int) (w : World) (tb : ∀ i : Nat, i < 11 → w.cell? ⟨0, i, none⟩ = some (.int .i64 (tab.getD i 0))) (h : inR d L) :
    Calls Tryd.prog 11 #[.int .i64 d, .int .i64 L] w fun e w' => e = .returned (.tuple #[.int .i64 (ch d L), .int .i64 0]) ∧ Below w.heap.size w w' := by
  have := wc_impl d L w tb
  rw [wcV_ok h, wcC_ok h] at this
  exact this
theorem wcS (d L : Int) (w : World) (h : inR d L) :
    Calls Tryd.prog 10 #[.int .i64 d, .int .i64 L] w fun e w' => e = .returned (.tuple #[.int .i64 (ch d L), .int .i64 0]) ∧ Below w.heap.size w w' := by
  have := wc_spec d L w
  rw [wcV_ok h, wcC_ok h] at this
  exact this
theorem wcIn (d L : Int) (w : World) (tb : ∀ i : Nat, i < 11 → w.cell? ⟨0, i, none⟩ = some (.int .i64 (tab.getD i 0))) (h : ¬ inR d L) :
    Calls Tryd.prog 11 #[.int .i64 d, .int .i64 L] w fun e w' => e = .returned (.tuple #[.int .i64 0, .int .i64 2]) ∧ Below w.heap.size w w' := by
  have := wc_impl d L w tb
  rw [wcV_no h, wcC_no h] at this
  exact this
theorem wcSn (d L : Int) (w : World) (h : ¬ inR d L) :
    Calls Tryd.prog 10 #[.int .i64 d, .int .i64 L] w fun e w' => e = .returned (.tuple #[.int .i64 0, .int .i64 2]) ∧ Below w.heap.size w w' := by
  have := wc_spec d L w
  rw [wcV_no h, wcC_no h] at this
  exact this
theorem lfI (L : Int) (w : World) (h1 : 1 ≤ L) (h2 : L ≤ 25) : Calls Tryd.prog 16 #[.int .i64 L] w fun e w' => e = .returned (.int .i64 (fac L)) ∧ w = w' := by
  have C := Lib.hid (fac_impl L w h1 h2)
  go_enter Tryd.func16, Tryd.ntmps16
  go_wp2_with (first | (go_at_call 47; refine (C.out).mono ?_; rintro e w1 ⟨rfl, rfl⟩) | go_in)
  go_ret
  exact ⟨rfl, rfl⟩

set_option maxHeartbeats 4000000 in
theorem chances (A : Option Addr) (cp : Nat) (xs : List Int) (W : World) (hr : RdS W W.heap.size 1 enB A xs) (hw : ∀ x ∈ xs, (Lit.int .u8 x).wf = true) (tb : ∀ i : Nat, i < 11 → W.cell? ⟨0, i, none⟩ = some (.int .i64 (tab.getD i 0))) (hz : 0 < W.heap.size) :
    Calls Tryd.prog 5 #[.slice A xs.length cp] W fun e w' => e = .returned (.bool true) ∧ Below W.heap.size W w' := by
  have T := Lib.hid (fun (w' : World) (hb : Below W.heap.size W w') (i : Nat) (hi : i < 11) => (hb.cell (p := ⟨0, i, none⟩) hz).trans (tb i hi))
  clear tb
  cases hbig : decide ((4096 : Int) < (xs.length : Int))
  case true =>
    have HB := Lib.hid hbig; clear hbig
    go_enter Tryd.func5, Tryd.ntmps5
    go_wp2_with fail
    refine (DrawC.bigB _ cp A true HB.out _ hr.1).mono ?_
    rintro e w1 ⟨rfl, rfl⟩
    go_wp2_with fail
    go_ret
    exact ⟨rfl, Below.refl _ _⟩
  have HB := Lib.hid hbig; clear hbig
  go_enter Tryd.func5, Tryd.ntmps5
  go_wp2_with fail
  refine (DrawC.bigB _ cp A false HB.out _ hr.1).mono ?_
  rintro e w1 ⟨rfl, rfl⟩
  go_wp2_with fail
  refine (DrawC.chance hr hw).mono ?_
  rintro e w2 ⟨⟨d, L, rfl, hd0, hd1, hl0, hl1⟩, hb2⟩
  by_cases g : inR d L
  · have G := Lib.hid g
    obtain ⟨⟨g1, g2⟩, g3, g4⟩ := g
    have F1 := ch_sum d L
    have F2 := fun (h : 0 ≤ d) => ch_pos (L := L) h
    have F3 := fun (h : 0 ≤ d) => ch_up (L := L) h
    have F4 := fun (h : 0 ≤ d) (h2 : L ≤ 24) => ch_long h g3 h2
    go_wp2_with fail
    refine (wcI d L _ (T.out _ hb2) G.out).mono ?_
    rintro e w3 ⟨rfl, hb3⟩
    have q3 := hb2.trans (hb3.mono hb2.size)
    go_wp2_with fail
    refine (wcS d L _ G.out).mono ?_
    rintro e w4 ⟨rfl, hb4⟩
    have q4 := q3.trans (hb4.mono q3.size)
    go_wp2_with fail
    refine (wcI (-d) L _ (T.out _ q4) ⟨⟨by omega, by omega⟩, g3, g4⟩).mono ?_
    rintro e w5 ⟨rfl, hb5⟩
    have q5 := q4.trans (hb5.mono q4.size)
    generalize ch (-d) L = q at *
    generalize ch d L = p at *
    have e1 : (p + q != 1000) = false := by simp [F1]
    have S1 := Lib.hid F1
    clear hb2 hb3 hb4 hb5 q3 q4
    by_cases hn : d < 0
    · clear F2 F3 F4
      have hx : decide (0 < d) = false := decide_eq_false (by omega)
      go_wp2_with fail
      go_ret
      exact ⟨rfl, q5⟩
    · have hx0 : decide (d < 0) = false := decide_eq_false hn
      replace hn := Int.not_lt.1 hn
      by_cases hpos : 0 < d
      · have hp := (F2 hn).1
        have hx1 : decide (p < 500) = false := decide_eq_false (by omega)
        by_cases k1 : 1000000 ≤ d
        · clear F2 F3 F4
          go_wp2_with fail
          go_ret
          exact ⟨rfl, q5⟩
        · have hd1 : decide (1000000 ≤ d) = false := decide_eq_false k1
          replace k1 := Int.not_le.1 k1
          by_cases k2 : 25 ≤ L
          · clear F2 F3 F4
            go_wp2_with fail
            go_ret
            exact ⟨rfl, q5⟩
          · have hd2 : decide (25 ≤ L) = false := decide_eq_false k2
            replace k2 := Int.not_le.1 k2
            have U1 := F3 (by omega)
            have U2 := F4 (by omega) (by omega)
            have U3 := fac_lt g3 (show L ≤ 24 by omega)
            clear F2 F3 F4
            go_wp2_with fail
            refine (wcI (d + 1) L _ (T.out _ q5) ⟨⟨by omega, by omega⟩, g3, g4⟩).mono ?_
            rintro e w6 ⟨rfl, hb6⟩
            have q6 := q5.trans (hb6.mono q5.size)
            go_wp2_with fail
            refine (wcI d (L + 1) _ (T.out _ q6) ⟨⟨g1, g2⟩, by omega, by omega⟩).mono ?_
            rintro e w7 ⟨rfl, hb7⟩
            have q7 := q6.trans (hb7.mono q6.size)
            generalize ch (d + 1) L = p1 at *
            generalize ch d (L + 1) = p2 at *
            have C1 := Lib.hid (fun w0 => lfI L w0 g3 g4)
            have C2 := Lib.hid (fun w0 => lfI (L + 1) w0 (by omega) (by omega))
            generalize fac L = f0 at *
            generalize fac (L + 1) = f1 at *
            clear q5 q6 hb6 hb7
            go_wp2_with (first | (go_at_call 16; refine (C2.out _).mono ?_; rintro e w8 ⟨rfl, rfl⟩) | (go_at_call 16; refine (C1.out _).mono ?_; rintro e w8 ⟨rfl, rfl⟩))
            go_ret
            exact ⟨rfl, q7⟩
      · have hx1 : decide (0 < d) = false := decide_eq_false hpos
        replace hpos := Int.not_lt.1 hpos
        by_cases k1 : 1000000 ≤ d
        · clear F2 F3 F4
          go_wp2_with fail
          go_ret
          exact ⟨rfl, q5⟩
        · have hd1 : decide (1000000 ≤ d) = false := decide_eq_false k1
          replace k1 := Int.not_le.1 k1
          by_cases k2 : 25 ≤ L
          · clear F2 F3 F4
            go_wp2_with fail
            go_ret
            exact ⟨rfl, q5⟩
          · have hd2 : decide (25 ≤ L) = false := decide_eq_false k2
            replace k2 := Int.not_le.1 k2
            have U1 := F3 (by omega)
            have U2 := F4 (by omega) (by omega)
            have U3 := fac_lt g3 (show L ≤ 24 by omega)
            clear F2 F3 F4
            go_wp2_with fail
            refine (wcI (d + 1) L _ (T.out _ q5) ⟨⟨by omega, by omega⟩, g3, g4⟩).mono ?_
            rintro e w6 ⟨rfl, hb6⟩
            have q6 := q5.trans (hb6.mono q5.size)
            go_wp2_with fail
            refine (wcI d (L + 1) _ (T.out _ q6) ⟨⟨g1, g2⟩, by omega, by omega⟩).mono ?_
            rintro e w7 ⟨rfl, hb7⟩
            have q7 := q6.trans (hb7.mono q6.size)
            generalize ch (d + 1) L = p1 at *
            generalize ch d (L + 1) = p2 at *
            have C1 := Lib.hid (fun w0 => lfI L w0 g3 g4)
            have C2 := Lib.hid (fun w0 => lfI (L + 1) w0 (by omega) (by omega))
            generalize fac L = f0 at *
            generalize fac (L + 1) = f1 at *
            clear q5 q6 hb6 hb7
            go_wp2_with (first | (go_at_call 16; refine (C2.out _).mono ?_; rintro e w8 ⟨rfl, rfl⟩) | (go_at_call 16; refine (C1.out _).mono ?_; rintro e w8 ⟨rfl, rfl⟩))
            go_ret
            exact ⟨rfl, q7⟩
  · have G := Lib.hid g
    clear g
    go_wp2_with fail
    refine (wcIn d L _ (T.out _ hb2) G.out).mono ?_
    rintro e w3 ⟨rfl, hb3⟩
    have q3 := hb2.trans (hb3.mono hb2.size)
    go_wp2_with fail
    refine (wcSn d L _ G.out).mono ?_
    rintro e w4 ⟨rfl, hb4⟩
    have q4 := q3.trans (hb4.mono q3.size)
    go_wp2_with fail
    go_ret
    exact ⟨rfl, q4⟩
end Go.Proofs.YtjmckpaemmjcmaaDoor.ChanceLaw
