/-
  The law on RateAll. Conditions: none beyond the given row's.
-/
import Derived.Test.YtjmckpaemmjcmaaDoorRateAll2
import Derived.Test.YtjmckpaemmjcmaaDoorRateAll3
set_option linter.unusedVariables false
namespace Go.Proofs.YtjmckpaemmjcmaaDoor.RateLaw
open Go.ChangeShapes Go.WideShapes Go.ChangeAt Go.RowKit Base Base2 Own Rating Chance RMatch RMatch3 RatList RateAll RateAll2 RateAll3

theorem raL_len (xs : List (Int × Int)) (ms : List (Int × Int × Int)) : (raL xs ms).length ≤ 1048576 := by
  unfold raL
  split
  · rename_i h
    rw [allR_len]
    unfold okRL at h
    simp only [Bool.and_eq_true] at h
    have := of_decide_eq_true h.1
    omega
  · simp

theorem heldR (B : Nat) (A : Option Addr) (c k n : Nat) (w : World) (hn : n ≤ 1048576) (hk : k ≤ 16777216) (h : RdS w B 2 enI2 A (RtS.markL k n)) :
    Calls Tryd.prog 36 #[.slice A n c, .int .i64 k] w fun e w' => e = .returned (.int .i64 ((k + n * 2 : Nat) : Int)) ∧ w = w' := by
  go_enter Tryd.func36, Tryd.ntmps36
  go_wp2
  go_loop [1, 5] (fun q i => ∃ j : Nat, j ≤ n ∧ i = .int .i64 j ∧ q = .int .i64 ((k : Int) + (j : Int) * 2)) (fun _ i => n - (intOf i).toNat)
  case atStart => exact ⟨0, Nat.zero_le _, rfl, by go_num⟩
  case round =>
    obtain ⟨j, hj, rfl, rfl⟩ := hrel
    by_cases hlt : j < n
    · obtain ⟨b, off, x, y, rfl, hb, hx, hc, hd⟩ := rdI2_at h (by rw [RtS.markL_len]; exact hlt)
      rw [RtS.markL_at k n j hlt] at hx
      simp only [Option.some.injEq, Prod.mk.injEq] at hx
      obtain ⟨hx, hy⟩ := hx
      have hx : x = (k : Int) + (j : Int) * 2 := by omega
      have hy : y = (k : Int) + (j : Int) * 2 + 1 := by omega
      subst hx hy
      have e1 : (((k : Int) + (j : Int) * 2) != ((k : Int) + (j : Int) * 2)) = false := by simp
      have e2 : (((k : Int) + (j : Int) * 2 + 1) != ((k : Int) + (j : Int) * 2 + 1)) = false := by simp
      go_wp2
      go_round
      case rel => exact ⟨j + 1, by omega, by go_num, by go_num⟩
      case measure => simp [intOf]; omega
    · obtain rfl : j = n := by omega
      go_wp2
      go_ret
      exact ⟨by simp, rfl⟩

set_option maxHeartbeats 8000000 in
set_option maxRecDepth 100000 in
theorem rateAll (A1 : Option Addr) (c1 : Nat) (xs : List (Int × Int)) (A2 : Option Addr) (c2 : Nat) (ms : List (Int × Int × Int)) (W : World) (h1 : RdS W W.heap.size 2 enI2 A1 xs) (wf1 : ∀ x ∈ xs, WfI2 x) (h2 : RdS W W.heap.size 3 enI3 A2 ms) (wf2 : ∀ x ∈ ms, WfI3 x) (tb : ∀ i : Nat, i < 11 → W.cell? ⟨0, i, none⟩ = some (.int .i64 (tab.getD i 0))) (hz : 0 < W.heap.size) :
    Calls Tryd.prog 9 #[.slice A1 xs.length c1, .slice A2 ms.length c2] W fun e w' => e = .returned (.bool true) ∧ Below W.heap.size W w' := by
  clear wf1 wf2
  have T := Lib.hid (fun (w' : World) (hb : Below W.heap.size W w') (i : Nat) (hi : i < 11) => (hb.cell (p := ⟨0, i, none⟩) hz).trans (tb i hi))
  clear tb
  have eb : (raC xs ms != raC xs ms) = false := by simp
  have hn1 := h1.1
  have hn2 := h2.1
  by_cases g1 : xs.length ≤ 1048576
  · by_cases g2 : xs.length + ms.length ≤ 1048576
    · clear hn1 hn2
      have hlen := raL_len xs ms
      go_enter Tryd.func9, Tryd.ntmps9
      go_wp2_with fail
      refine (RtS.szS A1 xs.length c1 1048576 _ h1.1 (by decide) (by decide)).mono ?_
      rw [if_neg (by omega)]
      rintro e w' ⟨rfl, rfl⟩
      go_wp2_with fail
      refine (RmS.szS A2 ms.length c2 _ _ h2.1 (by omega) (by omega)).mono ?_
      rw [if_neg (by omega)]
      rintro e w' ⟨rfl, rfl⟩
      go_wp2_with fail
      refine (RtS.copyS W.heap.size A1 c1 xs _ (by go_size) (by omega) h1).mono ?_
      rintro e w1 ⟨P1, rfl, hb1, o1⟩
      have t1 : Below W.heap.size W w1 := Below.then_ (by go_grown) hb1 (by go_size)
      have z1 := t1.size
      have h1 := h1.below t1 (by omega)
      have h2 := h2.below t1 (by omega)
      have q1 := t1
      clear hb1 t1
      go_wp2_with fail
      refine (RmS.copyS W.heap.size A2 c2 ms _ (by go_size) (by omega) h2).mono ?_
      rintro e w2 ⟨P2, rfl, hb2, o2⟩
      have t2 : Below w1.heap.size w1 w2 := Below.then_ (by go_grown) hb2 (by go_size)
      have z2 := t2.size
      have o1 := o1.below t2 (by omega)
      have h1 := h1.below t2 (by omega)
      have h2 := h2.below t2 (by omega)
      have q2 := q1.trans (t2.mono q1.size)
      clear hb2 t2 q1
      go_wp2_with fail
      refine (raS P1 P2 _ _ _ _ xs ms _ (o1.rd enI2_len) (o2.rd enI3_len) (by go_size) (by go_size)).mono ?_
      rintro e w3 ⟨⟨vw, rfl, ow⟩, hb3⟩
      have t3 : Below w2.heap.size w2 w3 := Below.then_ (by go_grown) hb3 (by go_size)
      have z3 := t3.size
      have o1 := o1.below t3 (by omega)
      have o2 := o2.below t3 (by omega)
      have h1 := h1.below t3 (by omega)
      have h2 := h2.below t3 (by omega)
      have q3 := q2.trans (t3.mono q2.size)
      clear hb3 t3 q2
      obtain ⟨Aw, cw, rfl, _⟩ := ow.form enI2_len
      go_wp2_with fail
      refine (RtS.copyS W.heap.size A1 c1 xs _ (by go_size) (by omega) h1).mono ?_
      rintro e w4 ⟨Q1, rfl, hb4, x1⟩
      have t4 : Below w3.heap.size w3 w4 := Below.then_ (by go_grown) hb4 (by go_size)
      have z4 := t4.size
      have o1 := o1.below t4 (by omega)
      have o2 := o2.below t4 (by omega)
      have ow := ow.below t4 (by omega)
      have h1 := h1.below t4 (by omega)
      have h2 := h2.below t4 (by omega)
      have q4 := q3.trans (t4.mono q3.size)
      clear hb4 t4 q3
      go_wp2_with fail
      refine (RmS.copyS W.heap.size A2 c2 ms _ (by go_size) (by omega) h2).mono ?_
      rintro e w5 ⟨Q2, rfl, hb5, x2⟩
      have t5 : Below w4.heap.size w4 w5 := Below.then_ (by go_grown) hb5 (by go_size)
      have z5 := t5.size
      have o1 := o1.below t5 (by omega)
      have o2 := o2.below t5 (by omega)
      have ow := ow.below t5 (by omega)
      have x1 := x1.below t5 (by omega)
      have h1 := h1.below t5 (by omega)
      have h2 := h2.below t5 (by omega)
      have q5 := q4.trans (t5.mono q4.size)
      clear hb5 t5 q4
      go_wp2_with fail
      refine (raI Q1 Q2 _ _ _ _ xs ms _ (x1.rd enI2_len) (x2.rd enI3_len) (by go_size) (by go_size) (T.out _ (by first | exact Below.refl _ _ | exact q5)) (by omega)).mono ?_
      rintro e w6 ⟨⟨vg, rfl, og⟩, hb6⟩
      have t6 : Below w5.heap.size w5 w6 := Below.then_ (by go_grown) hb6 (by go_size)
      have z6 := t6.size
      have o1 := o1.below t6 (by omega)
      have o2 := o2.below t6 (by omega)
      have ow := ow.below t6 (by omega)
      have x1 := x1.below t6 (by omega)
      have x2 := x2.below t6 (by omega)
      have h1 := h1.below t6 (by omega)
      have h2 := h2.below t6 (by omega)
      have q6 := q5.trans (t6.mono q5.size)
      clear hb6 t6 q5
      obtain ⟨Ag, cg, rfl, _⟩ := og.form enI2_len
      have hrow := og.block
      have hr1 := x1.block
      have hr2 := x2.block
      go_wp2_with fail
      refine (RtS.eqS _ _ Ag Aw _ _ (raL xs ms) _ (og.rd enI2_len) (ow.rd enI2_len) (by go_size) (by go_size)).mono ?_
      rintro e w7 ⟨rfl, hb7⟩
      have t7 : Below w6.heap.size w6 w7 := Below.then_ (by go_grown) hb7 (by go_size)
      have z7 := t7.size
      have o1 := o1.below t7 (by omega)
      have o2 := o2.below t7 (by omega)
      have ow := ow.below t7 (by omega)
      have x1 := x1.below t7 (by omega)
      have x2 := x2.below t7 (by omega)
      have og := og.below t7 (by omega)
      have h1 := h1.below t7 (by omega)
      have h2 := h2.below t7 (by omega)
      have q7 := q6.trans (t7.mono q6.size)
      clear hb7 t7 q6
      go_wp2_with fail
      refine (RtS.copyS W.heap.size A1 c1 xs _ (by go_size) (by omega) h1).mono ?_
      rintro e w8 ⟨R1, rfl, hb8, y1⟩
      have t8 : Below w7.heap.size w7 w8 := Below.then_ (by go_grown) hb8 (by go_size)
      have z8 := t8.size
      have o1 := o1.below t8 (by omega)
      have o2 := o2.below t8 (by omega)
      have ow := ow.below t8 (by omega)
      have x1 := x1.below t8 (by omega)
      have x2 := x2.below t8 (by omega)
      have og := og.below t8 (by omega)
      have h1 := h1.below t8 (by omega)
      have h2 := h2.below t8 (by omega)
      have q8 := q7.trans (t8.mono q7.size)
      clear hb8 t8 q7
      go_wp2_with fail
      refine (RtS.eqS _ _ Q1 R1 _ _ xs _ (x1.rd enI2_len) (y1.rd enI2_len) (by go_size) (by go_size)).mono ?_
      rintro e w9 ⟨rfl, hb9⟩
      have t9 : Below w8.heap.size w8 w9 := Below.then_ (by go_grown) hb9 (by go_size)
      have z9 := t9.size
      have o1 := o1.below t9 (by omega)
      have o2 := o2.below t9 (by omega)
      have ow := ow.below t9 (by omega)
      have x1 := x1.below t9 (by omega)
      have x2 := x2.below t9 (by omega)
      have og := og.below t9 (by omega)
      have y1 := y1.below t9 (by omega)
      have h1 := h1.below t9 (by omega)
      have h2 := h2.below t9 (by omega)
      have q9 := q8.trans (t9.mono q8.size)
      clear hb9 t9 q8
      go_wp2_with fail
      refine (RmS.copyS W.heap.size A2 c2 ms _ (by go_size) (by omega) h2).mono ?_
      rintro e w10 ⟨R2, rfl, hb10, y2⟩
      have t10 : Below w9.heap.size w9 w10 := Below.then_ (by go_grown) hb10 (by go_size)
      have z10 := t10.size
      have o1 := o1.below t10 (by omega)
      have o2 := o2.below t10 (by omega)
      have ow := ow.below t10 (by omega)
      have x1 := x1.below t10 (by omega)
      have x2 := x2.below t10 (by omega)
      have og := og.below t10 (by omega)
      have y1 := y1.below t10 (by omega)
      have h1 := h1.below t10 (by omega)
      have h2 := h2.below t10 (by omega)
      have q10 := q9.trans (t10.mono q9.size)
      clear hb10 t10 q9
      go_wp2_with fail
      refine (RmS.eqS _ _ Q2 R2 _ _ ms _ (x2.rd enI3_len) (y2.rd enI3_len) (by go_size) (by go_size)).mono ?_
      rintro e w11 ⟨rfl, hb11⟩
      have t11 : Below w10.heap.size w10 w11 := Below.then_ (by go_grown) hb11 (by go_size)
      have z11 := t11.size
      have o1 := o1.below t11 (by omega)
      have o2 := o2.below t11 (by omega)
      have ow := ow.below t11 (by omega)
      have x1 := x1.below t11 (by omega)
      have x2 := x2.below t11 (by omega)
      have og := og.below t11 (by omega)
      have y1 := y1.below t11 (by omega)
      have y2 := y2.below t11 (by omega)
      have h1 := h1.below t11 (by omega)
      have h2 := h2.below t11 (by omega)
      have q11 := q10.trans (t11.mono q10.size)
      clear hb11 t11 q10
      go_wp2_with fail
      refine (RtS.markS _ _ _ 1 xs _ (by omega) (by omega) x1).mono ?_
      rintro e w12 ⟨rfl, hb12, x1⟩
      have t12 := below_grown (w := w11) (by go_grown) hb12
      have z12 := t12.size
      have o1 := o1.grown t12 (fun g hg => by have := hr1 g hg; omega)
      have o2 := o2.grown t12 (fun g hg => by have := hr1 g hg; omega)
      have ow := ow.grown t12 (fun g hg => by have := hr1 g hg; omega)
      have x2 := x2.grown t12 (fun g hg => by have := hr1 g hg; omega)
      have og := og.grown t12 (fun g hg => by have := hr1 g hg; omega)
      have y1 := y1.grown t12 (fun g hg => by have := hr1 g hg; omega)
      have y2 := y2.grown t12 (fun g hg => by have := hr1 g hg; omega)
      have h1 := h1.grown t12 (by omega) (fun g hg => by have := hr1 g hg; omega)
      have h2 := h2.grown t12 (by omega) (fun g hg => by have := hr1 g hg; omega)
      have q12 := q11.grown t12 q11.size (fun g hg => by have := hr1 g hg; omega)
      clear hb12 t12 q11
      go_wp2_with fail
      refine (RmS.markS _ _ _ (1 + xs.length * 2) ms _ (by omega) (by omega) x2).mono ?_
      rintro e w13 ⟨rfl, hb13, x2⟩
      have t13 := below_grown (w := w12) (by go_grown) hb13
      have z13 := t13.size
      have o1 := o1.grown t13 (fun g hg => by have := hr2 g hg; omega)
      have o2 := o2.grown t13 (fun g hg => by have := hr2 g hg; omega)
      have ow := ow.grown t13 (fun g hg => by have := hr2 g hg; omega)
      have x1 := x1.grown t13 (fun g hg => by have := hr2 g hg; omega)
      have og := og.grown t13 (fun g hg => by have := hr2 g hg; omega)
      have y1 := y1.grown t13 (fun g hg => by have := hr2 g hg; omega)
      have y2 := y2.grown t13 (fun g hg => by have := hr2 g hg; omega)
      have h1 := h1.grown t13 (by omega) (fun g hg => by have := hr2 g hg; omega)
      have h2 := h2.grown t13 (by omega) (fun g hg => by have := hr2 g hg; omega)
      have q13 := q12.grown t13 q12.size (fun g hg => by have := hr2 g hg; omega)
      clear hb13 t13 q12
      have hm0 : decide (((1 + xs.length * 2 + ms.length * 3 : Nat) : Int) < 0) = false := decide_eq_false (by omega)
      go_wp2_with fail
      refine (RtS.eqS _ _ Ag Aw _ _ (raL xs ms) _ (og.rd enI2_len) (ow.rd enI2_len) (by go_size) (by go_size)).mono ?_
      rintro e w14 ⟨rfl, hb14⟩
      have t14 : Below w13.heap.size w13 w14 := Below.then_ (by go_grown) hb14 (by go_size)
      have z14 := t14.size
      have o1 := o1.below t14 (by omega)
      have o2 := o2.below t14 (by omega)
      have ow := ow.below t14 (by omega)
      have x1 := x1.below t14 (by omega)
      have x2 := x2.below t14 (by omega)
      have og := og.below t14 (by omega)
      have y1 := y1.below t14 (by omega)
      have y2 := y2.below t14 (by omega)
      have h1 := h1.below t14 (by omega)
      have h2 := h2.below t14 (by omega)
      have q14 := q13.trans (t14.mono q13.size)
      clear hb14 t14 q13
      go_wp2_with fail
      refine (RtS.markS _ _ _ 1 (raL xs ms) _ hlen (by omega) og).mono ?_
      rintro e w15 ⟨rfl, hb15, og⟩
      have t15 := below_grown (w := w14) (by go_grown) hb15
      have z15 := t15.size
      have o1 := o1.grown t15 (fun g hg => by have := hrow g hg; omega)
      have o2 := o2.grown t15 (fun g hg => by have := hrow g hg; omega)
      have ow := ow.grown t15 (fun g hg => by have := hrow g hg; omega)
      have x1 := x1.grown t15 (fun g hg => by have := hrow g hg; omega)
      have x2 := x2.grown t15 (fun g hg => by have := hrow g hg; omega)
      have y1 := y1.grown t15 (fun g hg => by have := hrow g hg; omega)
      have y2 := y2.grown t15 (fun g hg => by have := hrow g hg; omega)
      have h1 := h1.grown t15 (by omega) (fun g hg => by have := hrow g hg; omega)
      have h2 := h2.grown t15 (by omega) (fun g hg => by have := hrow g hg; omega)
      have q15 := q14.grown t15 q14.size (fun g hg => by have := hrow g hg; omega)
      clear hb15 t15 q14
      have hm1 : decide (((1 + (raL xs ms).length * 2 : Nat) : Int) < 0) = false := decide_eq_false (by omega)
      go_wp2_with fail
      refine (heldR _ Ag cg 1 (raL xs ms).length _ hlen (by omega) (og.rd enI2_len)).mono ?_
      rintro e w' ⟨rfl, rfl⟩
      go_wp2_with fail
      refine (RtS.copyS W.heap.size A1 c1 xs _ (by go_size) (by omega) h1).mono ?_
      rintro e w16 ⟨S1, rfl, hb16, u1⟩
      have t16 : Below w15.heap.size w15 w16 := Below.then_ (by go_grown) hb16 (by go_size)
      have z16 := t16.size
      have o1 := o1.below t16 (by omega)
      have o2 := o2.below t16 (by omega)
      have ow := ow.below t16 (by omega)
      have x1 := x1.below t16 (by omega)
      have x2 := x2.below t16 (by omega)
      have og := og.below t16 (by omega)
      have y1 := y1.below t16 (by omega)
      have y2 := y2.below t16 (by omega)
      have h1 := h1.below t16 (by omega)
      have h2 := h2.below t16 (by omega)
      have q16 := q15.trans (t16.mono q15.size)
      clear hb16 t16 q15
      go_wp2_with fail
      refine (RmS.copyS W.heap.size A2 c2 ms _ (by go_size) (by omega) h2).mono ?_
      rintro e w17 ⟨S2, rfl, hb17, u2⟩
      have t17 : Below w16.heap.size w16 w17 := Below.then_ (by go_grown) hb17 (by go_size)
      have z17 := t17.size
      have o1 := o1.below t17 (by omega)
      have o2 := o2.below t17 (by omega)
      have ow := ow.below t17 (by omega)
      have x1 := x1.below t17 (by omega)
      have x2 := x2.below t17 (by omega)
      have og := og.below t17 (by omega)
      have y1 := y1.below t17 (by omega)
      have y2 := y2.below t17 (by omega)
      have u1 := u1.below t17 (by omega)
      have h1 := h1.below t17 (by omega)
      have h2 := h2.below t17 (by omega)
      have q17 := q16.trans (t17.mono q16.size)
      clear hb17 t17 q16
      go_wp2_with fail
      refine (raI S1 S2 _ _ _ _ xs ms _ (u1.rd enI2_len) (u2.rd enI3_len) (by go_size) (by go_size) (T.out _ (by first | exact Below.refl _ _ | exact q17)) (by omega)).mono ?_
      rintro e w18 ⟨⟨vh, rfl, oh⟩, hb18⟩
      have t18 : Below w17.heap.size w17 w18 := Below.then_ (by go_grown) hb18 (by go_size)
      have z18 := t18.size
      have o1 := o1.below t18 (by omega)
      have o2 := o2.below t18 (by omega)
      have ow := ow.below t18 (by omega)
      have x1 := x1.below t18 (by omega)
      have x2 := x2.below t18 (by omega)
      have og := og.below t18 (by omega)
      have y1 := y1.below t18 (by omega)
      have y2 := y2.below t18 (by omega)
      have u1 := u1.below t18 (by omega)
      have u2 := u2.below t18 (by omega)
      have h1 := h1.below t18 (by omega)
      have h2 := h2.below t18 (by omega)
      have q18 := q17.trans (t18.mono q17.size)
      clear hb18 t18 q17
      obtain ⟨Ah, ch, rfl, _⟩ := oh.form enI2_len
      go_wp2_with fail
      refine (RtS.eqS _ _ Ah Aw _ _ (raL xs ms) _ (oh.rd enI2_len) (ow.rd enI2_len) (by go_size) (by go_size)).mono ?_
      rintro e w19 ⟨rfl, hb19⟩
      have t19 : Below w18.heap.size w18 w19 := Below.then_ (by go_grown) hb19 (by go_size)
      have z19 := t19.size
      have o1 := o1.below t19 (by omega)
      have o2 := o2.below t19 (by omega)
      have ow := ow.below t19 (by omega)
      have x1 := x1.below t19 (by omega)
      have x2 := x2.below t19 (by omega)
      have og := og.below t19 (by omega)
      have y1 := y1.below t19 (by omega)
      have y2 := y2.below t19 (by omega)
      have u1 := u1.below t19 (by omega)
      have u2 := u2.below t19 (by omega)
      have oh := oh.below t19 (by omega)
      have h1 := h1.below t19 (by omega)
      have h2 := h2.below t19 (by omega)
      have q19 := q18.trans (t19.mono q18.size)
      clear hb19 t19 q18
      go_wp2_with fail
      refine (heldR _ Ag cg 1 (raL xs ms).length _ hlen (by omega) (og.rd enI2_len)).mono ?_
      rintro e w' ⟨rfl, rfl⟩
      go_wp2_with fail
      go_ret
      exact ⟨rfl, q19⟩
    · go_enter Tryd.func9, Tryd.ntmps9
      go_wp2_with fail
      refine (RtS.szS A1 xs.length c1 1048576 _ h1.1 (by decide) (by decide)).mono ?_
      rw [if_neg (by omega)]
      rintro e w' ⟨rfl, rfl⟩
      go_wp2_with fail
      refine (RmS.szS A2 ms.length c2 _ _ h2.1 (by omega) (by omega)).mono ?_
      rw [if_pos (by omega)]
      rintro e w' ⟨rfl, rfl⟩
      go_wp2_with fail
      go_ret
      exact ⟨rfl, Below.refl _ _⟩
  · go_enter Tryd.func9, Tryd.ntmps9
    go_wp2_with fail
    refine (RtS.szS A1 xs.length c1 1048576 _ h1.1 (by decide) (by decide)).mono ?_
    rw [if_pos (by omega)]
    rintro e w' ⟨rfl, rfl⟩
    go_wp2_with fail
    go_ret
    exact ⟨rfl, Below.refl _ _⟩

end Go.Proofs.YtjmckpaemmjcmaaDoor.RateLaw
