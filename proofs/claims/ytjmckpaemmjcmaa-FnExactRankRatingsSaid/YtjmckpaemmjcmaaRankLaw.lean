/-
  The law on RankRatings. Conditions: none beyond the given row's.
-/
import Derived.Test.YtjmckpaemmjcmaaRankS
import Derived.Test.YtjmckpaemmjcmaaRatingS
set_option linter.unusedVariables false
namespace Go.Proofs.Ytjmckpaemmjcmaa.RankLaw
open Go.ChangeShapes Go.WideShapes Go.ChangeAt Go.RowKit Base Base2 Ints Own RankPlain RankC RankI RankJ RankS

theorem rkL_len (xs : List (Int × Int)) : (rkL xs).length ≤ 1048576 := by
  unfold rkL
  split
  · rw [arr_len, rank_len]; omega
  · simp

set_option maxHeartbeats 4000000 in
set_option maxRecDepth 100000 in
theorem rankRatings (A : Option Addr) (c : Nat) (xs : List (Int × Int)) (W : World) (hr : RdS W W.heap.size 2 enI2 A xs) (hw : ∀ x ∈ xs, WfI2 x) :
    Calls Try.prog 8 #[.slice A xs.length c] W fun e w' => e = .returned (.bool true) ∧ Below W.heap.size W w' := by
  clear hw
  by_cases hn : xs.length ≤ 1048576
  case neg =>
    go_enter Try.func8, Try.ntmps8
    go_wp2_with fail
    refine (RtS.szS A xs.length c 1048576 _ hr.1 (by decide) (by decide)).mono ?_
    rw [if_pos (by omega)]
    rintro e w1 ⟨rfl, rfl⟩
    go_wp2_with fail
    go_ret
    exact ⟨rfl, by go_grown⟩
  have hlen := rkL_len xs
  go_enter Try.func8, Try.ntmps8
  go_wp2_with fail
  refine (RtS.szS A xs.length c 1048576 _ hr.1 (by decide) (by decide)).mono ?_
  rw [if_neg (by omega)]
  rintro e w0 ⟨rfl, rfl⟩
  go_wp2_with fail
  refine (RtS.copyS W.heap.size A c xs _ (by go_size) hn hr).mono ?_
  rintro e w1 ⟨A1, rfl, hb1, o1⟩
  have t1 : Below W.heap.size W w1 := Below.then_ (by go_grown) hb1 (by go_size)
  have z1 := t1.size
  have hr := hr.below t1 (by omega)
  have q1 := t1
  clear hb1 t1
  go_wp2_with fail
  refine (rankS _ A1 xs.length xs _ (by go_size) (o1.rd enI2_len)).mono ?_
  rintro e w2 ⟨⟨vw, rfl, ow⟩, hb2⟩
  have t2 : Below w1.heap.size w1 w2 := Below.then_ (by go_grown) hb2 (by go_size)
  have z2 := t2.size
  have o1 := o1.below t2 (by omega)
  have hr := hr.below t2 (by omega)
  have q2 := q1.trans (t2.mono q1.size)
  clear hb2 t2 q1
  obtain ⟨Aw, cw, rfl, _⟩ := ow.form enI_len
  go_wp2_with fail
  refine (RtS.copyS W.heap.size A c xs _ (by go_size) hn hr).mono ?_
  rintro e w3 ⟨Ax, rfl, hb3, ox⟩
  have t3 : Below w2.heap.size w2 w3 := Below.then_ (by go_grown) hb3 (by go_size)
  have z3 := t3.size
  have o1 := o1.below t3 (by omega)
  have ow := ow.below t3 (by omega)
  have hr := hr.below t3 (by omega)
  have q3 := q2.trans (t3.mono q2.size)
  clear hb3 t3 q2
  go_wp2_with fail
  refine (rankI _ Ax xs.length xs _ (by go_size) (ox.rd enI2_len)).mono ?_
  rintro e w4 ⟨⟨vg, rfl, og⟩, hb4⟩
  have t4 : Below w3.heap.size w3 w4 := Below.then_ (by go_grown) hb4 (by go_size)
  have z4 := t4.size
  have o1 := o1.below t4 (by omega)
  have ow := ow.below t4 (by omega)
  have ox := ox.below t4 (by omega)
  have hr := hr.below t4 (by omega)
  have q4 := q3.trans (t4.mono q3.size)
  clear hb4 t4 q3
  obtain ⟨Ag, cg, rfl, _⟩ := og.form enI_len
  have hrx := ox.block
  have hrow := og.block
  go_wp2_with fail
  refine (eqI_b _ _ Ag Aw cg cw (rkL xs) _ (og.rd enI_len) (ow.rd enI_len)).mono ?_
  rintro e w5 ⟨rfl, hb5⟩
  have t5 : Below w4.heap.size w4 w5 := Below.then_ (by go_grown) hb5 (by go_size)
  have z5 := t5.size
  have o1 := o1.below t5 (by omega)
  have ow := ow.below t5 (by omega)
  have ox := ox.below t5 (by omega)
  have og := og.below t5 (by omega)
  have hr := hr.below t5 (by omega)
  have q5 := q4.trans (t5.mono q4.size)
  clear hb5 t5 q4
  go_wp2_with fail
  refine (RtS.copyS W.heap.size A c xs _ (by go_size) hn hr).mono ?_
  rintro e w6 ⟨A2, rfl, hb6, o2⟩
  have t6 : Below w5.heap.size w5 w6 := Below.then_ (by go_grown) hb6 (by go_size)
  have z6 := t6.size
  have o1 := o1.below t6 (by omega)
  have ow := ow.below t6 (by omega)
  have ox := ox.below t6 (by omega)
  have og := og.below t6 (by omega)
  have hr := hr.below t6 (by omega)
  have q6 := q5.trans (t6.mono q5.size)
  clear hb6 t6 q5
  go_wp2_with fail
  refine (RtS.eqS _ _ Ax A2 xs.length xs.length xs _ (ox.rd enI2_len) (o2.rd enI2_len) (by go_size) (by go_size)).mono ?_
  rintro e w7 ⟨rfl, hb7⟩
  have t7 : Below w6.heap.size w6 w7 := Below.then_ (by go_grown) hb7 (by go_size)
  have z7 := t7.size
  have o1 := o1.below t7 (by omega)
  have ow := ow.below t7 (by omega)
  have ox := ox.below t7 (by omega)
  have og := og.below t7 (by omega)
  have o2 := o2.below t7 (by omega)
  have hr := hr.below t7 (by omega)
  have q7 := q6.trans (t7.mono q6.size)
  clear hb7 t7 q6
  go_wp2_with fail
  refine (RtS.markS _ _ _ 1 xs _ hn (by omega) ox).mono ?_
  rintro e w8 ⟨rfl, hb8, ox⟩
  have t8 := below_grown (w := w7) (by go_grown) hb8
  have z8 := t8.size
  have o1 := o1.grown t8 (fun g hg => by have := hrx g hg; omega)
  have ow := ow.grown t8 (fun g hg => by have := hrx g hg; omega)
  have og := og.grown t8 (fun g hg => by have := hrx g hg; omega)
  have o2 := o2.grown t8 (fun g hg => by have := hrx g hg; omega)
  have hr := hr.grown t8 (by omega) (fun g hg => by have := hrx g hg; omega)
  have q8 := q7.grown t8 q7.size (fun g hg => by have := hrx g hg; omega)
  clear hb8 t8 q7
  have hm0 : decide (((1 + xs.length * 2 : Nat) : Int) < 0) = false := decide_eq_false (by omega)
  go_wp2_with fail
  refine (eqI_b _ _ Ag Aw cg cw (rkL xs) _ (og.rd enI_len) (ow.rd enI_len)).mono ?_
  rintro e w9 ⟨rfl, hb9⟩
  have t9 : Below w8.heap.size w8 w9 := Below.then_ (by go_grown) hb9 (by go_size)
  have z9 := t9.size
  have o1 := o1.below t9 (by omega)
  have ow := ow.below t9 (by omega)
  have ox := ox.below t9 (by omega)
  have og := og.below t9 (by omega)
  have o2 := o2.below t9 (by omega)
  have hr := hr.below t9 (by omega)
  have q9 := q8.trans (t9.mono q8.size)
  clear hb9 t9 q8
  go_wp2_with fail
  refine (markI _ _ _ 1 (rkL xs) _ hlen (by omega) og).mono ?_
  rintro e w10 ⟨rfl, hb10, og⟩
  have t10 := below_grown (w := w9) (by go_grown) hb10
  have z10 := t10.size
  have o1 := o1.grown t10 (fun g hg => by have := hrow g hg; omega)
  have ow := ow.grown t10 (fun g hg => by have := hrow g hg; omega)
  have ox := ox.grown t10 (fun g hg => by have := hrow g hg; omega)
  have o2 := o2.grown t10 (fun g hg => by have := hrow g hg; omega)
  have hr := hr.grown t10 (by omega) (fun g hg => by have := hrow g hg; omega)
  have q10 := q9.grown t10 q9.size (fun g hg => by have := hrow g hg; omega)
  clear hb10 t10 q9
  have hm1 : decide (((1 + (rkL xs).length : Nat) : Int) < 0) = false := decide_eq_false (by omega)
  go_wp2_with fail
  refine (heldI _ Ag cg 1 (rkL xs).length _ hlen (by omega) (og.rd enI_len)).mono ?_
  rintro e w' ⟨rfl, rfl⟩
  go_wp2_with fail
  refine (RtS.copyS W.heap.size A c xs _ (by go_size) hn hr).mono ?_
  rintro e w11 ⟨A3, rfl, hb11, o3⟩
  have t11 : Below w10.heap.size w10 w11 := Below.then_ (by go_grown) hb11 (by go_size)
  have z11 := t11.size
  have o1 := o1.below t11 (by omega)
  have ow := ow.below t11 (by omega)
  have ox := ox.below t11 (by omega)
  have og := og.below t11 (by omega)
  have o2 := o2.below t11 (by omega)
  have hr := hr.below t11 (by omega)
  have q11 := q10.trans (t11.mono q10.size)
  clear hb11 t11 q10
  go_wp2_with fail
  refine (rankI _ A3 xs.length xs _ (by go_size) (o3.rd enI2_len)).mono ?_
  rintro e w12 ⟨⟨vh, rfl, oh⟩, hb12⟩
  have t12 : Below w11.heap.size w11 w12 := Below.then_ (by go_grown) hb12 (by go_size)
  have z12 := t12.size
  have o1 := o1.below t12 (by omega)
  have ow := ow.below t12 (by omega)
  have ox := ox.below t12 (by omega)
  have og := og.below t12 (by omega)
  have o2 := o2.below t12 (by omega)
  have o3 := o3.below t12 (by omega)
  have hr := hr.below t12 (by omega)
  have q12 := q11.trans (t12.mono q11.size)
  clear hb12 t12 q11
  obtain ⟨Ah, ch, rfl, _⟩ := oh.form enI_len
  go_wp2_with fail
  refine (eqI_b _ _ Ah Aw ch cw (rkL xs) _ (oh.rd enI_len) (ow.rd enI_len)).mono ?_
  rintro e w13 ⟨rfl, hb13⟩
  have t13 : Below w12.heap.size w12 w13 := Below.then_ (by go_grown) hb13 (by go_size)
  have z13 := t13.size
  have o1 := o1.below t13 (by omega)
  have ow := ow.below t13 (by omega)
  have ox := ox.below t13 (by omega)
  have og := og.below t13 (by omega)
  have o2 := o2.below t13 (by omega)
  have o3 := o3.below t13 (by omega)
  have oh := oh.below t13 (by omega)
  have hr := hr.below t13 (by omega)
  have q13 := q12.trans (t13.mono q12.size)
  clear hb13 t13 q12
  go_wp2_with fail
  refine (heldI _ Ag cg 1 (rkL xs).length _ hlen (by omega) (og.rd enI_len)).mono ?_
  rintro e w' ⟨rfl, rfl⟩
  go_wp2_with fail
  go_ret
  exact ⟨rfl, q13⟩

end Go.Proofs.Ytjmckpaemmjcmaa.RankLaw
