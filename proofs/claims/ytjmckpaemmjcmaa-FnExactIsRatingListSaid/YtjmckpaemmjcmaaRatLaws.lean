/-
  The law on IsRatingList. Conditions: none beyond the given row's.
-/
import Derived.Test.YtjmckpaemmjcmaaRatList
set_option linter.unusedVariables false
namespace Go.Proofs.Ytjmckpaemmjcmaa.RatLaws
open Go.ChangeShapes Go.WideShapes Go.ChangeAt Go.RowKit Base Base2 Rating RatList

set_option maxHeartbeats 2000000 in
theorem isRatingList (A1 : Option Addr) (c1 : Nat) (xs : List (Int × Int)) (A2 : Option Addr) (c2 : Nat) (ms : List (Int × Int × Int)) (W : World) (h1 : RdS W W.heap.size 2 enI2 A1 xs) (wf1 : ∀ x ∈ xs, WfI2 x) (h2 : RdS W W.heap.size 3 enI3 A2 ms) (wf2 : ∀ x ∈ ms, WfI3 x) :
    Calls Try.prog 6 #[.slice A1 xs.length c1, .slice A2 ms.length c2] W fun e w' => e = .returned (.bool true) ∧ Below W.heap.size W w' := by
  have eb : (okRL xs ms != okRL xs ms) = false := by simp
  have hn1 := h1.1
  have hn2 := h2.1
  by_cases g1 : xs.length ≤ 1048576
  · by_cases g2 : xs.length + ms.length ≤ 1048576
    · clear hn1 hn2
      go_enter Try.func6, Try.ntmps6
      go_wp2_with fail
      refine (RtS.szS A1 xs.length c1 1048576 _ h1.1 (by decide) (by decide)).mono ?_
      rw [if_neg (by omega)]
      rintro e w' ⟨rfl, rfl⟩
      go_wp2_with fail
      refine (RmS.szS A2 ms.length c2 _ _ h2.1 (by omega) (by omega)).mono ?_
      rw [if_neg (by omega)]
      rintro e w' ⟨rfl, rfl⟩
      go_wp2_with fail
      refine (RtS.copyS W.heap.size A1 c1 xs _ (by go_size) (by omega) h1).mono ?_
      rintro e w1 ⟨P1, rfl, hb1, o1⟩
      have t1 : Below W.heap.size W w1 := Below.then_ (by go_grown) hb1 (by go_size)
      have z1 := t1.size
      have h1 := h1.below t1 (by omega)
      have h2 := h2.below t1 (by omega)
      have q1 := t1
      clear hb1 t1
      go_wp2_with fail
      refine (RmS.copyS W.heap.size A2 c2 ms _ (by go_size) (by omega) h2).mono ?_
      rintro e w2 ⟨P2, rfl, hb2, o2⟩
      have t2 : Below w1.heap.size w1 w2 := Below.then_ (by go_grown) hb2 (by go_size)
      have z2 := t2.size
      have o1 := o1.below t2 (by omega)
      have h1 := h1.below t2 (by omega)
      have h2 := h2.below t2 (by omega)
      have q2 := q1.trans (t2.mono q1.size)
      clear hb2 t2 q1
      go_wp2_with fail
      refine (rl_spec _ _ P1 P2 _ _ xs ms _ (o1.rd enI2_len) (o2.rd enI3_len) (by go_size) (by go_size)).mono ?_
      rintro e w3 ⟨rfl, hb3⟩
      have t3 : Below w2.heap.size w2 w3 := Below.then_ (by go_grown) hb3 (by go_size)
      have z3 := t3.size
      have o1 := o1.below t3 (by omega)
      have o2 := o2.below t3 (by omega)
      have h1 := h1.below t3 (by omega)
      have h2 := h2.below t3 (by omega)
      have q3 := q2.trans (t3.mono q2.size)
      clear hb3 t3 q2
      go_wp2_with fail
      refine (RtS.copyS W.heap.size A1 c1 xs _ (by go_size) (by omega) h1).mono ?_
      rintro e w4 ⟨Q1, rfl, hb4, x1⟩
      have t4 : Below w3.heap.size w3 w4 := Below.then_ (by go_grown) hb4 (by go_size)
      have z4 := t4.size
      have o1 := o1.below t4 (by omega)
      have o2 := o2.below t4 (by omega)
      have h1 := h1.below t4 (by omega)
      have h2 := h2.below t4 (by omega)
      have q4 := q3.trans (t4.mono q3.size)
      clear hb4 t4 q3
      go_wp2_with fail
      refine (RmS.copyS W.heap.size A2 c2 ms _ (by go_size) (by omega) h2).mono ?_
      rintro e w5 ⟨Q2, rfl, hb5, x2⟩
      have t5 : Below w4.heap.size w4 w5 := Below.then_ (by go_grown) hb5 (by go_size)
      have z5 := t5.size
      have o1 := o1.below t5 (by omega)
      have o2 := o2.below t5 (by omega)
      have x1 := x1.below t5 (by omega)
      have h1 := h1.below t5 (by omega)
      have h2 := h2.below t5 (by omega)
      have q5 := q4.trans (t5.mono q4.size)
      clear hb5 t5 q4
      go_wp2_with fail
      refine (rl_impl _ _ Q1 Q2 _ _ xs ms _ (x1.rd enI2_len) (x2.rd enI3_len) (by go_size) (by go_size)).mono ?_
      rintro e w6 ⟨rfl, hb6⟩
      have t6 : Below w5.heap.size w5 w6 := Below.then_ (by go_grown) hb6 (by go_size)
      have z6 := t6.size
      have o1 := o1.below t6 (by omega)
      have o2 := o2.below t6 (by omega)
      have x1 := x1.below t6 (by omega)
      have x2 := x2.below t6 (by omega)
      have h1 := h1.below t6 (by omega)
      have h2 := h2.below t6 (by omega)
      have q6 := q5.trans (t6.mono q5.size)
      clear hb6 t6 q5
      go_wp2_with fail
      refine (RtS.copyS W.heap.size A1 c1 xs _ (by go_size) (by omega) h1).mono ?_
      rintro e w7 ⟨R1, rfl, hb7, y1⟩
      have t7 : Below w6.heap.size w6 w7 := Below.then_ (by go_grown) hb7 (by go_size)
      have z7 := t7.size
      have o1 := o1.below t7 (by omega)
      have o2 := o2.below t7 (by omega)
      have x1 := x1.below t7 (by omega)
      have x2 := x2.below t7 (by omega)
      have h1 := h1.below t7 (by omega)
      have h2 := h2.below t7 (by omega)
      have q7 := q6.trans (t7.mono q6.size)
      clear hb7 t7 q6
      go_wp2_with fail
      refine (RtS.eqS _ _ Q1 R1 _ _ xs _ (x1.rd enI2_len) (y1.rd enI2_len) (by go_size) (by go_size)).mono ?_
      rintro e w8 ⟨rfl, hb8⟩
      have t8 : Below w7.heap.size w7 w8 := Below.then_ (by go_grown) hb8 (by go_size)
      have z8 := t8.size
      have o1 := o1.below t8 (by omega)
      have o2 := o2.below t8 (by omega)
      have x1 := x1.below t8 (by omega)
      have x2 := x2.below t8 (by omega)
      have y1 := y1.below t8 (by omega)
      have h1 := h1.below t8 (by omega)
      have h2 := h2.below t8 (by omega)
      have q8 := q7.trans (t8.mono q7.size)
      clear hb8 t8 q7
      go_wp2_with fail
      refine (RmS.copyS W.heap.size A2 c2 ms _ (by go_size) (by omega) h2).mono ?_
      rintro e w9 ⟨R2, rfl, hb9, y2⟩
      have t9 : Below w8.heap.size w8 w9 := Below.then_ (by go_grown) hb9 (by go_size)
      have z9 := t9.size
      have o1 := o1.below t9 (by omega)
      have o2 := o2.below t9 (by omega)
      have x1 := x1.below t9 (by omega)
      have x2 := x2.below t9 (by omega)
      have y1 := y1.below t9 (by omega)
      have h1 := h1.below t9 (by omega)
      have h2 := h2.below t9 (by omega)
      have q9 := q8.trans (t9.mono q8.size)
      clear hb9 t9 q8
      go_wp2_with fail
      refine (RmS.eqS _ _ Q2 R2 _ _ ms _ (x2.rd enI3_len) (y2.rd enI3_len) (by go_size) (by go_size)).mono ?_
      rintro e w10 ⟨rfl, hb10⟩
      have t10 : Below w9.heap.size w9 w10 := Below.then_ (by go_grown) hb10 (by go_size)
      have z10 := t10.size
      have o1 := o1.below t10 (by omega)
      have o2 := o2.below t10 (by omega)
      have x1 := x1.below t10 (by omega)
      have x2 := x2.below t10 (by omega)
      have y1 := y1.below t10 (by omega)
      have y2 := y2.below t10 (by omega)
      have h1 := h1.below t10 (by omega)
      have h2 := h2.below t10 (by omega)
      have q10 := q9.trans (t10.mono q9.size)
      clear hb10 t10 q9
      go_wp2_with fail
      go_ret
      exact ⟨rfl, q10⟩
    · go_enter Try.func6, Try.ntmps6
      go_wp2_with fail
      refine (RtS.szS A1 xs.length c1 1048576 _ h1.1 (by decide) (by decide)).mono ?_
      rw [if_neg (by omega)]
      rintro e w' ⟨rfl, rfl⟩
      go_wp2_with fail
      refine (RmS.szS A2 ms.length c2 _ _ h2.1 (by omega) (by omega)).mono ?_
      rw [if_pos (by omega)]
      rintro e w' ⟨rfl, rfl⟩
      go_wp2_with fail
      go_ret
      exact ⟨rfl, Below.refl _ _⟩
  · go_enter Try.func6, Try.ntmps6
    go_wp2_with fail
    refine (RtS.szS A1 xs.length c1 1048576 _ h1.1 (by decide) (by decide)).mono ?_
    rw [if_pos (by omega)]
    rintro e w' ⟨rfl, rfl⟩
    go_wp2_with fail
    go_ret
    exact ⟨rfl, Below.refl _ _⟩

end Go.Proofs.Ytjmckpaemmjcmaa.RatLaws
