/-
  The laws on the clock's rules and states. Conditions: none beyond the given rows'.
-/
import Derived.Test.YtdjopnhbcchedaaClock
set_option linter.unusedVariables false
namespace Go.Proofs.Ytdjopnhbcchedaa.ClockLaws
open Go.ChangeShapes Go.WideShapes Go.ChangeAt Go.RowKit Base Ints Clock

theorem isClockRules (r d b : Int) (W : World) (w1 : (Lit.int .i64 r).wf = true) (w2 : (Lit.int .i64 d).wf = true) (w3 : (Lit.int .i64 b).wf = true) :
    Calls Try.prog 3 #[.agg #[.int .i64 r, .int .i64 d, .int .i64 b]] W fun e w' => e = .returned (.bool true) ∧ Below W.heap.size W w' := by
  have eb : (okCR r d b != okCR r d b) = false := by simp
  go_enter Try.func3, Try.ntmps3
  go_wp2_with fail
  refine (copyCR r d b _).mono ?_
  rintro e w1 ⟨rfl, hb1⟩
  have t1 : Below W.heap.size W w1 := Below.then_ (by go_grown) hb1 (by go_size)
  have z1 := t1.size
  have r_a := RowB.below (RowB.new _ _ _) hb1 (by go_size)
  have l_a := r_a.lt
  have q1 := t1
  clear hb1 t1
  obtain ⟨p_a0, p_a1, p_a2⟩ := r_a.c3
  go_wp2_with fail
  clear p_a0 p_a1 p_a2
  refine (isCR_spec r d b _).mono ?_
  rintro e w2 ⟨rfl, hb2⟩
  have t2 : Below w1.heap.size w1 w2 := Below.then_ (by go_grown) hb2 (by go_size)
  have z2 := t2.size
  have r_a := r_a.below t2 (by omega)
  have q2 := q1.trans (t2.mono q1.size)
  clear hb2 t2 q1
  obtain ⟨p_a0, p_a1, p_a2⟩ := r_a.c3
  go_wp2_with fail
  clear p_a0 p_a1 p_a2
  refine (copyCR r d b _).mono ?_
  rintro e w3 ⟨rfl, hb3⟩
  have t3 : Below w2.heap.size w2 w3 := Below.then_ (by go_grown) hb3 (by go_size)
  have z3 := t3.size
  have r_a := r_a.below t3 (by omega)
  have q3 := q2.trans (t3.mono q2.size)
  clear hb3 t3 q2
  obtain ⟨p_a0, p_a1, p_a2⟩ := r_a.c3
  go_wp2_with fail
  clear p_a0 p_a1 p_a2
  refine (isCR_impl r d b _).mono ?_
  rintro e w4 ⟨rfl, hb4⟩
  have t4 : Below w3.heap.size w3 w4 := Below.then_ (by go_grown) hb4 (by go_size)
  have z4 := t4.size
  have r_a := r_a.below t4 (by omega)
  have q4 := q3.trans (t4.mono q3.size)
  clear hb4 t4 q3
  obtain ⟨p_a0, p_a1, p_a2⟩ := r_a.c3
  go_wp2_with fail
  go_ret
  exact ⟨rfl, q4⟩

end Go.Proofs.Ytdjopnhbcchedaa.ClockLaws
