/-
  The law on StartClock. Conditions: none beyond the given row's.
-/
import Derived.Test.YtdjopnhbcchedaaClockStart
set_option linter.unusedVariables false
namespace Go.Proofs.Ytdjopnhbcchedaa.ClockLaws4
open Go.ChangeShapes Go.WideShapes Go.ChangeAt Go.RowKit Base Ints Clock ClockStart

set_option maxHeartbeats 2000000 in
theorem startClock (r d b : Int) (turn time : Int) (W : World) (w1 : (Lit.int .i64 r).wf = true) (w2 : (Lit.int .i64 d).wf = true) (w3 : (Lit.int .i64 b).wf = true) (w4 : (Lit.int .i64 turn).wf = true) (w5 : (Lit.int .i64 time).wf = true) :
    Calls Try.prog 4 #[.agg #[.int .i64 r, .int .i64 d, .int .i64 b], .int .i64 turn, .int .i64 time] W fun e w' => e = .returned (.bool true) ∧ Below W.heap.size W w' := by
  rcases hst : stR r d b turn time with ⟨gs, tu, si, us, ru, fa, co⟩
  have hlen := stR_len hst
  have HS := Lib.hid hst; clear hst
  have ec : (co != co) = false := by simp
  go_enter Try.func4, Try.ntmps4
  go_wp2_with fail
  refine (copyCR r d b _).mono ?_
  rintro e w1 ⟨rfl, hb1⟩
  have t1 : Below W.heap.size W w1 := Below.then_ (by go_grown) hb1 (by go_size)
  have z1 := t1.size
  have r_a := RowB.below (RowB.new _ _ _) hb1 (by go_size)
  have l_a := r_a.lt
  have q1 := t1
  clear hb1 t1
  obtain ⟨p_a0, p_a1, p_a2⟩ := r_a.c3
  go_wp2_with fail
  clear p_a0 p_a1 p_a2
  refine (st_spec r d b turn time _ gs tu si us ru fa co HS.out).mono ?_
  rintro e w2 ⟨Aw, cw, rfl, hb2, ow⟩
  have t2 : Below w1.heap.size w1 w2 := Below.then_ (by go_grown) hb2 (by go_size)
  have z2 := t2.size
  have r_a := r_a.below t2 (by omega)
  have l_a := r_a.lt
  have q2 := q1.trans (t2.mono q1.size)
  clear hb2 t2 q1
  obtain ⟨p_a0, p_a1, p_a2⟩ := r_a.c3
  go_wp2_with fail
  clear p_a0 p_a1 p_a2
  refine (copyCR r d b _).mono ?_
  rintro e w3 ⟨rfl, hb3⟩
  have t3 : Below w2.heap.size w2 w3 := Below.then_ (by go_grown) hb3 (by go_size)
  have z3 := t3.size
  have r_w := RowB.below (RowB.new _ _ _) hb3 (by go_size)
  have l_w := r_w.lt
  have r_a := r_a.below t3 (by omega)
  have l_a := r_a.lt
  have ow := ow.below t3 (by omega)
  have q3 := q2.trans (t3.mono q2.size)
  clear hb3 t3 q2
  obtain ⟨p_a0, p_a1, p_a2⟩ := r_a.c3
  obtain ⟨p_w0, p_w1, p_w2, p_w3, p_w4, p_w5⟩ := r_w.c6
  go_wp2_with fail
  clear p_a0 p_a1 p_a2 p_w0 p_w1 p_w2 p_w3 p_w4 p_w5
  refine (st_impl r d b turn time _ gs tu si us ru fa co HS.out).mono ?_
  rintro e w4 ⟨Ag, cg, rfl, hb4, og⟩
  have t4 : Below w3.heap.size w3 w4 := Below.then_ (by go_grown) hb4 (by go_size)
  have z4 := t4.size
  have r_a := r_a.below t4 (by omega)
  have l_a := r_a.lt
  have r_w := r_w.below t4 (by omega)
  have l_w := r_w.lt
  have ow := ow.below t4 (by omega)
  have q4 := q3.trans (t4.mono q3.size)
  clear hb4 t4 q3
  obtain ⟨p_a0, p_a1, p_a2⟩ := r_a.c3
  obtain ⟨p_w0, p_w1, p_w2, p_w3, p_w4, p_w5⟩ := r_w.c6
  go_wp2_with fail
  clear p_a0 p_a1 p_a2 p_w0 p_w1 p_w2 p_w3 p_w4 p_w5
  refine (CS.eq tu si us ru fa Ag Aw cg cw _ _ gs _ (by exact (og.alloc _).rd enI_len) (by exact (ow.alloc _).rd enI_len) (by go_size) (by go_size)).mono ?_
  rintro e w5 ⟨rfl, hb5⟩
  have t5 : Below w4.heap.size w4 w5 := Below.then_ (by go_grown) hb5 (by go_size)
  have z5 := t5.size
  have r_g := RowB.below (RowB.new _ _ _) hb5 (by go_size)
  have l_g := r_g.lt
  have r_a := r_a.below t5 (by omega)
  have l_a := r_a.lt
  have r_w := r_w.below t5 (by omega)
  have l_w := r_w.lt
  have ow := ow.below t5 (by omega)
  have og := og.below t5 (by omega)
  have q5 := q4.trans (t5.mono q4.size)
  clear hb5 t5 q4
  obtain ⟨p_a0, p_a1, p_a2⟩ := r_a.c3
  obtain ⟨p_w0, p_w1, p_w2, p_w3, p_w4, p_w5⟩ := r_w.c6
  obtain ⟨p_g0, p_g1, p_g2, p_g3, p_g4, p_g5⟩ := r_g.c6
  have hrow := og.block
  go_wp2_with fail
  clear p_a0 p_a1 p_a2 p_w0 p_w1 p_w2 p_w3 p_w4 p_w5 p_g0 p_g1 p_g2 p_g3 p_g4 p_g5
  refine (CS.mark tu si us ru fa w3.heap.size w4.heap.size cg gs.length Ag 1 gs _ (by omega) (by omega) rfl (by exact og) (by go_size)).mono ?_
  rintro e w6 ⟨rfl, hb6, og⟩
  have t6 := below_grown (w := w5) (by go_grown) hb6
  have z6 := t6.size
  have r_a := r_a.grown t6 (fun g hg => by have := hrow g hg; omega)
  have l_a := r_a.lt
  have r_w := r_w.grown t6 (fun g hg => by have := hrow g hg; omega)
  have l_w := r_w.lt
  have r_g := r_g.grown t6 (fun g hg => by have := hrow g hg; omega)
  have l_g := r_g.lt
  have ow := ow.grown t6 (fun g hg => by have := hrow g hg; omega)
  have q6 := q5.grown t6 q5.size (fun g hg => by have := hrow g hg; omega)
  clear hb6 t6 q5
  obtain ⟨p_a0, p_a1, p_a2⟩ := r_a.c3
  obtain ⟨p_w0, p_w1, p_w2, p_w3, p_w4, p_w5⟩ := r_w.c6
  obtain ⟨p_g0, p_g1, p_g2, p_g3, p_g4, p_g5⟩ := r_g.c6
  go_wp2_with fail
  clear p_a0 p_a1 p_a2 p_w0 p_w1 p_w2 p_w3 p_w4 p_w5 p_g0 p_g1 p_g2 p_g3 p_g4 p_g5
  refine (CS.held tu si us ru fa w4.heap.size gs.length Ag cg 1 _ (by go_size) (by omega) (by omega) (by exact og.rd enI_len)).mono ?_
  rintro e w7 ⟨rfl, hb7⟩
  have t7 : Below w6.heap.size w6 w7 := Below.then_ (by go_grown) hb7 (by go_size)
  have z7 := t7.size
  have r_a := r_a.below t7 (by omega)
  have l_a := r_a.lt
  have r_w := r_w.below t7 (by omega)
  have l_w := r_w.lt
  have r_g := r_g.below t7 (by omega)
  have l_g := r_g.lt
  have ow := ow.below t7 (by omega)
  have og := og.below t7 (by omega)
  have q7 := q6.trans (t7.mono q6.size)
  clear hb7 t7 q6
  obtain ⟨p_a0, p_a1, p_a2⟩ := r_a.c3
  obtain ⟨p_w0, p_w1, p_w2, p_w3, p_w4, p_w5⟩ := r_w.c6
  obtain ⟨p_g0, p_g1, p_g2, p_g3, p_g4, p_g5⟩ := r_g.c6
  go_wp2_with fail
  clear p_a0 p_a1 p_a2 p_w0 p_w1 p_w2 p_w3 p_w4 p_w5 p_g0 p_g1 p_g2 p_g3 p_g4 p_g5
  refine (copyCR r d b _).mono ?_
  rintro e w8 ⟨rfl, hb8⟩
  have t8 : Below w7.heap.size w7 w8 := Below.then_ (by go_grown) hb8 (by go_size)
  have z8 := t8.size
  have r_a := r_a.below t8 (by omega)
  have l_a := r_a.lt
  have r_w := r_w.below t8 (by omega)
  have l_w := r_w.lt
  have r_g := r_g.below t8 (by omega)
  have l_g := r_g.lt
  have ow := ow.below t8 (by omega)
  have og := og.below t8 (by omega)
  have q8 := q7.trans (t8.mono q7.size)
  clear hb8 t8 q7
  obtain ⟨p_a0, p_a1, p_a2⟩ := r_a.c3
  obtain ⟨p_w0, p_w1, p_w2, p_w3, p_w4, p_w5⟩ := r_w.c6
  obtain ⟨p_g0, p_g1, p_g2, p_g3, p_g4, p_g5⟩ := r_g.c6
  go_wp2_with fail
  clear p_a0 p_a1 p_a2 p_w0 p_w1 p_w2 p_w3 p_w4 p_w5 p_g0 p_g1 p_g2 p_g3 p_g4 p_g5
  refine (st_impl r d b turn time _ gs tu si us ru fa co HS.out).mono ?_
  rintro e w9 ⟨Ah, ch, rfl, hb9, oh⟩
  have t9 : Below w8.heap.size w8 w9 := Below.then_ (by go_grown) hb9 (by go_size)
  have z9 := t9.size
  have r_a := r_a.below t9 (by omega)
  have l_a := r_a.lt
  have r_w := r_w.below t9 (by omega)
  have l_w := r_w.lt
  have r_g := r_g.below t9 (by omega)
  have l_g := r_g.lt
  have ow := ow.below t9 (by omega)
  have og := og.below t9 (by omega)
  have q9 := q8.trans (t9.mono q8.size)
  clear hb9 t9 q8
  obtain ⟨p_a0, p_a1, p_a2⟩ := r_a.c3
  obtain ⟨p_w0, p_w1, p_w2, p_w3, p_w4, p_w5⟩ := r_w.c6
  obtain ⟨p_g0, p_g1, p_g2, p_g3, p_g4, p_g5⟩ := r_g.c6
  go_wp2_with fail
  clear p_a0 p_a1 p_a2 p_w0 p_w1 p_w2 p_w3 p_w4 p_w5 p_g0 p_g1 p_g2 p_g3 p_g4 p_g5
  refine (CS.eq tu si us ru fa Ah Aw ch cw _ _ gs _ (by exact (oh.alloc _).rd enI_len) (by exact (ow.alloc _).rd enI_len) (by go_size) (by go_size)).mono ?_
  rintro e w10 ⟨rfl, hb10⟩
  have t10 : Below w9.heap.size w9 w10 := Below.then_ (by go_grown) hb10 (by go_size)
  have z10 := t10.size
  have r_h := RowB.below (RowB.new _ _ _) hb10 (by go_size)
  have l_h := r_h.lt
  have r_a := r_a.below t10 (by omega)
  have l_a := r_a.lt
  have r_w := r_w.below t10 (by omega)
  have l_w := r_w.lt
  have r_g := r_g.below t10 (by omega)
  have l_g := r_g.lt
  have ow := ow.below t10 (by omega)
  have og := og.below t10 (by omega)
  have oh := oh.below t10 (by omega)
  have q10 := q9.trans (t10.mono q9.size)
  clear hb10 t10 q9
  obtain ⟨p_a0, p_a1, p_a2⟩ := r_a.c3
  obtain ⟨p_w0, p_w1, p_w2, p_w3, p_w4, p_w5⟩ := r_w.c6
  obtain ⟨p_g0, p_g1, p_g2, p_g3, p_g4, p_g5⟩ := r_g.c6
  obtain ⟨p_h0, p_h1, p_h2, p_h3, p_h4, p_h5⟩ := r_h.c6
  go_wp2_with fail
  clear p_a0 p_a1 p_a2 p_w0 p_w1 p_w2 p_w3 p_w4 p_w5 p_g0 p_g1 p_g2 p_g3 p_g4 p_g5 p_h0 p_h1 p_h2 p_h3 p_h4 p_h5
  refine (CS.held tu si us ru fa w4.heap.size gs.length Ag cg 1 _ (by go_size) (by omega) (by omega) (by exact og.rd enI_len)).mono ?_
  rintro e w11 ⟨rfl, hb11⟩
  have t11 : Below w10.heap.size w10 w11 := Below.then_ (by go_grown) hb11 (by go_size)
  have z11 := t11.size
  have r_a := r_a.below t11 (by omega)
  have l_a := r_a.lt
  have r_w := r_w.below t11 (by omega)
  have l_w := r_w.lt
  have r_g := r_g.below t11 (by omega)
  have l_g := r_g.lt
  have r_h := r_h.below t11 (by omega)
  have l_h := r_h.lt
  have ow := ow.below t11 (by omega)
  have og := og.below t11 (by omega)
  have oh := oh.below t11 (by omega)
  have q11 := q10.trans (t11.mono q10.size)
  clear hb11 t11 q10
  obtain ⟨p_a0, p_a1, p_a2⟩ := r_a.c3
  obtain ⟨p_w0, p_w1, p_w2, p_w3, p_w4, p_w5⟩ := r_w.c6
  obtain ⟨p_g0, p_g1, p_g2, p_g3, p_g4, p_g5⟩ := r_g.c6
  obtain ⟨p_h0, p_h1, p_h2, p_h3, p_h4, p_h5⟩ := r_h.c6
  go_wp2_with fail
  go_ret
  exact ⟨rfl, q11⟩

end Go.Proofs.Ytdjopnhbcchedaa.ClockLaws4
