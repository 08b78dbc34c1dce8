/-
  The law on RunClock. Conditions: none beyond the given row's.
-/
import Derived.Test.YtdjopnhbcchedaaClockRun
import Derived.Test.YtdjopnhbcchedaaClockEvS
set_option linter.unusedVariables false
namespace Go.Proofs.Ytdjopnhbcchedaa.ClockLaws6
open Go.ChangeShapes Go.WideShapes Go.ChangeAt Go.RowKit Base Base2 Ints Clock ClockStart ClockA ClockRun

theorem ap_len2 {r d b : Int} {xs : List Int} {turn since used : Int} {run : Bool} {fallen kind time : Int} {gs : List Int} {tu si us : Int} {ru : Bool} {fa co : Int} (h : apR r d b xs turn since used run fallen kind time = (gs, tu, si, us, ru, fa, co)) (hx : xs.length ≤ 2) : gs.length ≤ 2 := by
  unfold apR at h
  split at h
  · split at h
    · split at h
      · split at h
        · simp only [Prod.mk.injEq] at h; rw [← h.1, List.length_set]; exact hx
        · split at h
          · simp only [Prod.mk.injEq] at h; rw [← h.1, List.length_set]; exact hx
          · split at h
            · simp only [Prod.mk.injEq] at h; rw [← h.1]; exact hx
            · simp only [Prod.mk.injEq] at h; rw [← h.1]; exact hx
      · simp only [Prod.mk.injEq] at h; rw [← h.1]; simp
    · simp only [Prod.mk.injEq] at h; rw [← h.1]; simp
  · simp only [Prod.mk.injEq] at h; rw [← h.1]; simp
theorem rcGo_len {r d b : Int} : ∀ (evs : List (Int × Int)) (k : Nat) (s : List Int × Int × Int × Int × Bool × Int), s.1.length ≤ 2 → (rcGo r d b evs k s).1.1.length ≤ 2 := by
  intro evs
  induction evs with
  | nil => intro k s h; exact h
  | cons ev es ih =>
    intro k s h
    unfold rcGo
    rcases hap : apR r d b s.1 s.2.1 s.2.2.1 s.2.2.2.1 s.2.2.2.2.1 s.2.2.2.2.2 ev.1 ev.2 with ⟨gs, tu, si, us, ru, fa, co⟩
    have hl := ap_len2 hap h
    simp only
    split
    · exact ih _ _ hl
    · exact h
theorem rcR_len {r d b turn time : Int} {evs : List (Int × Int)} {gs : List Int} {tu si us : Int} {ru : Bool} {fa nn co : Int} (h : rcR r d b turn time evs = ((gs, tu, si, us, ru, fa), nn, co)) : gs.length ≤ 2 := by
  unfold rcR at h
  rcases hst : stR r d b turn time with ⟨g0, t0, s0, u0, r0, f0, c0⟩
  have hl := stR_len hst
  rw [hst] at h
  simp only at h
  split at h
  · split at h
    · have := rcGo_len (r := r) (d := d) (b := b) evs 0 (g0, t0, s0, u0, r0, f0) hl
      rw [h] at this
      exact this
    · simp only [Prod.mk.injEq] at h; rw [← h.1.1]; simp
  · simp only [Prod.mk.injEq] at h; rw [← h.1.1]; simp

set_option maxHeartbeats 8000000 in
set_option maxRecDepth 100000 in
theorem runClock (r d b : Int) (turn time : Int) (Ae : Option Addr) (ce : Nat) (evs : List (Int × Int)) (W : World) (w1 : (Lit.int .i64 r).wf = true) (w2 : (Lit.int .i64 d).wf = true) (w3 : (Lit.int .i64 b).wf = true) (w4 : (Lit.int .i64 turn).wf = true) (w5 : (Lit.int .i64 time).wf = true) (hr : RdS W W.heap.size 2 enI2 Ae evs) (hw : ∀ x ∈ evs, WfI2 x) :
    Calls Try.prog 12 #[.agg #[.int .i64 r, .int .i64 d, .int .i64 b], .int .i64 turn, .int .i64 time, .slice Ae evs.length ce] W fun e w' => e = .returned (.bool true) ∧ Below W.heap.size W w' := by
  clear w1 w2 w3 w4 w5 hw
  by_cases hn : evs.length ≤ 1048576
  case neg =>
    go_enter Try.func12, Try.ntmps12
    go_wp2_with fail
    refine (CeS.szS Ae evs.length ce 1048576 _ hr.1 (by decide) (by decide)).mono ?_
    rw [if_pos (by omega)]
    rintro e w1 ⟨rfl, rfl⟩
    go_wp2_with fail
    go_ret
    exact ⟨rfl, by go_grown⟩
  rcases hst : rcR r d b turn time evs with ⟨⟨gs, tu, si, us, ru, fa⟩, nn, co⟩
  have hlen := rcR_len hst
  have HS := Lib.hid hst; clear hst
  have ec : (co != co) = false := by simp
  have en : (nn != nn) = false := by simp
  go_enter Try.func12, Try.ntmps12
  go_wp2_with fail
  refine (CeS.szS Ae evs.length ce 1048576 _ hr.1 (by decide) (by decide)).mono ?_
  rw [if_neg (by omega)]
  rintro e w0 ⟨rfl, rfl⟩
  go_wp2_with fail
  refine (copyCR r d b _).mono ?_
  rintro e w1 ⟨rfl, hb1⟩
  have t1 : Below W.heap.size W w1 := Below.then_ (by go_grown) hb1 (by go_size)
  have z1 := t1.size
  have r_a := RowB.below (RowB.new _ _ _) hb1 (by go_size)
  have l_a := r_a.lt
  have hr := hr.below t1 (by omega)
  have q1 := t1
  clear hb1 t1
  obtain ⟨p_a0, p_a1, p_a2⟩ := r_a.c3
  go_wp2_with fail
  clear p_a0 p_a1 p_a2
  refine (CeS.copyS W.heap.size Ae ce evs _ (by go_size) hn hr).mono ?_
  rintro e w2 ⟨A1, rfl, hb2, o1⟩
  have t2 : Below w1.heap.size w1 w2 := Below.then_ (by go_grown) hb2 (by go_size)
  have z2 := t2.size
  have r_a := r_a.below t2 (by omega)
  have l_a := r_a.lt
  have hr := hr.below t2 (by omega)
  have q2 := q1.trans (t2.mono q1.size)
  clear hb2 t2 q1
  obtain ⟨p_a0, p_a1, p_a2⟩ := r_a.c3
  go_wp2_with fail
  clear p_a0 p_a1 p_a2
  refine (rc_spec r d b turn time A1 evs.length _ evs _ gs tu si us ru fa nn co (by go_size) (o1.rd enI2_len) HS.out).mono ?_
  rintro e w3 ⟨Aw, cw, rfl, hb3, ow⟩
  have t3 : Below w2.heap.size w2 w3 := Below.then_ (by go_grown) hb3 (by go_size)
  have z3 := t3.size
  have r_a := r_a.below t3 (by omega)
  have l_a := r_a.lt
  have o1 := o1.below t3 (by omega)
  have hr := hr.below t3 (by omega)
  have q3 := q2.trans (t3.mono q2.size)
  clear hb3 t3 q2
  obtain ⟨p_a0, p_a1, p_a2⟩ := r_a.c3
  go_wp2_with fail
  clear p_a0 p_a1 p_a2
  refine (CeS.copyS W.heap.size Ae ce evs _ (by go_size) hn (hr.below (B' := w3.heap.size) (by go_grown) (by go_size))).mono ?_
  rintro e w4 ⟨Ax, rfl, hb4, ox⟩
  have t4 : Below w3.heap.size w3 w4 := Below.then_ (by go_grown) hb4 (by go_size)
  have z4 := t4.size
  have r_w := RowB.below (RowB.new _ _ _) hb4 (by go_size)
  have l_w := r_w.lt
  have r_a := r_a.below t4 (by omega)
  have l_a := r_a.lt
  have o1 := o1.below t4 (by omega)
  have ow := ow.below t4 (by omega)
  have hr := hr.below t4 (by omega)
  have q4 := q3.trans (t4.mono q3.size)
  clear hb4 t4 q3
  obtain ⟨p_a0, p_a1, p_a2⟩ := r_a.c3
  obtain ⟨p_w0, p_w1, p_w2, p_w3, p_w4, p_w5⟩ := r_w.c6
  have ox := OwnS.less (lo' := w3.heap.size + 1) ox (by go_size)
  go_wp2_with fail
  clear p_a0 p_a1 p_a2 p_w0 p_w1 p_w2 p_w3 p_w4 p_w5
  refine (copyCR r d b _).mono ?_
  rintro e w5 ⟨rfl, hb5⟩
  have t5 : Below w4.heap.size w4 w5 := Below.then_ (by go_grown) hb5 (by go_size)
  have z5 := t5.size
  have r_a := r_a.below t5 (by omega)
  have l_a := r_a.lt
  have r_w := r_w.below t5 (by omega)
  have l_w := r_w.lt
  have o1 := o1.below t5 (by omega)
  have ow := ow.below t5 (by omega)
  have ox := ox.below t5 (by omega)
  have hr := hr.below t5 (by omega)
  have q5 := q4.trans (t5.mono q4.size)
  clear hb5 t5 q4
  obtain ⟨p_a0, p_a1, p_a2⟩ := r_a.c3
  obtain ⟨p_w0, p_w1, p_w2, p_w3, p_w4, p_w5⟩ := r_w.c6
  go_wp2_with fail
  clear p_a0 p_a1 p_a2 p_w0 p_w1 p_w2 p_w3 p_w4 p_w5
  refine (rc_impl r d b turn time Ax evs.length _ evs _ gs tu si us ru fa nn co (by go_size) (ox.rd enI2_len) HS.out).mono ?_
  rintro e w6 ⟨Ag, cg, rfl, hb6, og⟩
  have t6 : Below w5.heap.size w5 w6 := Below.then_ (by go_grown) hb6 (by go_size)
  have z6 := t6.size
  have r_a := r_a.below t6 (by omega)
  have l_a := r_a.lt
  have r_w := r_w.below t6 (by omega)
  have l_w := r_w.lt
  have o1 := o1.below t6 (by omega)
  have ow := ow.below t6 (by omega)
  have ox := ox.below t6 (by omega)
  have hr := hr.below t6 (by omega)
  have q6 := q5.trans (t6.mono q5.size)
  clear hb6 t6 q5
  obtain ⟨p_a0, p_a1, p_a2⟩ := r_a.c3
  obtain ⟨p_w0, p_w1, p_w2, p_w3, p_w4, p_w5⟩ := r_w.c6
  go_wp2_with fail
  clear p_a0 p_a1 p_a2 p_w0 p_w1 p_w2 p_w3 p_w4 p_w5
  refine (CS.eq tu si us ru fa Ag Aw cg cw _ _ gs _ (by first | exact og.rd enI_len | exact (og.alloc _).rd enI_len) (by first | exact ow.rd enI_len | exact (ow.alloc _).rd enI_len) (by go_size) (by go_size)).mono ?_
  rintro e w7 ⟨rfl, hb7⟩
  have t7 : Below w6.heap.size w6 w7 := Below.then_ (by go_grown) hb7 (by go_size)
  have z7 := t7.size
  have r_g := RowB.below (RowB.new _ _ _) hb7 (by go_size)
  have l_g := r_g.lt
  have r_a := r_a.below t7 (by omega)
  have l_a := r_a.lt
  have r_w := r_w.below t7 (by omega)
  have l_w := r_w.lt
  have o1 := o1.below t7 (by omega)
  have ow := ow.below t7 (by omega)
  have ox := ox.below t7 (by omega)
  have og := og.below t7 (by omega)
  have hr := hr.below t7 (by omega)
  have q7 := q6.trans (t7.mono q6.size)
  clear hb7 t7 q6
  obtain ⟨p_a0, p_a1, p_a2⟩ := r_a.c3
  obtain ⟨p_w0, p_w1, p_w2, p_w3, p_w4, p_w5⟩ := r_w.c6
  obtain ⟨p_g0, p_g1, p_g2, p_g3, p_g4, p_g5⟩ := r_g.c6
  have hrx := ox.block
  have hrow := og.block
  go_wp2_with fail
  clear p_a0 p_a1 p_a2 p_w0 p_w1 p_w2 p_w3 p_w4 p_w5 p_g0 p_g1 p_g2 p_g3 p_g4 p_g5
  refine (CeS.copyS W.heap.size Ae ce evs _ (by go_size) hn hr).mono ?_
  rintro e w8 ⟨A2, rfl, hb8, o2⟩
  have t8 : Below w7.heap.size w7 w8 := Below.then_ (by go_grown) hb8 (by go_size)
  have z8 := t8.size
  have r_a := r_a.below t8 (by omega)
  have l_a := r_a.lt
  have r_w := r_w.below t8 (by omega)
  have l_w := r_w.lt
  have r_g := r_g.below t8 (by omega)
  have l_g := r_g.lt
  have o1 := o1.below t8 (by omega)
  have ow := ow.below t8 (by omega)
  have ox := ox.below t8 (by omega)
  have og := og.below t8 (by omega)
  have hr := hr.below t8 (by omega)
  have q8 := q7.trans (t8.mono q7.size)
  clear hb8 t8 q7
  obtain ⟨p_a0, p_a1, p_a2⟩ := r_a.c3
  obtain ⟨p_w0, p_w1, p_w2, p_w3, p_w4, p_w5⟩ := r_w.c6
  obtain ⟨p_g0, p_g1, p_g2, p_g3, p_g4, p_g5⟩ := r_g.c6
  go_wp2_with fail
  clear p_a0 p_a1 p_a2 p_w0 p_w1 p_w2 p_w3 p_w4 p_w5 p_g0 p_g1 p_g2 p_g3 p_g4 p_g5
  refine (CeS.eqS _ _ Ax A2 evs.length evs.length evs _ (ox.rd enI2_len) (o2.rd enI2_len) (by go_size) (by go_size)).mono ?_
  rintro e w9 ⟨rfl, hb9⟩
  have t9 : Below w8.heap.size w8 w9 := Below.then_ (by go_grown) hb9 (by go_size)
  have z9 := t9.size
  have r_a := r_a.below t9 (by omega)
  have l_a := r_a.lt
  have r_w := r_w.below t9 (by omega)
  have l_w := r_w.lt
  have r_g := r_g.below t9 (by omega)
  have l_g := r_g.lt
  have o1 := o1.below t9 (by omega)
  have ow := ow.below t9 (by omega)
  have ox := ox.below t9 (by omega)
  have og := og.below t9 (by omega)
  have o2 := o2.below t9 (by omega)
  have hr := hr.below t9 (by omega)
  have q9 := q8.trans (t9.mono q8.size)
  clear hb9 t9 q8
  obtain ⟨p_a0, p_a1, p_a2⟩ := r_a.c3
  obtain ⟨p_w0, p_w1, p_w2, p_w3, p_w4, p_w5⟩ := r_w.c6
  obtain ⟨p_g0, p_g1, p_g2, p_g3, p_g4, p_g5⟩ := r_g.c6
  go_wp2_with fail
  clear p_a0 p_a1 p_a2 p_w0 p_w1 p_w2 p_w3 p_w4 p_w5 p_g0 p_g1 p_g2 p_g3 p_g4 p_g5
  refine (CeS.markS _ _ _ 1 evs _ hn (by omega) ox).mono ?_
  rintro e w10 ⟨rfl, hb10, ox⟩
  have t10 := below_grown (w := w9) (by go_grown) hb10
  have z10 := t10.size
  have r_a := r_a.grown t10 (fun g hg => by have := hrx g hg; omega)
  have l_a := r_a.lt
  have r_w := r_w.grown t10 (fun g hg => by have := hrx g hg; omega)
  have l_w := r_w.lt
  have r_g := r_g.grown t10 (fun g hg => by have := hrx g hg; omega)
  have l_g := r_g.lt
  have o1 := o1.grown t10 (fun g hg => by have := hrx g hg; omega)
  have ow := ow.grown t10 (fun g hg => by have := hrx g hg; omega)
  have og := og.grown t10 (fun g hg => by have := hrx g hg; omega)
  have o2 := o2.grown t10 (fun g hg => by have := hrx g hg; omega)
  have hr := hr.grown t10 (by omega) (fun g hg => by have := hrx g hg; omega)
  have q10 := q9.grown t10 q9.size (fun g hg => by have := hrx g hg; omega)
  clear hb10 t10 q9
  obtain ⟨p_a0, p_a1, p_a2⟩ := r_a.c3
  obtain ⟨p_w0, p_w1, p_w2, p_w3, p_w4, p_w5⟩ := r_w.c6
  obtain ⟨p_g0, p_g1, p_g2, p_g3, p_g4, p_g5⟩ := r_g.c6
  have hm0 : decide (((1 + evs.length * 2 : Nat) : Int) < 0) = false := decide_eq_false (by omega)
  go_wp2_with fail
  clear p_a0 p_a1 p_a2 p_w0 p_w1 p_w2 p_w3 p_w4 p_w5 p_g0 p_g1 p_g2 p_g3 p_g4 p_g5
  refine (CS.eq tu si us ru fa Ag Aw cg cw _ _ gs _ (by first | exact og.rd enI_len | exact (og.alloc _).rd enI_len) (by first | exact ow.rd enI_len | exact (ow.alloc _).rd enI_len) (by go_size) (by go_size)).mono ?_
  rintro e w11 ⟨rfl, hb11⟩
  have t11 : Below w10.heap.size w10 w11 := Below.then_ (by go_grown) hb11 (by go_size)
  have z11 := t11.size
  have r_a := r_a.below t11 (by omega)
  have l_a := r_a.lt
  have r_w := r_w.below t11 (by omega)
  have l_w := r_w.lt
  have r_g := r_g.below t11 (by omega)
  have l_g := r_g.lt
  have o1 := o1.below t11 (by omega)
  have ow := ow.below t11 (by omega)
  have ox := ox.below t11 (by omega)
  have og := og.below t11 (by omega)
  have o2 := o2.below t11 (by omega)
  have hr := hr.below t11 (by omega)
  have q11 := q10.trans (t11.mono q10.size)
  clear hb11 t11 q10
  obtain ⟨p_a0, p_a1, p_a2⟩ := r_a.c3
  obtain ⟨p_w0, p_w1, p_w2, p_w3, p_w4, p_w5⟩ := r_w.c6
  obtain ⟨p_g0, p_g1, p_g2, p_g3, p_g4, p_g5⟩ := r_g.c6
  go_wp2_with fail
  clear p_a0 p_a1 p_a2 p_w0 p_w1 p_w2 p_w3 p_w4 p_w5 p_g0 p_g1 p_g2 p_g3 p_g4 p_g5
  refine (CS.mark tu si us ru fa _ _ cg gs.length Ag 1 gs _ (by omega) (by omega) rfl (by exact og) (by go_size)).mono ?_
  rintro e w12 ⟨rfl, hb12, og⟩
  have t12 := below_grown (w := w11) (by go_grown) hb12
  have z12 := t12.size
  have r_a := r_a.grown t12 (fun g hg => by have := hrow g hg; omega)
  have l_a := r_a.lt
  have r_w := r_w.grown t12 (fun g hg => by have := hrow g hg; omega)
  have l_w := r_w.lt
  have r_g := r_g.grown t12 (fun g hg => by have := hrow g hg; omega)
  have l_g := r_g.lt
  have o1 := o1.grown t12 (fun g hg => by have := hrow g hg; omega)
  have ow := ow.grown t12 (fun g hg => by have := hrow g hg; omega)
  have ox := ox.grown t12 (fun g hg => by have := hrow g hg; omega)
  have o2 := o2.grown t12 (fun g hg => by have := hrow g hg; omega)
  have hr := hr.grown t12 (by omega) (fun g hg => by have := hrow g hg; omega)
  have q12 := q11.grown t12 q11.size (fun g hg => by have := hrow g hg; omega)
  clear hb12 t12 q11
  obtain ⟨p_a0, p_a1, p_a2⟩ := r_a.c3
  obtain ⟨p_w0, p_w1, p_w2, p_w3, p_w4, p_w5⟩ := r_w.c6
  obtain ⟨p_g0, p_g1, p_g2, p_g3, p_g4, p_g5⟩ := r_g.c6
  go_wp2_with fail
  clear p_a0 p_a1 p_a2 p_w0 p_w1 p_w2 p_w3 p_w4 p_w5 p_g0 p_g1 p_g2 p_g3 p_g4 p_g5
  refine (CS.held tu si us ru fa w6.heap.size gs.length Ag cg 1 _ (by go_size) (by omega) (by omega) (by exact og.rd enI_len)).mono ?_
  rintro e w13 ⟨rfl, hb13⟩
  have t13 : Below w12.heap.size w12 w13 := Below.then_ (by go_grown) hb13 (by go_size)
  have z13 := t13.size
  have r_a := r_a.below t13 (by omega)
  have l_a := r_a.lt
  have r_w := r_w.below t13 (by omega)
  have l_w := r_w.lt
  have r_g := r_g.below t13 (by omega)
  have l_g := r_g.lt
  have o1 := o1.below t13 (by omega)
  have ow := ow.below t13 (by omega)
  have ox := ox.below t13 (by omega)
  have og := og.below t13 (by omega)
  have o2 := o2.below t13 (by omega)
  have hr := hr.below t13 (by omega)
  have q13 := q12.trans (t13.mono q12.size)
  clear hb13 t13 q12
  obtain ⟨p_a0, p_a1, p_a2⟩ := r_a.c3
  obtain ⟨p_w0, p_w1, p_w2, p_w3, p_w4, p_w5⟩ := r_w.c6
  obtain ⟨p_g0, p_g1, p_g2, p_g3, p_g4, p_g5⟩ := r_g.c6
  go_wp2_with fail
  clear p_a0 p_a1 p_a2 p_w0 p_w1 p_w2 p_w3 p_w4 p_w5 p_g0 p_g1 p_g2 p_g3 p_g4 p_g5
  refine (copyCR r d b _).mono ?_
  rintro e w14 ⟨rfl, hb14⟩
  have t14 : Below w13.heap.size w13 w14 := Below.then_ (by go_grown) hb14 (by go_size)
  have z14 := t14.size
  have r_a := r_a.below t14 (by omega)
  have l_a := r_a.lt
  have r_w := r_w.below t14 (by omega)
  have l_w := r_w.lt
  have r_g := r_g.below t14 (by omega)
  have l_g := r_g.lt
  have o1 := o1.below t14 (by omega)
  have ow := ow.below t14 (by omega)
  have ox := ox.below t14 (by omega)
  have og := og.below t14 (by omega)
  have o2 := o2.below t14 (by omega)
  have hr := hr.below t14 (by omega)
  have q14 := q13.trans (t14.mono q13.size)
  clear hb14 t14 q13
  obtain ⟨p_a0, p_a1, p_a2⟩ := r_a.c3
  obtain ⟨p_w0, p_w1, p_w2, p_w3, p_w4, p_w5⟩ := r_w.c6
  obtain ⟨p_g0, p_g1, p_g2, p_g3, p_g4, p_g5⟩ := r_g.c6
  go_wp2_with fail
  clear p_a0 p_a1 p_a2 p_w0 p_w1 p_w2 p_w3 p_w4 p_w5 p_g0 p_g1 p_g2 p_g3 p_g4 p_g5
  refine (CeS.copyS W.heap.size Ae ce evs _ (by go_size) hn hr).mono ?_
  rintro e w15 ⟨A3, rfl, hb15, o3⟩
  have t15 : Below w14.heap.size w14 w15 := Below.then_ (by go_grown) hb15 (by go_size)
  have z15 := t15.size
  have r_a := r_a.below t15 (by omega)
  have l_a := r_a.lt
  have r_w := r_w.below t15 (by omega)
  have l_w := r_w.lt
  have r_g := r_g.below t15 (by omega)
  have l_g := r_g.lt
  have o1 := o1.below t15 (by omega)
  have ow := ow.below t15 (by omega)
  have ox := ox.below t15 (by omega)
  have og := og.below t15 (by omega)
  have o2 := o2.below t15 (by omega)
  have hr := hr.below t15 (by omega)
  have q15 := q14.trans (t15.mono q14.size)
  clear hb15 t15 q14
  obtain ⟨p_a0, p_a1, p_a2⟩ := r_a.c3
  obtain ⟨p_w0, p_w1, p_w2, p_w3, p_w4, p_w5⟩ := r_w.c6
  obtain ⟨p_g0, p_g1, p_g2, p_g3, p_g4, p_g5⟩ := r_g.c6
  go_wp2_with fail
  clear p_a0 p_a1 p_a2 p_w0 p_w1 p_w2 p_w3 p_w4 p_w5 p_g0 p_g1 p_g2 p_g3 p_g4 p_g5
  refine (rc_impl r d b turn time A3 evs.length _ evs _ gs tu si us ru fa nn co (by go_size) (o3.rd enI2_len) HS.out).mono ?_
  rintro e w16 ⟨Ah, ch, rfl, hb16, oh⟩
  have t16 : Below w15.heap.size w15 w16 := Below.then_ (by go_grown) hb16 (by go_size)
  have z16 := t16.size
  have r_a := r_a.below t16 (by omega)
  have l_a := r_a.lt
  have r_w := r_w.below t16 (by omega)
  have l_w := r_w.lt
  have r_g := r_g.below t16 (by omega)
  have l_g := r_g.lt
  have o1 := o1.below t16 (by omega)
  have ow := ow.below t16 (by omega)
  have ox := ox.below t16 (by omega)
  have og := og.below t16 (by omega)
  have o2 := o2.below t16 (by omega)
  have o3 := o3.below t16 (by omega)
  have hr := hr.below t16 (by omega)
  have q16 := q15.trans (t16.mono q15.size)
  clear hb16 t16 q15
  obtain ⟨p_a0, p_a1, p_a2⟩ := r_a.c3
  obtain ⟨p_w0, p_w1, p_w2, p_w3, p_w4, p_w5⟩ := r_w.c6
  obtain ⟨p_g0, p_g1, p_g2, p_g3, p_g4, p_g5⟩ := r_g.c6
  go_wp2_with fail
  clear p_a0 p_a1 p_a2 p_w0 p_w1 p_w2 p_w3 p_w4 p_w5 p_g0 p_g1 p_g2 p_g3 p_g4 p_g5
  refine (CS.eq tu si us ru fa Ah Aw ch cw _ _ gs _ (by first | exact oh.rd enI_len | exact (oh.alloc _).rd enI_len) (by first | exact ow.rd enI_len | exact (ow.alloc _).rd enI_len) (by go_size) (by go_size)).mono ?_
  rintro e w17 ⟨rfl, hb17⟩
  have t17 : Below w16.heap.size w16 w17 := Below.then_ (by go_grown) hb17 (by go_size)
  have z17 := t17.size
  have r_h := RowB.below (RowB.new _ _ _) hb17 (by go_size)
  have l_h := r_h.lt
  have r_a := r_a.below t17 (by omega)
  have l_a := r_a.lt
  have r_w := r_w.below t17 (by omega)
  have l_w := r_w.lt
  have r_g := r_g.below t17 (by omega)
  have l_g := r_g.lt
  have o1 := o1.below t17 (by omega)
  have ow := ow.below t17 (by omega)
  have ox := ox.below t17 (by omega)
  have og := og.below t17 (by omega)
  have o2 := o2.below t17 (by omega)
  have o3 := o3.below t17 (by omega)
  have oh := oh.below t17 (by omega)
  have hr := hr.below t17 (by omega)
  have q17 := q16.trans (t17.mono q16.size)
  clear hb17 t17 q16
  obtain ⟨p_a0, p_a1, p_a2⟩ := r_a.c3
  obtain ⟨p_w0, p_w1, p_w2, p_w3, p_w4, p_w5⟩ := r_w.c6
  obtain ⟨p_g0, p_g1, p_g2, p_g3, p_g4, p_g5⟩ := r_g.c6
  obtain ⟨p_h0, p_h1, p_h2, p_h3, p_h4, p_h5⟩ := r_h.c6
  go_wp2_with fail
  clear p_a0 p_a1 p_a2 p_w0 p_w1 p_w2 p_w3 p_w4 p_w5 p_g0 p_g1 p_g2 p_g3 p_g4 p_g5 p_h0 p_h1 p_h2 p_h3 p_h4 p_h5
  refine (CS.held tu si us ru fa w6.heap.size gs.length Ag cg 1 _ (by go_size) (by omega) (by omega) (by exact og.rd enI_len)).mono ?_
  rintro e w18 ⟨rfl, hb18⟩
  have t18 : Below w17.heap.size w17 w18 := Below.then_ (by go_grown) hb18 (by go_size)
  have z18 := t18.size
  have r_a := r_a.below t18 (by omega)
  have l_a := r_a.lt
  have r_w := r_w.below t18 (by omega)
  have l_w := r_w.lt
  have r_g := r_g.below t18 (by omega)
  have l_g := r_g.lt
  have r_h := r_h.below t18 (by omega)
  have l_h := r_h.lt
  have o1 := o1.below t18 (by omega)
  have ow := ow.below t18 (by omega)
  have ox := ox.below t18 (by omega)
  have og := og.below t18 (by omega)
  have o2 := o2.below t18 (by omega)
  have o3 := o3.below t18 (by omega)
  have oh := oh.below t18 (by omega)
  have hr := hr.below t18 (by omega)
  have q18 := q17.trans (t18.mono q17.size)
  clear hb18 t18 q17
  obtain ⟨p_a0, p_a1, p_a2⟩ := r_a.c3
  obtain ⟨p_w0, p_w1, p_w2, p_w3, p_w4, p_w5⟩ := r_w.c6
  obtain ⟨p_g0, p_g1, p_g2, p_g3, p_g4, p_g5⟩ := r_g.c6
  obtain ⟨p_h0, p_h1, p_h2, p_h3, p_h4, p_h5⟩ := r_h.c6
  go_wp2_with fail
  go_ret
  exact ⟨rfl, q18⟩

end Go.Proofs.Ytdjopnhbcchedaa.ClockLaws6
