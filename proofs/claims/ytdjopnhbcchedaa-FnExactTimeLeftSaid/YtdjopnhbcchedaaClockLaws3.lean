/-
  The laws on TimeLeft and FlagTime. Conditions: none beyond the given rows'.
-/
import Derived.Test.YtdjopnhbcchedaaClockT
set_option linter.unusedVariables false
namespace Go.Proofs.Ytdjopnhbcchedaa.ClockLaws3
open Go.ChangeShapes Go.WideShapes Go.ChangeAt Go.RowKit Base Ints Clock ClockT

set_option maxHeartbeats 1000000 in
theorem flagTime (r d b : Int) (A : Option Addr) (cp : Nat) (xs : List Int) (turn since used : Int) (run : Bool) (fallen : Int) (W : World) (w1 : (Lit.int .i64 r).wf = true) (w2 : (Lit.int .i64 d).wf = true) (w3 : (Lit.int .i64 b).wf = true) (hr : RdS W W.heap.size 1 enI A xs) (hw : ∀ x ∈ xs, (Lit.int .i64 x).wf = true) (w5 : (Lit.int .i64 turn).wf = true) (w6 : (Lit.int .i64 since).wf = true) (w7 : (Lit.int .i64 used).wf = true) (w9 : (Lit.int .i64 fallen).wf = true) :
    Calls Try.prog 6 #[.agg #[.int .i64 r, .int .i64 d, .int .i64 b], .agg #[.slice A xs.length cp, .int .i64 turn, .int .i64 since, .int .i64 used, .bool run, .int .i64 fallen]] W fun e w' => e = .returned (.bool true) ∧ Below W.heap.size W w' := by
  by_cases hn : xs.length ≤ 1048576
  · have eb : (flV r d b xs turn since used run fallen != flV r d b xs turn since used run fallen) = false := by simp
    have ec : (flC r d b xs turn since used run fallen != flC r d b xs turn since used run fallen) = false := by simp
    go_enter Try.func6, Try.ntmps6
    go_wp2_with fail
    refine (CS.sz turn since used run fallen A xs.length cp 1048576 _ hr.1 (by decide) (by decide)).mono ?_
    rw [if_neg (by omega)]
    rintro e w1 ⟨rfl, hb1⟩
    have t1 : Below W.heap.size W w1 := Below.then_ (by go_grown) hb1 (by go_size)
    have z1 := t1.size
    have r_a := RowB.below ((RowB.new _ _ _).alloc _) hb1 (by go_size)
    have l_a := r_a.lt
    have r_s := RowB.below (RowB.new _ _ _) hb1 (by go_size)
    simp only [World.size_alloc] at r_s
    have l_s := r_s.lt
    have hr := hr.below t1 (by omega)
    have q1 := t1
    clear hb1 t1
    obtain ⟨p_a0, p_a1, p_a2⟩ := r_a.c3
    obtain ⟨p_s0, p_s1, p_s2, p_s3, p_s4, p_s5⟩ := r_s.c6
    go_wp2_with fail
    clear p_a0 p_a1 p_a2 p_s0 p_s1 p_s2 p_s3 p_s4 p_s5
    go_region_held3 (fun w' => (w'.cell? ⟨W.heap.size, 0, none⟩ = some (.int .i64 r) ∧ w'.cell? ⟨W.heap.size, 1, none⟩ = some (.int .i64 d) ∧ w'.cell? ⟨W.heap.size, 2, none⟩ = some (.int .i64 b)) ∧ (w'.cell? ⟨(W.heap.size + 1), 0, none⟩ = some (.slice A xs.length cp) ∧ w'.cell? ⟨(W.heap.size + 1), 1, none⟩ = some (.int .i64 turn) ∧ w'.cell? ⟨(W.heap.size + 1), 2, none⟩ = some (.int .i64 since) ∧ w'.cell? ⟨(W.heap.size + 1), 3, none⟩ = some (.int .i64 used) ∧ w'.cell? ⟨(W.heap.size + 1), 4, none⟩ = some (.bool run) ∧ w'.cell? ⟨(W.heap.size + 1), 5, none⟩ = some (.int .i64 fallen))) (exact ⟨r_a.c3, r_s.c6⟩) (first | (go_at_call 14; refine (copyCR r d b _).mono ?_; rintro e w2 ⟨rfl, hb2⟩; have t2 : Below w1.heap.size w1 w2 := Below.then_ (by go_grown) hb2 (by go_size); have z2 := t2.size; have r_a := r_a.below t2 (by omega); have r_s := r_s.below t2 (by omega); have hr := hr.below t2 (by omega); have q2 := q1.trans (t2.mono q1.size)) | (go_at_call 23; refine (CS.copy turn since used run fallen A cp W.heap.size xs _ (by go_size) hn (by first | exact hr | exact hr.drew)).mono ?_; rintro e w3 ⟨A3, rfl, hb3, o3⟩; have t3 : Below w2.heap.size w2 w3 := Below.then_ (by go_grown) hb3 (by go_size); have z3 := t3.size; have r_a := r_a.below t3 (by omega); have r_s := r_s.below t3 (by omega); have hr := hr.below t3 (by omega); have q3 := q2.trans (t3.mono q2.size)) | (go_at_call 25; refine (fl_spec r d b A3 _ _ xs turn since used run fallen _ (by go_size) (o3.rd enI_len)).mono ?_; rintro e w4 ⟨rfl, hb4⟩; have t4 : Below w3.heap.size w3 w4 := Below.then_ (by go_grown) hb4 (by go_size); have z4 := t4.size; have r_a := r_a.below t4 (by omega); have r_s := r_s.below t4 (by omega); have o3 := o3.below t4 (by omega); have hr := hr.below t4 (by omega); have q4 := q3.trans (t4.mono q3.size)))
    obtain ⟨p_a0, p_a1, p_a2⟩ := r_a.c3
    obtain ⟨p_s0, p_s1, p_s2, p_s3, p_s4, p_s5⟩ := r_s.c6
    go_wp2_with fail
    clear p_a0 p_a1 p_a2 p_s0 p_s1 p_s2 p_s3 p_s4 p_s5
    refine (CS.copy turn since used run fallen A cp W.heap.size xs _ (by go_size) hn (by first | exact hr | exact hr.drew)).mono ?_
    rintro e w5 ⟨A5, rfl, hb5, o5⟩
    have t5 : Below w4.heap.size w4 w5 := Below.then_ (by go_grown) hb5 (by go_size)
    have z5 := t5.size
    have r_a := r_a.below t5 (by omega)
    have r_s := r_s.below t5 (by omega)
    have o3 := o3.below t5 (by omega)
    have hr := hr.below t5 (by omega)
    have q5 := q4.trans (t5.mono q4.size)
    clear hb5 t5 q4
    obtain ⟨p_a0, p_a1, p_a2⟩ := r_a.c3
    obtain ⟨p_s0, p_s1, p_s2, p_s3, p_s4, p_s5⟩ := r_s.c6
    go_wp2_with fail
    clear p_a0 p_a1 p_a2 p_s0 p_s1 p_s2 p_s3 p_s4 p_s5
    refine wp_gen (fun W' => Below w5.heap.size w5 W' ∧ RowB W' w5.heap.size 30 [.slice A5 xs.length xs.length, .int .i64 turn, .int .i64 since, .int .i64 used, .bool run, .int .i64 fallen]) ⟨by go_grown, RowB.new _ _ _⟩ ?_
    rintro w6 ⟨hb6, r_x⟩
    have l_x := r_x.lt
    have t6 : Below w5.heap.size w5 w6 := Below.then_ (by go_grown) hb6 (by go_size)
    have z6 := t6.size
    have r_a := r_a.below t6 (by omega)
    have r_s := r_s.below t6 (by omega)
    have o3 := o3.below t6 (by omega)
    have o5 := o5.below t6 (by omega)
    have hr := hr.below t6 (by omega)
    have q6 := q5.trans (t6.mono q5.size)
    clear hb6 t6 q5
    obtain ⟨p_a0, p_a1, p_a2⟩ := r_a.c3
    obtain ⟨p_s0, p_s1, p_s2, p_s3, p_s4, p_s5⟩ := r_s.c6
    obtain ⟨p_x0, p_x1, p_x2, p_x3, p_x4, p_x5⟩ := r_x.c6
    go_wp2_with fail
    clear p_a0 p_a1 p_a2 p_s0 p_s1 p_s2 p_s3 p_s4 p_s5 p_x0 p_x1 p_x2 p_x3 p_x4 p_x5
    go_region_held3 (fun w' => (w'.cell? ⟨W.heap.size, 0, none⟩ = some (.int .i64 r) ∧ w'.cell? ⟨W.heap.size, 1, none⟩ = some (.int .i64 d) ∧ w'.cell? ⟨W.heap.size, 2, none⟩ = some (.int .i64 b)) ∧ (w'.cell? ⟨w5.heap.size, 0, none⟩ = some (.slice A5 xs.length xs.length) ∧ w'.cell? ⟨w5.heap.size, 1, none⟩ = some (.int .i64 turn) ∧ w'.cell? ⟨w5.heap.size, 2, none⟩ = some (.int .i64 since) ∧ w'.cell? ⟨w5.heap.size, 3, none⟩ = some (.int .i64 used) ∧ w'.cell? ⟨w5.heap.size, 4, none⟩ = some (.bool run) ∧ w'.cell? ⟨w5.heap.size, 5, none⟩ = some (.int .i64 fallen))) (exact ⟨r_a.c3, r_x.c6⟩) (first | (go_at_call 14; refine (copyCR r d b _).mono ?_; rintro e w7 ⟨rfl, hb7⟩; have t7 : Below w6.heap.size w6 w7 := Below.then_ (by go_grown) hb7 (by go_size); have z7 := t7.size; have r_a := r_a.below t7 (by omega); have r_s := r_s.below t7 (by omega); have r_x := r_x.below t7 (by omega); have o3 := o3.below t7 (by omega); have o5 := o5.below t7 (by omega); have hr := hr.below t7 (by omega); have q7 := q6.trans (t7.mono q6.size)) | (go_at_call 26; refine (fl_impl r d b A5 _ _ xs turn since used run fallen _ (by go_size) (o5.rd enI_len)).mono ?_; rintro e w8 ⟨rfl, hb8⟩; have t8 : Below w7.heap.size w7 w8 := Below.then_ (by go_grown) hb8 (by go_size); have z8 := t8.size; have r_a := r_a.below t8 (by omega); have r_s := r_s.below t8 (by omega); have r_x := r_x.below t8 (by omega); have o3 := o3.below t8 (by omega); have o5 := o5.below t8 (by omega); have hr := hr.below t8 (by omega); have q8 := q7.trans (t8.mono q7.size)))
    obtain ⟨p_a0, p_a1, p_a2⟩ := r_a.c3
    obtain ⟨p_s0, p_s1, p_s2, p_s3, p_s4, p_s5⟩ := r_s.c6
    obtain ⟨p_x0, p_x1, p_x2, p_x3, p_x4, p_x5⟩ := r_x.c6
    go_wp2_with fail
    clear p_a0 p_a1 p_a2 p_s0 p_s1 p_s2 p_s3 p_s4 p_s5 p_x0 p_x1 p_x2 p_x3 p_x4 p_x5
    go_wp2_with fail
    go_region_held3 (fun w' => (w'.cell? ⟨(W.heap.size + 1), 0, none⟩ = some (.slice A xs.length cp) ∧ w'.cell? ⟨(W.heap.size + 1), 1, none⟩ = some (.int .i64 turn) ∧ w'.cell? ⟨(W.heap.size + 1), 2, none⟩ = some (.int .i64 since) ∧ w'.cell? ⟨(W.heap.size + 1), 3, none⟩ = some (.int .i64 used) ∧ w'.cell? ⟨(W.heap.size + 1), 4, none⟩ = some (.bool run) ∧ w'.cell? ⟨(W.heap.size + 1), 5, none⟩ = some (.int .i64 fallen)) ∧ (w'.cell? ⟨w5.heap.size, 0, none⟩ = some (.slice A5 xs.length xs.length) ∧ w'.cell? ⟨w5.heap.size, 1, none⟩ = some (.int .i64 turn) ∧ w'.cell? ⟨w5.heap.size, 2, none⟩ = some (.int .i64 since) ∧ w'.cell? ⟨w5.heap.size, 3, none⟩ = some (.int .i64 used) ∧ w'.cell? ⟨w5.heap.size, 4, none⟩ = some (.bool run) ∧ w'.cell? ⟨w5.heap.size, 5, none⟩ = some (.int .i64 fallen))) (exact ⟨r_s.c6, r_x.c6⟩) (first | (go_at_call 23; refine (CS.copy turn since used run fallen A cp W.heap.size xs _ (by go_size) hn (by first | exact hr | exact hr.drew)).mono ?_; rintro e w9 ⟨A8, rfl, hb9, o8⟩; have t9 : Below w8.heap.size w8 w9 := Below.then_ (by go_grown) hb9 (by go_size); have z9 := t9.size; have r_a := r_a.below t9 (by omega); have r_s := r_s.below t9 (by omega); have r_x := r_x.below t9 (by omega); have o3 := o3.below t9 (by omega); have o5 := o5.below t9 (by omega); have hr := hr.below t9 (by omega); have q9 := q8.trans (t9.mono q8.size)) | (go_at_call 18; refine (CS.eq turn since used run fallen A5 A8 xs.length xs.length _ _ xs _ (o5.rd enI_len) (o8.rd enI_len) (by go_size) (by go_size)).mono ?_; rintro e w10 ⟨rfl, hb10⟩; have t10 : Below w9.heap.size w9 w10 := Below.then_ (by go_grown) hb10 (by go_size); have z10 := t10.size; have r_a := r_a.below t10 (by omega); have r_s := r_s.below t10 (by omega); have r_x := r_x.below t10 (by omega); have o3 := o3.below t10 (by omega); have o5 := o5.below t10 (by omega); have o8 := o8.below t10 (by omega); have hr := hr.below t10 (by omega); have q10 := q9.trans (t10.mono q9.size)))
    go_wp2_with fail
    go_ret
    exact ⟨rfl, q10⟩
  · go_enter Try.func6, Try.ntmps6
    go_wp2_with fail
    refine (CS.sz turn since used run fallen A xs.length cp 1048576 _ hr.1 (by decide) (by decide)).mono ?_
    rw [if_pos (by omega)]
    rintro e w1 ⟨rfl, hb1⟩
    have t1 : Below W.heap.size W w1 := Below.then_ (by go_grown) hb1 (by go_size)
    have z1 := t1.size
    have q1 := t1
    clear hb1 t1
    go_wp2_with fail
    go_ret
    exact ⟨rfl, q1⟩

set_option maxHeartbeats 1000000 in
theorem timeLeft (r d b : Int) (A : Option Addr) (cp : Nat) (xs : List Int) (turn since used : Int) (run : Bool) (fallen : Int) (player time : Int) (W : World) (w1 : (Lit.int .i64 r).wf = true) (w2 : (Lit.int .i64 d).wf = true) (w3 : (Lit.int .i64 b).wf = true) (hr : RdS W W.heap.size 1 enI A xs) (hw : ∀ x ∈ xs, (Lit.int .i64 x).wf = true) (w5 : (Lit.int .i64 turn).wf = true) (w6 : (Lit.int .i64 since).wf = true) (w7 : (Lit.int .i64 used).wf = true) (w9 : (Lit.int .i64 fallen).wf = true) (w10 : (Lit.int .i64 player).wf = true) (w11 : (Lit.int .i64 time).wf = true) :
    Calls Try.prog 7 #[.agg #[.int .i64 r, .int .i64 d, .int .i64 b], .agg #[.slice A xs.length cp, .int .i64 turn, .int .i64 since, .int .i64 used, .bool run, .int .i64 fallen], .int .i64 player, .int .i64 time] W fun e w' => e = .returned (.bool true) ∧ Below W.heap.size W w' := by
  by_cases hn : xs.length ≤ 1048576
  · have eb : (tlV r d b xs turn since used run fallen player time != tlV r d b xs turn since used run fallen player time) = false := by simp
    have ec : (tlC r d b xs turn since used run fallen player time != tlC r d b xs turn since used run fallen player time) = false := by simp
    go_enter Try.func7, Try.ntmps7
    go_wp2_with fail
    refine (CS.sz turn since used run fallen A xs.length cp 1048576 _ hr.1 (by decide) (by decide)).mono ?_
    rw [if_neg (by omega)]
    rintro e w1 ⟨rfl, hb1⟩
    have t1 : Below W.heap.size W w1 := Below.then_ (by go_grown) hb1 (by go_size)
    have z1 := t1.size
    have r_a := RowB.below ((RowB.new _ _ _).alloc _) hb1 (by go_size)
    have l_a := r_a.lt
    have r_s := RowB.below (RowB.new _ _ _) hb1 (by go_size)
    simp only [World.size_alloc] at r_s
    have l_s := r_s.lt
    have hr := hr.below t1 (by omega)
    have q1 := t1
    clear hb1 t1
    obtain ⟨p_a0, p_a1, p_a2⟩ := r_a.c3
    obtain ⟨p_s0, p_s1, p_s2, p_s3, p_s4, p_s5⟩ := r_s.c6
    go_wp2_with fail
    clear p_a0 p_a1 p_a2 p_s0 p_s1 p_s2 p_s3 p_s4 p_s5
    go_region_held3 (fun w' => (w'.cell? ⟨W.heap.size, 0, none⟩ = some (.int .i64 r) ∧ w'.cell? ⟨W.heap.size, 1, none⟩ = some (.int .i64 d) ∧ w'.cell? ⟨W.heap.size, 2, none⟩ = some (.int .i64 b)) ∧ (w'.cell? ⟨(W.heap.size + 1), 0, none⟩ = some (.slice A xs.length cp) ∧ w'.cell? ⟨(W.heap.size + 1), 1, none⟩ = some (.int .i64 turn) ∧ w'.cell? ⟨(W.heap.size + 1), 2, none⟩ = some (.int .i64 since) ∧ w'.cell? ⟨(W.heap.size + 1), 3, none⟩ = some (.int .i64 used) ∧ w'.cell? ⟨(W.heap.size + 1), 4, none⟩ = some (.bool run) ∧ w'.cell? ⟨(W.heap.size + 1), 5, none⟩ = some (.int .i64 fallen))) (exact ⟨r_a.c3, r_s.c6⟩) (first | (go_at_call 14; refine (copyCR r d b _).mono ?_; rintro e w2 ⟨rfl, hb2⟩; have t2 : Below w1.heap.size w1 w2 := Below.then_ (by go_grown) hb2 (by go_size); have z2 := t2.size; have r_a := r_a.below t2 (by omega); have r_s := r_s.below t2 (by omega); have hr := hr.below t2 (by omega); have q2 := q1.trans (t2.mono q1.size)) | (go_at_call 23; refine (CS.copy turn since used run fallen A cp W.heap.size xs _ (by go_size) hn (by first | exact hr | exact hr.drew)).mono ?_; rintro e w3 ⟨A3, rfl, hb3, o3⟩; have t3 : Below w2.heap.size w2 w3 := Below.then_ (by go_grown) hb3 (by go_size); have z3 := t3.size; have r_a := r_a.below t3 (by omega); have r_s := r_s.below t3 (by omega); have hr := hr.below t3 (by omega); have q3 := q2.trans (t3.mono q2.size)) | (go_at_call 27; refine (tl_spec r d b A3 _ _ xs turn since used run fallen player time _ (by go_size) (o3.rd enI_len)).mono ?_; rintro e w4 ⟨rfl, hb4⟩; have t4 : Below w3.heap.size w3 w4 := Below.then_ (by go_grown) hb4 (by go_size); have z4 := t4.size; have r_a := r_a.below t4 (by omega); have r_s := r_s.below t4 (by omega); have o3 := o3.below t4 (by omega); have hr := hr.below t4 (by omega); have q4 := q3.trans (t4.mono q3.size)))
    obtain ⟨p_a0, p_a1, p_a2⟩ := r_a.c3
    obtain ⟨p_s0, p_s1, p_s2, p_s3, p_s4, p_s5⟩ := r_s.c6
    go_wp2_with fail
    clear p_a0 p_a1 p_a2 p_s0 p_s1 p_s2 p_s3 p_s4 p_s5
    refine (CS.copy turn since used run fallen A cp W.heap.size xs _ (by go_size) hn (by first | exact hr | exact hr.drew)).mono ?_
    rintro e w5 ⟨A5, rfl, hb5, o5⟩
    have t5 : Below w4.heap.size w4 w5 := Below.then_ (by go_grown) hb5 (by go_size)
    have z5 := t5.size
    have r_a := r_a.below t5 (by omega)
    have r_s := r_s.below t5 (by omega)
    have o3 := o3.below t5 (by omega)
    have hr := hr.below t5 (by omega)
    have q5 := q4.trans (t5.mono q4.size)
    clear hb5 t5 q4
    obtain ⟨p_a0, p_a1, p_a2⟩ := r_a.c3
    obtain ⟨p_s0, p_s1, p_s2, p_s3, p_s4, p_s5⟩ := r_s.c6
    go_wp2_with fail
    clear p_a0 p_a1 p_a2 p_s0 p_s1 p_s2 p_s3 p_s4 p_s5
    refine wp_gen (fun W' => Below w5.heap.size w5 W' ∧ RowB W' w5.heap.size 30 [.slice A5 xs.length xs.length, .int .i64 turn, .int .i64 since, .int .i64 used, .bool run, .int .i64 fallen]) ⟨by go_grown, RowB.new _ _ _⟩ ?_
    rintro w6 ⟨hb6, r_x⟩
    have l_x := r_x.lt
    have t6 : Below w5.heap.size w5 w6 := Below.then_ (by go_grown) hb6 (by go_size)
    have z6 := t6.size
    have r_a := r_a.below t6 (by omega)
    have r_s := r_s.below t6 (by omega)
    have o3 := o3.below t6 (by omega)
    have o5 := o5.below t6 (by omega)
    have hr := hr.below t6 (by omega)
    have q6 := q5.trans (t6.mono q5.size)
    clear hb6 t6 q5
    obtain ⟨p_a0, p_a1, p_a2⟩ := r_a.c3
    obtain ⟨p_s0, p_s1, p_s2, p_s3, p_s4, p_s5⟩ := r_s.c6
    obtain ⟨p_x0, p_x1, p_x2, p_x3, p_x4, p_x5⟩ := r_x.c6
    go_wp2_with fail
    clear p_a0 p_a1 p_a2 p_s0 p_s1 p_s2 p_s3 p_s4 p_s5 p_x0 p_x1 p_x2 p_x3 p_x4 p_x5
    go_region_held3 (fun w' => (w'.cell? ⟨W.heap.size, 0, none⟩ = some (.int .i64 r) ∧ w'.cell? ⟨W.heap.size, 1, none⟩ = some (.int .i64 d) ∧ w'.cell? ⟨W.heap.size, 2, none⟩ = some (.int .i64 b)) ∧ (w'.cell? ⟨w5.heap.size, 0, none⟩ = some (.slice A5 xs.length xs.length) ∧ w'.cell? ⟨w5.heap.size, 1, none⟩ = some (.int .i64 turn) ∧ w'.cell? ⟨w5.heap.size, 2, none⟩ = some (.int .i64 since) ∧ w'.cell? ⟨w5.heap.size, 3, none⟩ = some (.int .i64 used) ∧ w'.cell? ⟨w5.heap.size, 4, none⟩ = some (.bool run) ∧ w'.cell? ⟨w5.heap.size, 5, none⟩ = some (.int .i64 fallen))) (exact ⟨r_a.c3, r_x.c6⟩) (first | (go_at_call 14; refine (copyCR r d b _).mono ?_; rintro e w7 ⟨rfl, hb7⟩; have t7 : Below w6.heap.size w6 w7 := Below.then_ (by go_grown) hb7 (by go_size); have z7 := t7.size; have r_a := r_a.below t7 (by omega); have r_s := r_s.below t7 (by omega); have r_x := r_x.below t7 (by omega); have o3 := o3.below t7 (by omega); have o5 := o5.below t7 (by omega); have hr := hr.below t7 (by omega); have q7 := q6.trans (t7.mono q6.size)) | (go_at_call 28; refine (tl_impl r d b A5 _ _ xs turn since used run fallen player time _ (by go_size) (o5.rd enI_len)).mono ?_; rintro e w8 ⟨rfl, hb8⟩; have t8 : Below w7.heap.size w7 w8 := Below.then_ (by go_grown) hb8 (by go_size); have z8 := t8.size; have r_a := r_a.below t8 (by omega); have r_s := r_s.below t8 (by omega); have r_x := r_x.below t8 (by omega); have o3 := o3.below t8 (by omega); have o5 := o5.below t8 (by omega); have hr := hr.below t8 (by omega); have q8 := q7.trans (t8.mono q7.size)))
    obtain ⟨p_a0, p_a1, p_a2⟩ := r_a.c3
    obtain ⟨p_s0, p_s1, p_s2, p_s3, p_s4, p_s5⟩ := r_s.c6
    obtain ⟨p_x0, p_x1, p_x2, p_x3, p_x4, p_x5⟩ := r_x.c6
    go_wp2_with fail
    clear p_a0 p_a1 p_a2 p_s0 p_s1 p_s2 p_s3 p_s4 p_s5 p_x0 p_x1 p_x2 p_x3 p_x4 p_x5
    go_wp2_with fail
    go_region_held3 (fun w' => (w'.cell? ⟨(W.heap.size + 1), 0, none⟩ = some (.slice A xs.length cp) ∧ w'.cell? ⟨(W.heap.size + 1), 1, none⟩ = some (.int .i64 turn) ∧ w'.cell? ⟨(W.heap.size + 1), 2, none⟩ = some (.int .i64 since) ∧ w'.cell? ⟨(W.heap.size + 1), 3, none⟩ = some (.int .i64 used) ∧ w'.cell? ⟨(W.heap.size + 1), 4, none⟩ = some (.bool run) ∧ w'.cell? ⟨(W.heap.size + 1), 5, none⟩ = some (.int .i64 fallen)) ∧ (w'.cell? ⟨w5.heap.size, 0, none⟩ = some (.slice A5 xs.length xs.length) ∧ w'.cell? ⟨w5.heap.size, 1, none⟩ = some (.int .i64 turn) ∧ w'.cell? ⟨w5.heap.size, 2, none⟩ = some (.int .i64 since) ∧ w'.cell? ⟨w5.heap.size, 3, none⟩ = some (.int .i64 used) ∧ w'.cell? ⟨w5.heap.size, 4, none⟩ = some (.bool run) ∧ w'.cell? ⟨w5.heap.size, 5, none⟩ = some (.int .i64 fallen))) (exact ⟨r_s.c6, r_x.c6⟩) (first | (go_at_call 23; refine (CS.copy turn since used run fallen A cp W.heap.size xs _ (by go_size) hn (by first | exact hr | exact hr.drew)).mono ?_; rintro e w9 ⟨A8, rfl, hb9, o8⟩; have t9 : Below w8.heap.size w8 w9 := Below.then_ (by go_grown) hb9 (by go_size); have z9 := t9.size; have r_a := r_a.below t9 (by omega); have r_s := r_s.below t9 (by omega); have r_x := r_x.below t9 (by omega); have o3 := o3.below t9 (by omega); have o5 := o5.below t9 (by omega); have hr := hr.below t9 (by omega); have q9 := q8.trans (t9.mono q8.size)) | (go_at_call 18; refine (CS.eq turn since used run fallen A5 A8 xs.length xs.length _ _ xs _ (o5.rd enI_len) (o8.rd enI_len) (by go_size) (by go_size)).mono ?_; rintro e w10 ⟨rfl, hb10⟩; have t10 : Below w9.heap.size w9 w10 := Below.then_ (by go_grown) hb10 (by go_size); have z10 := t10.size; have r_a := r_a.below t10 (by omega); have r_s := r_s.below t10 (by omega); have r_x := r_x.below t10 (by omega); have o3 := o3.below t10 (by omega); have o5 := o5.below t10 (by omega); have o8 := o8.below t10 (by omega); have hr := hr.below t10 (by omega); have q10 := q9.trans (t10.mono q9.size)))
    go_wp2_with fail
    go_ret
    exact ⟨rfl, q10⟩
  · go_enter Try.func7, Try.ntmps7
    go_wp2_with fail
    refine (CS.sz turn since used run fallen A xs.length cp 1048576 _ hr.1 (by decide) (by decide)).mono ?_
    rw [if_pos (by omega)]
    rintro e w1 ⟨rfl, hb1⟩
    have t1 : Below W.heap.size W w1 := Below.then_ (by go_grown) hb1 (by go_size)
    have z1 := t1.size
    have q1 := t1
    clear hb1 t1
    go_wp2_with fail
    go_ret
    exact ⟨rfl, q1⟩

end Go.Proofs.Ytdjopnhbcchedaa.ClockLaws3
