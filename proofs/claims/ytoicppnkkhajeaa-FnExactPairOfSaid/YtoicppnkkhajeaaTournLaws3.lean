/-
  The law on PairOf. Conditions: none beyond the given row's.
-/
import Derived.Test.YtoicppnkkhajeaaTF1
set_option linter.unusedVariables false
namespace Go.Proofs.Ytoicppnkkhajeaa.TournLaws3
open Go.ChangeShapes Go.WideShapes Go.ChangeAt Go.RowKit Base Ints Tourn1 TF1

set_option maxHeartbeats 1000000 in
theorem pairOf (size : Int) (A : Option Addr) (cp : Nat) (xs : List Int) (k : Int) (W : World) (w1 : (Lit.int .i64 size).wf = true) (hr : RdS W W.heap.size 1 enI A xs) (hw : ∀ x ∈ xs, (Lit.int .i64 x).wf = true) (w3 : (Lit.int .i64 k).wf = true) :
    Calls Try.prog 5 #[.agg #[.int .i64 size, .slice A xs.length cp], .int .i64 k] W fun e w' => e = .returned (.bool true) ∧ Below W.heap.size W w' := by
  by_cases hn : xs.length ≤ 1048576
  · have h64 := I64.of_wf w1
    have eA : (poA size xs k != poA size xs k) = false := by simp
    have eB : (poB size xs k != poB size xs k) = false := by simp
    have eC : (poC size xs k != poC size xs k) = false := by simp
    go_enter Try.func5, Try.ntmps5
    go_wp2_with fail
    refine (Tn.sz size A xs.length cp 1048576 _ hr.1 (by decide) (by decide)).mono ?_
    rw [if_neg (by omega)]
    rintro e w1 ⟨rfl, hb1⟩
    have t1 : Below W.heap.size W w1 := Below.then_ (by go_grown) hb1 (by go_size)
    have z1 := t1.size
    have r_t := RowB.below (RowB.new _ _ _) hb1 (by go_size)
    have l_t := r_t.lt
    have hr := hr.below t1 (by omega)
    have q1 := t1
    clear hb1 t1
    obtain ⟨p_t0, p_t1⟩ := r_t.c2
    go_wp2_with fail
    clear p_t0 p_t1
    refine (Tn.copy size A cp W.heap.size xs _ (by go_size) hn (by first | exact hr | exact hr.drew)).mono ?_
    rintro e w2 ⟨A2, rfl, hb2, o2⟩
    have t2 : Below w1.heap.size w1 w2 := Below.then_ (by go_grown) hb2 (by go_size)
    have z2 := t2.size
    have r_t := r_t.below t2 (by omega)
    have l_t := r_t.lt
    have hr := hr.below t2 (by omega)
    have q2 := q1.trans (t2.mono q1.size)
    clear hb2 t2 q1
    obtain ⟨p_t0, p_t1⟩ := r_t.c2
    go_wp2_with fail
    clear p_t0 p_t1
    refine (po_spec size A2 _ _ xs k _ (by go_size) (o2.rd enI_len) h64).mono ?_
    rintro e w3 ⟨rfl, hb3⟩
    have t3 : Below w2.heap.size w2 w3 := Below.then_ (by go_grown) hb3 (by go_size)
    have z3 := t3.size
    have r_t := r_t.below t3 (by omega)
    have l_t := r_t.lt
    have o2 := o2.below t3 (by omega)
    have hr := hr.below t3 (by omega)
    have q3 := q2.trans (t3.mono q2.size)
    clear hb3 t3 q2
    obtain ⟨p_t0, p_t1⟩ := r_t.c2
    go_wp2_with fail
    clear p_t0 p_t1
    refine (Tn.copy size A cp W.heap.size xs _ (by go_size) hn (by first | exact hr | exact hr.drew)).mono ?_
    rintro e w4 ⟨A4, rfl, hb4, o4⟩
    have t4 : Below w3.heap.size w3 w4 := Below.then_ (by go_grown) hb4 (by go_size)
    have z4 := t4.size
    have r_t := r_t.below t4 (by omega)
    have l_t := r_t.lt
    have o2 := o2.below t4 (by omega)
    have hr := hr.below t4 (by omega)
    have q4 := q3.trans (t4.mono q3.size)
    clear hb4 t4 q3
    obtain ⟨p_t0, p_t1⟩ := r_t.c2
    go_wp2_with fail
    clear p_t0 p_t1
    refine (po_impl size A4 _ _ xs k _ (by go_size) ((o4.alloc _).rd enI_len) h64).mono ?_
    rintro e w5 ⟨rfl, hb5⟩
    have t5 : Below w4.heap.size w4 w5 := Below.then_ (by go_grown) hb5 (by go_size)
    have z5 := t5.size
    have r_x := RowB.below (RowB.new _ _ _) hb5 (by go_size)
    have l_x := r_x.lt
    have r_t := r_t.below t5 (by omega)
    have l_t := r_t.lt
    have o2 := o2.below t5 (by omega)
    have o4 := o4.below t5 (by omega)
    have hr := hr.below t5 (by omega)
    have q5 := q4.trans (t5.mono q4.size)
    clear hb5 t5 q4
    obtain ⟨p_t0, p_t1⟩ := r_t.c2
    obtain ⟨p_x0, p_x1⟩ := r_x.c2
    go_wp2_with fail
    clear p_t0 p_t1 p_x0 p_x1
    go_region_held3 (fun w' => (w'.cell? ⟨W.heap.size, 0, none⟩ = some (.int .i64 size) ∧ w'.cell? ⟨W.heap.size, 1, none⟩ = some (.slice A xs.length cp)) ∧ (w'.cell? ⟨w4.heap.size, 0, none⟩ = some (.int .i64 size) ∧ w'.cell? ⟨w4.heap.size, 1, none⟩ = some (.slice A4 xs.length xs.length))) (exact ⟨r_t.c2, r_x.c2⟩) (first | (go_at_call 22; refine (Tn.copy size A cp W.heap.size xs _ (by go_size) hn (by first | exact hr | exact hr.drew)).mono ?_; rintro e w6 ⟨A7, rfl, hb6, o7⟩; have t6 : Below w5.heap.size w5 w6 := Below.then_ (by go_grown) hb6 (by go_size); have z6 := t6.size; have r_t := r_t.below t6 (by omega); have l_t := r_t.lt; have r_x := r_x.below t6 (by omega); have l_x := r_x.lt; have o2 := o2.below t6 (by omega); have o4 := o4.below t6 (by omega); have hr := hr.below t6 (by omega); have q6 := q5.trans (t6.mono q5.size)) | (go_at_call 24; refine (Tn.eq size A4 A7 xs.length xs.length _ _ xs _ (o4.rd enI_len) (o7.rd enI_len) (by go_size) (by go_size)).mono ?_; rintro e w7 ⟨rfl, hb7⟩; have t7 : Below w6.heap.size w6 w7 := Below.then_ (by go_grown) hb7 (by go_size); have z7 := t7.size; have r_t := r_t.below t7 (by omega); have l_t := r_t.lt; have r_x := r_x.below t7 (by omega); have l_x := r_x.lt; have o2 := o2.below t7 (by omega); have o4 := o4.below t7 (by omega); have o7 := o7.below t7 (by omega); have hr := hr.below t7 (by omega); have q7 := q6.trans (t7.mono q6.size)))
    go_wp2_with fail
    go_ret
    exact ⟨rfl, q7⟩
  · go_enter Try.func5, Try.ntmps5
    go_wp2_with fail
    refine (Tn.sz size A xs.length cp 1048576 _ hr.1 (by decide) (by decide)).mono ?_
    rw [if_pos (by omega)]
    rintro e w1 ⟨rfl, hb1⟩
    have t1 : Below W.heap.size W w1 := Below.then_ (by go_grown) hb1 (by go_size)
    have z1 := t1.size
    have q1 := t1
    clear hb1 t1
    go_wp2_with fail
    go_ret
    exact ⟨rfl, q1⟩

end Go.Proofs.Ytoicppnkkhajeaa.TournLaws3
