/-
  The law on AddResultOf. Conditions: none beyond the given row's.
-/
import Derived.Test.YtoicppnkkhajeaaTF7
set_option linter.unusedVariables false
namespace Go.Proofs.Ytoicppnkkhajeaa.TournLaws9
open Go.ChangeShapes Go.WideShapes Go.ChangeAt Go.RowKit Base Ints Tourn1 Pairs TF1 TF2 TF7

set_option maxHeartbeats 4000000 in
theorem addResultOf (size : Int) (A : Option Addr) (cp : Nat) (xs : List Int) (x : Int) (W : World) (w1 : (Lit.int .i64 size).wf = true) (hr : RdS W W.heap.size 1 enI A xs) (hw : ∀ x ∈ xs, (Lit.int .i64 x).wf = true) (wx : (Lit.int .i64 x).wf = true) :
    Calls Try.prog 13 #[.agg #[.int .i64 size, .slice A xs.length cp], .int .i64 x] W fun e w' => e = .returned (.bool true) ∧ Below W.heap.size W w' := by
  by_cases hn : xs.length ≤ 1048576
  · have h64 := I64.of_wf w1
    have hll := arL_len size xs x
    have ec : (arC size xs x != arC size xs x) = false := by simp
    go_enter Try.func13, Try.ntmps13
    go_wp2_with fail
    refine (Tn.sz size A xs.length cp 1048576 _ hr.1 (by decide) (by decide)).mono ?_
    rw [if_neg (by omega)]
    rintro e w1 ⟨rfl, hb1⟩
    have t1 : Below W.heap.size W w1 := Below.then_ (by go_grown) hb1 (by go_size)
    have z1 := t1.size
    have r_t := RowB.below (RowB.new _ _ _) hb1 (by go_size)
    have l_t := r_t.lt
    have hr := hr.below t1 (by omega)
    have q1 := t1
    clear hb1 t1
    obtain ⟨p_t0, p_t1⟩ := r_t.c2
    go_wp2_with fail
    clear p_t0 p_t1
    refine (Tn.copy size A cp W.heap.size xs _ (by go_size) hn (by first | exact hr | exact hr.drew)).mono ?_
    rintro e w2 ⟨A2, rfl, hb2, o2⟩
    have t2 : Below w1.heap.size w1 w2 := Below.then_ (by go_grown) hb2 (by go_size)
    have z2 := t2.size
    have r_t := r_t.below t2 (by omega)
    have l_t := r_t.lt
    have hr := hr.below t2 (by omega)
    have q2 := q1.trans (t2.mono q1.size)
    clear hb2 t2 q1
    obtain ⟨p_t0, p_t1⟩ := r_t.c2
    go_wp2_with fail
    clear p_t0 p_t1
    refine (ar_spec size A2 _ _ xs x _ (by go_size) (o2.rd enI_len) h64 (fun h => by subst h; have := Clone.rd_none (o2.rd enI_len); simp [this])).mono ?_
    rintro e w3 ⟨⟨vw, rfl, ow⟩, hb3⟩
    have t3 : Below w2.heap.size w2 w3 := Below.then_ (by go_grown) hb3 (by go_size)
    have z3 := t3.size
    have r_t := r_t.below t3 (by omega)
    have l_t := r_t.lt
    have o2 := o2.below t3 (by omega)
    have hr := hr.below t3 (by omega)
    have q3 := q2.trans (t3.mono q2.size)
    clear hb3 t3 q2
    obtain ⟨Aw, cw, rfl, _⟩ := ow.form enI_len
    try simp only [World.size_alloc] at ow
    obtain ⟨p_t0, p_t1⟩ := r_t.c2
    go_wp2_with fail
    clear p_t0 p_t1
    refine (Tn.copy size A cp W.heap.size xs _ (by go_size) hn (by first | exact hr | exact hr.drew | exact hr.below ((Below.refl _ _).alloc (Nat.le_refl _) _) (by go_size))).mono ?_
    rintro e w4 ⟨A4, rfl, hb4, o4⟩
    have t4 : Below w3.heap.size w3 w4 := Below.then_ (by go_grown) hb4 (by go_size)
    have z4 := t4.size
    have r_w := RowB.below (RowB.new _ _ _) hb4 (by go_size)
    have l_w := r_w.lt
    have r_t := r_t.below t4 (by omega)
    have l_t := r_t.lt
    have o2 := o2.below t4 (by omega)
    have ow := ow.below t4 (by omega)
    have hr := hr.below t4 (by omega)
    have q4 := q3.trans (t4.mono q3.size)
    clear hb4 t4 q3
    try simp only [World.size_alloc] at o4
    obtain ⟨p_t0, p_t1⟩ := r_t.c2
    obtain ⟨p_w0, p_w1⟩ := r_w.c2
    go_wp2_with fail
    clear p_t0 p_t1 p_w0 p_w1
    refine (ar_impl size A4 _ _ xs x _ (by go_size) ((o4.alloc _).rd enI_len) h64 (fun h => by subst h; have := Clone.rd_none (o4.rd enI_len); simp [this])).mono ?_
    rintro e w5 ⟨⟨vg, rfl, og⟩, hb5⟩
    have t5 : Below w4.heap.size w4 w5 := Below.then_ (by go_grown) hb5 (by go_size)
    have z5 := t5.size
    have r_x := RowB.below (RowB.new _ _ _) hb5 (by go_size)
    have l_x := r_x.lt
    have r_t := r_t.below t5 (by omega)
    have l_t := r_t.lt
    have r_w := r_w.below t5 (by omega)
    have l_w := r_w.lt
    have o2 := o2.below t5 (by omega)
    have ow := ow.below t5 (by omega)
    have o4 := o4.below t5 (by omega)
    have hr := hr.below t5 (by omega)
    have q5 := q4.trans (t5.mono q4.size)
    clear hb5 t5 q4
    obtain ⟨Ag, cg, rfl, _⟩ := og.form enI_len
    try simp only [World.size_alloc] at og
    obtain ⟨p_t0, p_t1⟩ := r_t.c2
    obtain ⟨p_w0, p_w1⟩ := r_w.c2
    obtain ⟨p_x0, p_x1⟩ := r_x.c2
    go_wp2_with fail
    clear p_t0 p_t1 p_w0 p_w1 p_x0 p_x1
    refine (Tn.eq (arS size xs x) Ag Aw cg cw _ _ (arL size xs x) _ (by first | exact og.rd enI_len | exact (og.alloc _).rd enI_len) (by first | exact ow.rd enI_len | exact (ow.alloc _).rd enI_len) (by go_size) (by go_size)).mono ?_
    rintro e w6 ⟨rfl, hb6⟩
    have t6 : Below w5.heap.size w5 w6 := Below.then_ (by go_grown) hb6 (by go_size)
    have z6 := t6.size
    have r_g := RowB.below (RowB.new _ _ _) hb6 (by go_size)
    have l_g := r_g.lt
    have r_t := r_t.below t6 (by omega)
    have l_t := r_t.lt
    have r_w := r_w.below t6 (by omega)
    have l_w := r_w.lt
    have r_x := r_x.below t6 (by omega)
    have l_x := r_x.lt
    have o2 := o2.below t6 (by omega)
    have ow := ow.below t6 (by omega)
    have o4 := o4.below t6 (by omega)
    have og := og.below t6 (by omega)
    have hr := hr.below t6 (by omega)
    have q6 := q5.trans (t6.mono q5.size)
    clear hb6 t6 q5
    obtain ⟨p_t0, p_t1⟩ := r_t.c2
    obtain ⟨p_w0, p_w1⟩ := r_w.c2
    obtain ⟨p_x0, p_x1⟩ := r_x.c2
    obtain ⟨p_g0, p_g1⟩ := r_g.c2
    go_wp2_with fail
    clear p_t0 p_t1 p_w0 p_w1 p_x0 p_x1 p_g0 p_g1
    go_region_held3 (fun w' => (w'.cell? ⟨W.heap.size, 0, none⟩ = some (.int .i64 size) ∧ w'.cell? ⟨W.heap.size, 1, none⟩ = some (.slice A xs.length cp)) ∧ (w'.cell? ⟨w4.heap.size, 0, none⟩ = some (.int .i64 size) ∧ w'.cell? ⟨w4.heap.size, 1, none⟩ = some (.slice A4 xs.length xs.length))) (exact ⟨r_t.c2, r_x.c2⟩) (first | (go_at_call 22; refine (Tn.copy size A cp W.heap.size xs _ (by go_size) hn (by first | exact hr | exact hr.drew)).mono ?_; rintro e w7 ⟨A7, rfl, hb7, o7⟩; have t7 : Below w6.heap.size w6 w7 := Below.then_ (by go_grown) hb7 (by go_size); have z7 := t7.size; have r_t := r_t.below t7 (by omega); have l_t := r_t.lt; have r_w := r_w.below t7 (by omega); have l_w := r_w.lt; have r_x := r_x.below t7 (by omega); have l_x := r_x.lt; have r_g := r_g.below t7 (by omega); have l_g := r_g.lt; have o2 := o2.below t7 (by omega); have ow := ow.below t7 (by omega); have o4 := o4.below t7 (by omega); have og := og.below t7 (by omega); have hr := hr.below t7 (by omega); have q7 := q6.trans (t7.mono q6.size)) | (go_at_call 24; refine (Tn.eq size A4 A7 xs.length xs.length _ _ xs _ (o4.rd enI_len) (o7.rd enI_len) (by go_size) (by go_size)).mono ?_; rintro e w8 ⟨rfl, hb8⟩; have t8 : Below w7.heap.size w7 w8 := Below.then_ (by go_grown) hb8 (by go_size); have z8 := t8.size; have r_t := r_t.below t8 (by omega); have l_t := r_t.lt; have r_w := r_w.below t8 (by omega); have l_w := r_w.lt; have r_x := r_x.below t8 (by omega); have l_x := r_x.lt; have r_g := r_g.below t8 (by omega); have l_g := r_g.lt; have o2 := o2.below t8 (by omega); have ow := ow.below t8 (by omega); have o4 := o4.below t8 (by omega); have og := og.below t8 (by omega); have o7 := o7.below t8 (by omega); have hr := hr.below t8 (by omega); have q8 := q7.trans (t8.mono q7.size)))
    obtain ⟨p_t0, p_t1⟩ := r_t.c2
    obtain ⟨p_w0, p_w1⟩ := r_w.c2
    obtain ⟨p_x0, p_x1⟩ := r_x.c2
    obtain ⟨p_g0, p_g1⟩ := r_g.c2
    clear o7
    have hrow4 := o4.block
    go_wp2_with fail
    clear p_t0 p_t1 p_w0 p_w1 p_x0 p_x1 p_g0 p_g1
    refine (Tn.mark size _ _ _ _ A4 1 xs _ hn (by omega) rfl o4 (by go_size)).mono ?_
    rintro e w9 ⟨rfl, hb9, o4⟩
    have t9 := below_grown (w := w8) (by go_grown) hb9
    have z9 := t9.size
    have r_t := r_t.grown t9 (fun g hg => by have := hrow4 g hg; omega)
    have l_t := r_t.lt
    have r_w := r_w.grown t9 (fun g hg => by have := hrow4 g hg; omega)
    have l_w := r_w.lt
    have r_x := r_x.grown t9 (fun g hg => by have := hrow4 g hg; omega)
    have l_x := r_x.lt
    have r_g := r_g.grown t9 (fun g hg => by have := hrow4 g hg; omega)
    have l_g := r_g.lt
    have o2 := o2.grown t9 (fun g hg => by have := hrow4 g hg; omega)
    have ow := ow.grown t9 (fun g hg => by have := hrow4 g hg; omega)
    have og := og.grown t9 (fun g hg => by have := hrow4 g hg; omega)
    have hr := hr.grown t9 (by omega) (fun g hg => by have := hrow4 g hg; omega)
    have q9 := q8.grown t9 q8.size (fun g hg => by have := hrow4 g hg; omega)
    clear hb9 t9 q8
    obtain ⟨p_t0, p_t1⟩ := r_t.c2
    obtain ⟨p_w0, p_w1⟩ := r_w.c2
    obtain ⟨p_x0, p_x1⟩ := r_x.c2
    obtain ⟨p_g0, p_g1⟩ := r_g.c2
    go_wp2_with fail
    clear p_t0 p_t1 p_w0 p_w1 p_x0 p_x1 p_g0 p_g1
    refine (Tn.eq (arS size xs x) Ag Aw cg cw _ _ (arL size xs x) _ (by first | exact og.rd enI_len | exact (og.alloc _).rd enI_len) (by first | exact ow.rd enI_len | exact (ow.alloc _).rd enI_len) (by go_size) (by go_size)).mono ?_
    rintro e w10 ⟨rfl, hb10⟩
    have t10 : Below w9.heap.size w9 w10 := Below.then_ (by go_grown) hb10 (by go_size)
    have z10 := t10.size
    have r_t := r_t.below t10 (by omega)
    have l_t := r_t.lt
    have r_w := r_w.below t10 (by omega)
    have l_w := r_w.lt
    have r_x := r_x.below t10 (by omega)
    have l_x := r_x.lt
    have r_g := r_g.below t10 (by omega)
    have l_g := r_g.lt
    have o2 := o2.below t10 (by omega)
    have ow := ow.below t10 (by omega)
    have o4 := o4.below t10 (by omega)
    have og := og.below t10 (by omega)
    have hr := hr.below t10 (by omega)
    have q10 := q9.trans (t10.mono q9.size)
    clear hb10 t10 q9
    obtain ⟨p_t0, p_t1⟩ := r_t.c2
    obtain ⟨p_w0, p_w1⟩ := r_w.c2
    obtain ⟨p_x0, p_x1⟩ := r_x.c2
    obtain ⟨p_g0, p_g1⟩ := r_g.c2
    have hrow := og.block
    go_wp2_with fail
    clear p_t0 p_t1 p_w0 p_w1 p_x0 p_x1 p_g0 p_g1
    refine (Tn.mark (arS size xs x) _ _ _ _ Ag 1 (arL size xs x) _ (by omega) (by omega) rfl og (by go_size)).mono ?_
    rintro e w11 ⟨rfl, hb11, og⟩
    have t11 := below_grown (w := w10) (by go_grown) hb11
    have z11 := t11.size
    have r_t := r_t.grown t11 (fun g hg => by have := hrow g hg; omega)
    have l_t := r_t.lt
    have r_w := r_w.grown t11 (fun g hg => by have := hrow g hg; omega)
    have l_w := r_w.lt
    have r_x := r_x.grown t11 (fun g hg => by have := hrow g hg; omega)
    have l_x := r_x.lt
    have r_g := r_g.grown t11 (fun g hg => by have := hrow g hg; omega)
    have l_g := r_g.lt
    have o2 := o2.grown t11 (fun g hg => by have := hrow g hg; omega)
    have ow := ow.grown t11 (fun g hg => by have := hrow g hg; omega)
    have o4 := o4.grown t11 (fun g hg => by have := hrow g hg; omega)
    have hr := hr.grown t11 (by omega) (fun g hg => by have := hrow g hg; omega)
    have q11 := q10.grown t11 q10.size (fun g hg => by have := hrow g hg; omega)
    clear hb11 t11 q10
    obtain ⟨p_t0, p_t1⟩ := r_t.c2
    obtain ⟨p_w0, p_w1⟩ := r_w.c2
    obtain ⟨p_x0, p_x1⟩ := r_x.c2
    obtain ⟨p_g0, p_g1⟩ := r_g.c2
    go_wp2_with fail
    clear p_t0 p_t1 p_w0 p_w1 p_x0 p_x1 p_g0 p_g1
    refine (Tn.held (arS size xs x) _ _ Ag cg 1 _ (by go_size) (by omega) (by omega) (og.rd enI_len)).mono ?_
    rintro e w12 ⟨rfl, hb12⟩
    have t12 : Below w11.heap.size w11 w12 := Below.then_ (by go_grown) hb12 (by go_size)
    have z12 := t12.size
    have r_t := r_t.below t12 (by omega)
    have l_t := r_t.lt
    have r_w := r_w.below t12 (by omega)
    have l_w := r_w.lt
    have r_x := r_x.below t12 (by omega)
    have l_x := r_x.lt
    have r_g := r_g.below t12 (by omega)
    have l_g := r_g.lt
    have o2 := o2.below t12 (by omega)
    have ow := ow.below t12 (by omega)
    have o4 := o4.below t12 (by omega)
    have og := og.below t12 (by omega)
    have hr := hr.below t12 (by omega)
    have q12 := q11.trans (t12.mono q11.size)
    clear hb12 t12 q11
    obtain ⟨p_t0, p_t1⟩ := r_t.c2
    obtain ⟨p_w0, p_w1⟩ := r_w.c2
    obtain ⟨p_x0, p_x1⟩ := r_x.c2
    obtain ⟨p_g0, p_g1⟩ := r_g.c2
    go_wp2_with fail
    clear p_t0 p_t1 p_w0 p_w1 p_x0 p_x1 p_g0 p_g1
    refine (Tn.copy size A cp W.heap.size xs _ (by go_size) hn (by first | exact hr | exact hr.drew)).mono ?_
    rintro e w13 ⟨A11, rfl, hb13, o11⟩
    have t13 : Below w12.heap.size w12 w13 := Below.then_ (by go_grown) hb13 (by go_size)
    have z13 := t13.size
    have r_t := r_t.below t13 (by omega)
    have l_t := r_t.lt
    have r_w := r_w.below t13 (by omega)
    have l_w := r_w.lt
    have r_x := r_x.below t13 (by omega)
    have l_x := r_x.lt
    have r_g := r_g.below t13 (by omega)
    have l_g := r_g.lt
    have o2 := o2.below t13 (by omega)
    have ow := ow.below t13 (by omega)
    have o4 := o4.below t13 (by omega)
    have og := og.below t13 (by omega)
    have hr := hr.below t13 (by omega)
    have q13 := q12.trans (t13.mono q12.size)
    clear hb13 t13 q12
    obtain ⟨p_t0, p_t1⟩ := r_t.c2
    obtain ⟨p_w0, p_w1⟩ := r_w.c2
    obtain ⟨p_x0, p_x1⟩ := r_x.c2
    obtain ⟨p_g0, p_g1⟩ := r_g.c2
    go_wp2_with fail
    clear p_t0 p_t1 p_w0 p_w1 p_x0 p_x1 p_g0 p_g1
    refine (ar_impl size A11 _ _ xs x _ (by go_size) (o11.rd enI_len) h64 (fun h => by subst h; have := Clone.rd_none (o11.rd enI_len); simp [this])).mono ?_
    rintro e w14 ⟨⟨vh, rfl, oh⟩, hb14⟩
    have t14 : Below w13.heap.size w13 w14 := Below.then_ (by go_grown) hb14 (by go_size)
    have z14 := t14.size
    have r_t := r_t.below t14 (by omega)
    have l_t := r_t.lt
    have r_w := r_w.below t14 (by omega)
    have l_w := r_w.lt
    have r_x := r_x.below t14 (by omega)
    have l_x := r_x.lt
    have r_g := r_g.below t14 (by omega)
    have l_g := r_g.lt
    have o2 := o2.below t14 (by omega)
    have ow := ow.below t14 (by omega)
    have o4 := o4.below t14 (by omega)
    have og := og.below t14 (by omega)
    have o11 := o11.below t14 (by omega)
    have hr := hr.below t14 (by omega)
    have q14 := q13.trans (t14.mono q13.size)
    clear hb14 t14 q13
    obtain ⟨Ah, ch, rfl, _⟩ := oh.form enI_len
    try simp only [World.size_alloc] at oh
    obtain ⟨p_t0, p_t1⟩ := r_t.c2
    obtain ⟨p_w0, p_w1⟩ := r_w.c2
    obtain ⟨p_x0, p_x1⟩ := r_x.c2
    obtain ⟨p_g0, p_g1⟩ := r_g.c2
    go_wp2_with fail
    clear p_t0 p_t1 p_w0 p_w1 p_x0 p_x1 p_g0 p_g1
    refine (Tn.eq (arS size xs x) Ah Aw ch cw _ _ (arL size xs x) _ (by first | exact oh.rd enI_len | exact (oh.alloc _).rd enI_len) (by first | exact ow.rd enI_len | exact (ow.alloc _).rd enI_len) (by go_size) (by go_size)).mono ?_
    rintro e w15 ⟨rfl, hb15⟩
    have t15 : Below w14.heap.size w14 w15 := Below.then_ (by go_grown) hb15 (by go_size)
    have z15 := t15.size
    have r_h := RowB.below (RowB.new _ _ _) hb15 (by go_size)
    have l_h := r_h.lt
    have r_t := r_t.below t15 (by omega)
    have l_t := r_t.lt
    have r_w := r_w.below t15 (by omega)
    have l_w := r_w.lt
    have r_x := r_x.below t15 (by omega)
    have l_x := r_x.lt
    have r_g := r_g.below t15 (by omega)
    have l_g := r_g.lt
    have o2 := o2.below t15 (by omega)
    have ow := ow.below t15 (by omega)
    have o4 := o4.below t15 (by omega)
    have og := og.below t15 (by omega)
    have o11 := o11.below t15 (by omega)
    have oh := oh.below t15 (by omega)
    have hr := hr.below t15 (by omega)
    have q15 := q14.trans (t15.mono q14.size)
    clear hb15 t15 q14
    obtain ⟨p_t0, p_t1⟩ := r_t.c2
    obtain ⟨p_w0, p_w1⟩ := r_w.c2
    obtain ⟨p_x0, p_x1⟩ := r_x.c2
    obtain ⟨p_g0, p_g1⟩ := r_g.c2
    obtain ⟨p_h0, p_h1⟩ := r_h.c2
    go_wp2_with fail
    clear p_t0 p_t1 p_w0 p_w1 p_x0 p_x1 p_g0 p_g1 p_h0 p_h1
    refine (Tn.held (arS size xs x) _ _ Ag cg 1 _ (by go_size) (by omega) (by omega) (og.rd enI_len)).mono ?_
    rintro e w16 ⟨rfl, hb16⟩
    have t16 : Below w15.heap.size w15 w16 := Below.then_ (by go_grown) hb16 (by go_size)
    have z16 := t16.size
    have r_t := r_t.below t16 (by omega)
    have l_t := r_t.lt
    have r_w := r_w.below t16 (by omega)
    have l_w := r_w.lt
    have r_x := r_x.below t16 (by omega)
    have l_x := r_x.lt
    have r_g := r_g.below t16 (by omega)
    have l_g := r_g.lt
    have r_h := r_h.below t16 (by omega)
    have l_h := r_h.lt
    have o2 := o2.below t16 (by omega)
    have ow := ow.below t16 (by omega)
    have o4 := o4.below t16 (by omega)
    have og := og.below t16 (by omega)
    have o11 := o11.below t16 (by omega)
    have oh := oh.below t16 (by omega)
    have hr := hr.below t16 (by omega)
    have q16 := q15.trans (t16.mono q15.size)
    clear hb16 t16 q15
    obtain ⟨p_t0, p_t1⟩ := r_t.c2
    obtain ⟨p_w0, p_w1⟩ := r_w.c2
    obtain ⟨p_x0, p_x1⟩ := r_x.c2
    obtain ⟨p_g0, p_g1⟩ := r_g.c2
    obtain ⟨p_h0, p_h1⟩ := r_h.c2
    go_wp2_with fail
    go_ret
    exact ⟨rfl, q16⟩
  · go_enter Try.func13, Try.ntmps13
    go_wp2_with fail
    refine (Tn.sz size A xs.length cp 1048576 _ hr.1 (by decide) (by decide)).mono ?_
    rw [if_pos (by omega)]
    rintro e w1 ⟨rfl, hb1⟩
    have t1 : Below W.heap.size W w1 := Below.then_ (by go_grown) hb1 (by go_size)
    have z1 := t1.size
    have q1 := t1
    clear hb1 t1
    go_wp2_with fail
    go_ret
    exact ⟨rfl, q1⟩

end Go.Proofs.Ytoicppnkkhajeaa.TournLaws9
