/-
  The law on SummaryOf. Conditions: none beyond the given row's.
-/
import Derived.Test.YtahpdboehpicoaaSummS
import Derived.Test.YtahpdboehpicoaaSummI
import Derived.Test.YtahpdboehpicoaaSumFam
set_option linter.unusedVariables false
namespace Go.Proofs.Ytahpdboehpicoaa.SumLaw
open Go.ChangeShapes Go.WideShapes Go.ChangeAt Go.RowKit Base Base2 Ints Own Summ SummS SummI

theorem smR_len {xs : List V4} {pl : Int} {a b c d : Int} {gs : List Int} {co : Int} (h : smR xs pl = ((a, b, c, d, gs), co)) : gs.length ≤ 4 := by
  unfold smR at h
  split at h
  · simp only [Prod.mk.injEq] at h; rw [← h.1.2.2.2.2]; decide
  · split at h
    · simp only [Prod.mk.injEq] at h; rw [← h.1.2.2.2.2]; decide
    · split at h
      · rename_i ha
        have := (smS_bd (pl := pl) ha xs.length (Nat.le_refl _)).2.2.2.2.1
        simp only [Prod.mk.injEq] at h
        rw [h.1] at this
        simp only at this
        omega
      · simp only [Prod.mk.injEq] at h; rw [← h.1.2.2.2.2]; decide

set_option maxHeartbeats 8000000 in
set_option maxRecDepth 100000 in
theorem summaryOf (A : Option Addr) (cp : Nat) (xs : List V4) (pl : Int) (W : World) (hr : RdS W W.heap.size 4 enI4 A xs) (hw : ∀ x ∈ xs, WfI4 x) (hp : (Lit.int .i64 pl).wf = true) :
    Calls Try.prog 7 #[.slice A xs.length cp, .int .i64 pl] W fun e w' => e = .returned (.bool true) ∧ Below W.heap.size W w' := by
  clear hw hp
  by_cases hn : xs.length ≤ 1048576
  case neg =>
    go_enter Try.func7, Try.ntmps7
    go_wp2_with fail
    refine (VdS.szS A xs.length cp 1048576 _ hr.1 (by decide) (by decide)).mono ?_
    rw [if_pos (by omega)]
    rintro e w1 ⟨rfl, rfl⟩
    go_wp2_with fail
    go_ret
    exact ⟨rfl, by go_grown⟩
  rcases hst : smR xs pl with ⟨⟨a, b, c, d, gs⟩, co⟩
  have hlen := smR_len hst
  have HS := Lib.hid hst; clear hst
  have ec : (co != co) = false := by simp
  go_enter Try.func7, Try.ntmps7
  go_wp2_with fail
  refine (VdS.szS A xs.length cp 1048576 _ hr.1 (by decide) (by decide)).mono ?_
  rw [if_neg (by omega)]
  rintro e w0 ⟨rfl, rfl⟩
  go_wp2_with fail
  refine (VdS.copyS W.heap.size A cp xs _ (by go_size) hn hr).mono ?_
  rintro e w1 ⟨A1, rfl, hb1, o1⟩
  have t1 : Below W.heap.size W w1 := Below.then_ (by go_grown) hb1 (by go_size)
  have z1 := t1.size
  have hr := hr.below t1 (by omega)
  have q1 := t1
  clear hb1 t1
  go_wp2_with fail
  refine (smSp A1 xs.length _ xs pl _ a b c d gs co (by go_size) (o1.rd enI4_len) HS.out).mono ?_
  rintro e w2 ⟨Aw, cw, rfl, hb2, ow⟩
  have t2 : Below w1.heap.size w1 w2 := Below.then_ (by go_grown) hb2 (by go_size)
  have z2 := t2.size
  have o1 := o1.below t2 (by omega)
  have hr := hr.below t2 (by omega)
  have q2 := q1.trans (t2.mono q1.size)
  clear hb2 t2 q1
  go_wp2_with fail
  refine (VdS.copyS W.heap.size A cp xs _ (by go_size) hn (hr.below (B' := w2.heap.size) (by go_grown) (by go_size))).mono ?_
  rintro e w3 ⟨Ax, rfl, hb3, ox⟩
  have t3 : Below w2.heap.size w2 w3 := Below.then_ (by go_grown) hb3 (by go_size)
  have z3 := t3.size
  have r_w := RowB.below (RowB.new _ _ _) hb3 (by go_size)
  have l_w := r_w.lt
  have o1 := o1.below t3 (by omega)
  have ow := ow.below t3 (by omega)
  have hr := hr.below t3 (by omega)
  have q3 := q2.trans (t3.mono q2.size)
  clear hb3 t3 q2
  obtain ⟨p_w0, p_w1, p_w2, p_w3, p_w4⟩ := r_w.c5
  have ox := OwnS.less (lo' := w2.heap.size + 1) ox (by go_size)
  go_wp2_with fail
  clear p_w0 p_w1 p_w2 p_w3 p_w4
  refine (smIm Ax xs.length _ xs pl _ a b c d gs co (by go_size) (ox.rd enI4_len) HS.out).mono ?_
  rintro e w4 ⟨Ag, cg, rfl, hb4, og⟩
  have t4 : Below w3.heap.size w3 w4 := Below.then_ (by go_grown) hb4 (by go_size)
  have z4 := t4.size
  have r_w := r_w.below t4 (by omega)
  have l_w := r_w.lt
  have o1 := o1.below t4 (by omega)
  have ow := ow.below t4 (by omega)
  have ox := ox.below t4 (by omega)
  have hr := hr.below t4 (by omega)
  have q4 := q3.trans (t4.mono q3.size)
  clear hb4 t4 q3
  obtain ⟨p_w0, p_w1, p_w2, p_w3, p_w4⟩ := r_w.c5
  go_wp2_with fail
  clear p_w0 p_w1 p_w2 p_w3 p_w4
  refine (SummF.eq a b c d Ag Aw cg cw _ _ gs _ (by first | exact og.rd enI_len | exact (og.alloc _).rd enI_len) (by first | exact ow.rd enI_len | exact (ow.alloc _).rd enI_len) (by go_size) (by go_size)).mono ?_
  rintro e w5 ⟨rfl, hb5⟩
  have t5 : Below w4.heap.size w4 w5 := Below.then_ (by go_grown) hb5 (by go_size)
  have z5 := t5.size
  have r_g := RowB.below (RowB.new _ _ _) hb5 (by go_size)
  have l_g := r_g.lt
  have r_w := r_w.below t5 (by omega)
  have l_w := r_w.lt
  have o1 := o1.below t5 (by omega)
  have ow := ow.below t5 (by omega)
  have ox := ox.below t5 (by omega)
  have og := og.below t5 (by omega)
  have hr := hr.below t5 (by omega)
  have q5 := q4.trans (t5.mono q4.size)
  clear hb5 t5 q4
  obtain ⟨p_w0, p_w1, p_w2, p_w3, p_w4⟩ := r_w.c5
  obtain ⟨p_g0, p_g1, p_g2, p_g3, p_g4⟩ := r_g.c5
  have hrx := ox.block
  have hrow := og.block
  go_wp2_with fail
  clear p_w0 p_w1 p_w2 p_w3 p_w4 p_g0 p_g1 p_g2 p_g3 p_g4
  refine (VdS.copyS W.heap.size A cp xs _ (by go_size) hn hr).mono ?_
  rintro e w6 ⟨A2, rfl, hb6, o2⟩
  have t6 : Below w5.heap.size w5 w6 := Below.then_ (by go_grown) hb6 (by go_size)
  have z6 := t6.size
  have r_w := r_w.below t6 (by omega)
  have l_w := r_w.lt
  have r_g := r_g.below t6 (by omega)
  have l_g := r_g.lt
  have o1 := o1.below t6 (by omega)
  have ow := ow.below t6 (by omega)
  have ox := ox.below t6 (by omega)
  have og := og.below t6 (by omega)
  have hr := hr.below t6 (by omega)
  have q6 := q5.trans (t6.mono q5.size)
  clear hb6 t6 q5
  obtain ⟨p_w0, p_w1, p_w2, p_w3, p_w4⟩ := r_w.c5
  obtain ⟨p_g0, p_g1, p_g2, p_g3, p_g4⟩ := r_g.c5
  go_wp2_with fail
  clear p_w0 p_w1 p_w2 p_w3 p_w4 p_g0 p_g1 p_g2 p_g3 p_g4
  refine (VdS.eqS _ _ Ax A2 xs.length xs.length xs _ (ox.rd enI4_len) (o2.rd enI4_len) (by go_size) (by go_size)).mono ?_
  rintro e w7 ⟨rfl, hb7⟩
  have t7 : Below w6.heap.size w6 w7 := Below.then_ (by go_grown) hb7 (by go_size)
  have z7 := t7.size
  have r_w := r_w.below t7 (by omega)
  have l_w := r_w.lt
  have r_g := r_g.below t7 (by omega)
  have l_g := r_g.lt
  have o1 := o1.below t7 (by omega)
  have ow := ow.below t7 (by omega)
  have ox := ox.below t7 (by omega)
  have og := og.below t7 (by omega)
  have o2 := o2.below t7 (by omega)
  have hr := hr.below t7 (by omega)
  have q7 := q6.trans (t7.mono q6.size)
  clear hb7 t7 q6
  obtain ⟨p_w0, p_w1, p_w2, p_w3, p_w4⟩ := r_w.c5
  obtain ⟨p_g0, p_g1, p_g2, p_g3, p_g4⟩ := r_g.c5
  go_wp2_with fail
  clear p_w0 p_w1 p_w2 p_w3 p_w4 p_g0 p_g1 p_g2 p_g3 p_g4
  refine (VdS.markS _ _ _ 1 xs _ hn (by omega) ox).mono ?_
  rintro e w8 ⟨rfl, hb8, ox⟩
  have t8 := below_grown (w := w7) (by go_grown) hb8
  have z8 := t8.size
  have r_w := r_w.grown t8 (fun g hg => by have := hrx g hg; omega)
  have l_w := r_w.lt
  have r_g := r_g.grown t8 (fun g hg => by have := hrx g hg; omega)
  have l_g := r_g.lt
  have o1 := o1.grown t8 (fun g hg => by have := hrx g hg; omega)
  have ow := ow.grown t8 (fun g hg => by have := hrx g hg; omega)
  have og := og.grown t8 (fun g hg => by have := hrx g hg; omega)
  have o2 := o2.grown t8 (fun g hg => by have := hrx g hg; omega)
  have hr := hr.grown t8 (by omega) (fun g hg => by have := hrx g hg; omega)
  have q8 := q7.grown t8 q7.size (fun g hg => by have := hrx g hg; omega)
  clear hb8 t8 q7
  obtain ⟨p_w0, p_w1, p_w2, p_w3, p_w4⟩ := r_w.c5
  obtain ⟨p_g0, p_g1, p_g2, p_g3, p_g4⟩ := r_g.c5
  have hm0 : decide (((1 + xs.length * 4 : Nat) : Int) < 0) = false := decide_eq_false (by omega)
  go_wp2_with fail
  clear p_w0 p_w1 p_w2 p_w3 p_w4 p_g0 p_g1 p_g2 p_g3 p_g4
  refine (SummF.eq a b c d Ag Aw cg cw _ _ gs _ (by first | exact og.rd enI_len | exact (og.alloc _).rd enI_len) (by first | exact ow.rd enI_len | exact (ow.alloc _).rd enI_len) (by go_size) (by go_size)).mono ?_
  rintro e w9 ⟨rfl, hb9⟩
  have t9 : Below w8.heap.size w8 w9 := Below.then_ (by go_grown) hb9 (by go_size)
  have z9 := t9.size
  have r_w := r_w.below t9 (by omega)
  have l_w := r_w.lt
  have r_g := r_g.below t9 (by omega)
  have l_g := r_g.lt
  have o1 := o1.below t9 (by omega)
  have ow := ow.below t9 (by omega)
  have ox := ox.below t9 (by omega)
  have og := og.below t9 (by omega)
  have o2 := o2.below t9 (by omega)
  have hr := hr.below t9 (by omega)
  have q9 := q8.trans (t9.mono q8.size)
  clear hb9 t9 q8
  obtain ⟨p_w0, p_w1, p_w2, p_w3, p_w4⟩ := r_w.c5
  obtain ⟨p_g0, p_g1, p_g2, p_g3, p_g4⟩ := r_g.c5
  go_wp2_with fail
  clear p_w0 p_w1 p_w2 p_w3 p_w4 p_g0 p_g1 p_g2 p_g3 p_g4
  refine (SummF.mark a b c d _ _ cg gs.length Ag 1 gs _ (by omega) (by omega) rfl (by exact og) (by go_size)).mono ?_
  rintro e w10 ⟨rfl, hb10, og⟩
  have t10 := below_grown (w := w9) (by go_grown) hb10
  have z10 := t10.size
  have r_w := r_w.grown t10 (fun g hg => by have := hrow g hg; omega)
  have l_w := r_w.lt
  have r_g := r_g.grown t10 (fun g hg => by have := hrow g hg; omega)
  have l_g := r_g.lt
  have o1 := o1.grown t10 (fun g hg => by have := hrow g hg; omega)
  have ow := ow.grown t10 (fun g hg => by have := hrow g hg; omega)
  have ox := ox.grown t10 (fun g hg => by have := hrow g hg; omega)
  have o2 := o2.grown t10 (fun g hg => by have := hrow g hg; omega)
  have hr := hr.grown t10 (by omega) (fun g hg => by have := hrow g hg; omega)
  have q10 := q9.grown t10 q9.size (fun g hg => by have := hrow g hg; omega)
  clear hb10 t10 q9
  obtain ⟨p_w0, p_w1, p_w2, p_w3, p_w4⟩ := r_w.c5
  obtain ⟨p_g0, p_g1, p_g2, p_g3, p_g4⟩ := r_g.c5
  go_wp2_with fail
  clear p_w0 p_w1 p_w2 p_w3 p_w4 p_g0 p_g1 p_g2 p_g3 p_g4
  refine (SummF.held a b c d w4.heap.size gs.length Ag cg 1 _ (by go_size) (by omega) (by omega) (by exact og.rd enI_len)).mono ?_
  rintro e w11 ⟨rfl, hb11⟩
  have t11 : Below w10.heap.size w10 w11 := Below.then_ (by go_grown) hb11 (by go_size)
  have z11 := t11.size
  have r_w := r_w.below t11 (by omega)
  have l_w := r_w.lt
  have r_g := r_g.below t11 (by omega)
  have l_g := r_g.lt
  have o1 := o1.below t11 (by omega)
  have ow := ow.below t11 (by omega)
  have ox := ox.below t11 (by omega)
  have og := og.below t11 (by omega)
  have o2 := o2.below t11 (by omega)
  have hr := hr.below t11 (by omega)
  have q11 := q10.trans (t11.mono q10.size)
  clear hb11 t11 q10
  obtain ⟨p_w0, p_w1, p_w2, p_w3, p_w4⟩ := r_w.c5
  obtain ⟨p_g0, p_g1, p_g2, p_g3, p_g4⟩ := r_g.c5
  go_wp2_with fail
  clear p_w0 p_w1 p_w2 p_w3 p_w4 p_g0 p_g1 p_g2 p_g3 p_g4
  refine (VdS.copyS W.heap.size A cp xs _ (by go_size) hn hr).mono ?_
  rintro e w12 ⟨A3, rfl, hb12, o3⟩
  have t12 : Below w11.heap.size w11 w12 := Below.then_ (by go_grown) hb12 (by go_size)
  have z12 := t12.size
  have r_w := r_w.below t12 (by omega)
  have l_w := r_w.lt
  have r_g := r_g.below t12 (by omega)
  have l_g := r_g.lt
  have o1 := o1.below t12 (by omega)
  have ow := ow.below t12 (by omega)
  have ox := ox.below t12 (by omega)
  have og := og.below t12 (by omega)
  have o2 := o2.below t12 (by omega)
  have hr := hr.below t12 (by omega)
  have q12 := q11.trans (t12.mono q11.size)
  clear hb12 t12 q11
  obtain ⟨p_w0, p_w1, p_w2, p_w3, p_w4⟩ := r_w.c5
  obtain ⟨p_g0, p_g1, p_g2, p_g3, p_g4⟩ := r_g.c5
  go_wp2_with fail
  clear p_w0 p_w1 p_w2 p_w3 p_w4 p_g0 p_g1 p_g2 p_g3 p_g4
  refine (smIm A3 xs.length _ xs pl _ a b c d gs co (by go_size) (o3.rd enI4_len) HS.out).mono ?_
  rintro e w13 ⟨Ah, ch, rfl, hb13, oh⟩
  have t13 : Below w12.heap.size w12 w13 := Below.then_ (by go_grown) hb13 (by go_size)
  have z13 := t13.size
  have r_w := r_w.below t13 (by omega)
  have l_w := r_w.lt
  have r_g := r_g.below t13 (by omega)
  have l_g := r_g.lt
  have o1 := o1.below t13 (by omega)
  have ow := ow.below t13 (by omega)
  have ox := ox.below t13 (by omega)
  have og := og.below t13 (by omega)
  have o2 := o2.below t13 (by omega)
  have o3 := o3.below t13 (by omega)
  have hr := hr.below t13 (by omega)
  have q13 := q12.trans (t13.mono q12.size)
  clear hb13 t13 q12
  obtain ⟨p_w0, p_w1, p_w2, p_w3, p_w4⟩ := r_w.c5
  obtain ⟨p_g0, p_g1, p_g2, p_g3, p_g4⟩ := r_g.c5
  go_wp2_with fail
  clear p_w0 p_w1 p_w2 p_w3 p_w4 p_g0 p_g1 p_g2 p_g3 p_g4
  refine (SummF.eq a b c d Ah Aw ch cw _ _ gs _ (by first | exact oh.rd enI_len | exact (oh.alloc _).rd enI_len) (by first | exact ow.rd enI_len | exact (ow.alloc _).rd enI_len) (by go_size) (by go_size)).mono ?_
  rintro e w14 ⟨rfl, hb14⟩
  have t14 : Below w13.heap.size w13 w14 := Below.then_ (by go_grown) hb14 (by go_size)
  have z14 := t14.size
  have r_h := RowB.below (RowB.new _ _ _) hb14 (by go_size)
  have l_h := r_h.lt
  have r_w := r_w.below t14 (by omega)
  have l_w := r_w.lt
  have r_g := r_g.below t14 (by omega)
  have l_g := r_g.lt
  have o1 := o1.below t14 (by omega)
  have ow := ow.below t14 (by omega)
  have ox := ox.below t14 (by omega)
  have og := og.below t14 (by omega)
  have o2 := o2.below t14 (by omega)
  have o3 := o3.below t14 (by omega)
  have oh := oh.below t14 (by omega)
  have hr := hr.below t14 (by omega)
  have q14 := q13.trans (t14.mono q13.size)
  clear hb14 t14 q13
  obtain ⟨p_w0, p_w1, p_w2, p_w3, p_w4⟩ := r_w.c5
  obtain ⟨p_g0, p_g1, p_g2, p_g3, p_g4⟩ := r_g.c5
  obtain ⟨p_h0, p_h1, p_h2, p_h3, p_h4⟩ := r_h.c5
  go_wp2_with fail
  clear p_w0 p_w1 p_w2 p_w3 p_w4 p_g0 p_g1 p_g2 p_g3 p_g4 p_h0 p_h1 p_h2 p_h3 p_h4
  refine (SummF.held a b c d w4.heap.size gs.length Ag cg 1 _ (by go_size) (by omega) (by omega) (by exact og.rd enI_len)).mono ?_
  rintro e w15 ⟨rfl, hb15⟩
  have t15 : Below w14.heap.size w14 w15 := Below.then_ (by go_grown) hb15 (by go_size)
  have z15 := t15.size
  have r_w := r_w.below t15 (by omega)
  have l_w := r_w.lt
  have r_g := r_g.below t15 (by omega)
  have l_g := r_g.lt
  have r_h := r_h.below t15 (by omega)
  have l_h := r_h.lt
  have o1 := o1.below t15 (by omega)
  have ow := ow.below t15 (by omega)
  have ox := ox.below t15 (by omega)
  have og := og.below t15 (by omega)
  have o2 := o2.below t15 (by omega)
  have o3 := o3.below t15 (by omega)
  have oh := oh.below t15 (by omega)
  have hr := hr.below t15 (by omega)
  have q15 := q14.trans (t15.mono q14.size)
  clear hb15 t15 q14
  obtain ⟨p_w0, p_w1, p_w2, p_w3, p_w4⟩ := r_w.c5
  obtain ⟨p_g0, p_g1, p_g2, p_g3, p_g4⟩ := r_g.c5
  obtain ⟨p_h0, p_h1, p_h2, p_h3, p_h4⟩ := r_h.c5
  go_wp2_with fail
  go_ret
  exact ⟨rfl, q15⟩

end Go.Proofs.Ytahpdboehpicoaa.SumLaw
