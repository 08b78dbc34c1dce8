/-
  The law on SeedOrder. Conditions: none beyond the given row's.
-/
import Derived.Test.YtoicppnkkhajeaaOrderS
set_option linter.unusedVariables false
namespace Go.Proofs.Ytoicppnkkhajeaa.TournLaws2
open Go.ChangeShapes Go.WideShapes Go.ChangeAt Go.RowKit Base Ints Tourn1 Order OrderS

set_option maxHeartbeats 1000000 in
theorem seedOrder (size : Int) (W : World) (w1 : (Lit.int .i64 size).wf = true) :
    Calls Try.prog 3 #[.int .i64 size] W fun e w' => e = .returned (.bool true) ∧ Below W.heap.size W w' := by
  have hsl := sd_len size
  go_enter Try.func3, Try.ntmps3
  go_wp2_with fail
  refine (sd_spec size _).mono ?_
  rintro e w1 ⟨⟨vw, rfl, ow⟩, hb1⟩
  have t1 : Below W.heap.size W w1 := Below.then_ (by go_grown) hb1 (by go_size)
  have z1 := t1.size
  have q1 := t1
  clear hb1 t1
  obtain ⟨Aw, cw, rfl, _⟩ := ow.form enI_len
  go_wp2_with fail
  refine (sd_impl size _).mono ?_
  rintro e w2 ⟨⟨vg, rfl, og⟩, hb2⟩
  have t2 : Below w1.heap.size w1 w2 := Below.then_ (by go_grown) hb2 (by go_size)
  have z2 := t2.size
  have ow := ow.below t2 (by omega)
  have q2 := q1.trans (t2.mono q1.size)
  clear hb2 t2 q1
  obtain ⟨Ag, cg, rfl, _⟩ := og.form enI_len
  go_wp2_with fail
  refine (eqI_b _ _ Ag Aw cg cw (sd size) _ (og.rd enI_len) (ow.rd enI_len)).mono ?_
  rintro e w3 ⟨rfl, hb3⟩
  have t3 : Below w2.heap.size w2 w3 := Below.then_ (by go_grown) hb3 (by go_size)
  have z3 := t3.size
  have ow := ow.below t3 (by omega)
  have og := og.below t3 (by omega)
  have q3 := q2.trans (t3.mono q2.size)
  clear hb3 t3 q2
  have hrow := og.block
  go_wp2_with fail
  refine (markI _ _ _ 1 (sd size) _ (by omega) (by omega) og).mono ?_
  rintro e w4 ⟨rfl, hb4, og⟩
  have t4 := below_grown (w := w3) (by go_grown) hb4
  have z4 := t4.size
  have ow := ow.grown t4 (fun g hg => by have := hrow g hg; omega)
  have q4 := q3.grown t4 q3.size (fun g hg => by have := hrow g hg; omega)
  clear hb4 t4 q3
  go_wp2_with fail
  refine (heldI _ Ag cg 1 _ _ (by omega) (by omega) (og.rd enI_len)).mono ?_
  rintro e w' ⟨rfl, rfl⟩
  go_wp2_with fail
  refine (sd_impl size _).mono ?_
  rintro e w5 ⟨⟨vh, rfl, oh⟩, hb5⟩
  have t5 : Below w4.heap.size w4 w5 := Below.then_ (by go_grown) hb5 (by go_size)
  have z5 := t5.size
  have ow := ow.below t5 (by omega)
  have og := og.below t5 (by omega)
  have q5 := q4.trans (t5.mono q4.size)
  clear hb5 t5 q4
  obtain ⟨Ah, ch, rfl, _⟩ := oh.form enI_len
  go_wp2_with fail
  refine (eqI_b _ _ Ah Aw ch cw (sd size) _ (oh.rd enI_len) (ow.rd enI_len)).mono ?_
  rintro e w6 ⟨rfl, hb6⟩
  have t6 : Below w5.heap.size w5 w6 := Below.then_ (by go_grown) hb6 (by go_size)
  have z6 := t6.size
  have ow := ow.below t6 (by omega)
  have og := og.below t6 (by omega)
  have oh := oh.below t6 (by omega)
  have q6 := q5.trans (t6.mono q5.size)
  clear hb6 t6 q5
  go_wp2_with fail
  refine (heldI _ Ag cg 1 _ _ (by omega) (by omega) (og.rd enI_len)).mono ?_
  rintro e w' ⟨rfl, rfl⟩
  go_wp2_with fail
  go_ret
  exact ⟨rfl, q6⟩

end Go.Proofs.Ytoicppnkkhajeaa.TournLaws2
