/-
  The walk of the law on ErrorRate. Conditions: none beyond the given row's.
-/
import Derived.Test.YtahpdboehpicoaaSummary
set_option linter.unusedVariables false
namespace Go.Proofs.Ytahpdboehpicoaa.ErrRate
open Go.ChangeShapes Go.WideShapes Go.ChangeAt Go.RowKit Base Ints

def rate (t l : Int) : Int := if t < 1 ∨ l < 0 then 0 else wrap64 (l.tdiv t)
def code (t l : Int) : Int := if t < 1 ∨ l < 0 then 5 else 0

theorem spec (a b c d : Int) (A : Option Addr) (n cp : Nat) (w : World) :
    Calls Try.prog 19 #[.agg #[.int .i64 a, .int .i64 b, .int .i64 c, .int .i64 d, .slice A n cp]] w fun e w' => e = .returned (.tuple #[.int .i64 (rate a b), .int .i64 (code a b)]) ∧ Below w.heap.size w w' := by
  unfold rate code
  by_cases h1 : a < 1
  · rw [if_pos (.inl h1), if_pos (.inl h1)]
    go_enter Try.func19, Try.ntmps19
    go_wp2
    go_ret2
    exact ⟨rfl, by go_grown⟩
  · by_cases h2 : b < 0
    · rw [if_pos (.inr h2), if_pos (.inr h2)]
      go_enter Try.func19, Try.ntmps19
      go_wp2
      go_ret2
      exact ⟨rfl, by go_grown⟩
    · rw [if_neg (by omega), if_neg (by omega)]
      go_enter Try.func19, Try.ntmps19
      go_wp2
      go_ret2
      exact ⟨rfl, by go_grown⟩

theorem impl (a b c d : Int) (A : Option Addr) (n cp : Nat) (w : World) :
    Calls Try.prog 21 #[.agg #[.int .i64 a, .int .i64 b, .int .i64 c, .int .i64 d, .slice A n cp]] w fun e w' => e = .returned (.tuple #[.int .i64 (rate a b), .int .i64 (code a b)]) ∧ Below w.heap.size w w' := by
  unfold rate code
  by_cases h1 : a < 1
  · rw [if_pos (.inl h1), if_pos (.inl h1)]
    go_enter Try.func21, Try.ntmps21
    go_wp2
    go_ret2
    exact ⟨rfl, by go_grown⟩
  · by_cases h2 : b < 0
    · rw [if_pos (.inr h2), if_pos (.inr h2)]
      go_enter Try.func21, Try.ntmps21
      go_wp2
      go_ret2
      exact ⟨rfl, by go_grown⟩
    · rw [if_neg (by omega), if_neg (by omega)]
      go_enter Try.func21, Try.ntmps21
      go_wp2
      go_ret2
      exact ⟨rfl, by go_grown⟩

theorem law (a b c d : Int) (A : Option Addr) (cp : Nat) (gs : List Int) (W : World) (wa : (Lit.int .i64 a).wf = true) (wb : (Lit.int .i64 b).wf = true) (wc : (Lit.int .i64 c).wf = true) (wd : (Lit.int .i64 d).wf = true) (hr : RdS W W.heap.size 1 enI A gs) (_wf : ∀ x ∈ gs, (Lit.int .i64 x).wf = true) :
    Calls Try.prog 6 #[.agg #[.int .i64 a, .int .i64 b, .int .i64 c, .int .i64 d, .slice A gs.length cp]] W fun e w' => e = .returned (.bool true) ∧ Below W.heap.size W w' := by
  by_cases hn : gs.length ≤ 1048576
  · have hdec : ¬ (1048576 : Int) < (gs.length : Int) := by omega
    go_enter Try.func6, Try.ntmps6
    go_wp2_with fail
    refine (Summ.sz a b c d A gs.length cp 1048576 _ hr.1 (by decide) (by decide)).mono ?_
    rw [if_neg (by omega)]
    rintro e w1 ⟨rfl, hb1⟩
    have q1 : Below W.heap.size W w1 := Below.then_ (by go_grown) hb1 (by go_size)
    have ra := (RowB.new _ _ _).below hb1 (by go_size)
    have z1 := ra.lt
    obtain ⟨p0, p1, p2, p3, p4⟩ := ra.c5
    clear hb1
    go_wp2_with fail
    clear p0 p1 p2 p3 p4
    refine (Summ.to a b c d A cp W.heap.size gs _ q1.size hn (hr.below q1 (Nat.le_refl _))).mono ?_
    rintro e w2 ⟨g2, rfl, hb2, ho2⟩
    have q2 : Below w1.heap.size w1 w2 := Below.then_ (by go_grown) hb2 (by go_size)
    have ra := ra.below q2 z1
    have z2 := q2.size
    have q2 := q1.trans (q2.mono q1.size)
    clear hb2
    go_wp2_with fail
    refine (spec _ _ _ _ _ _ _ _).mono ?_
    rintro e w3 ⟨rfl, hb3⟩
    have q3 : Below w2.heap.size w2 w3 := Below.then_ (by go_grown) hb3 (by go_size)
    have ra := ra.below q3 (by omega)
    have z3 := q3.size
    have q3 := q2.trans (q3.mono q2.size)
    clear hb3
    obtain ⟨p0, p1, p2, p3, p4⟩ := ra.c5
    go_wp2_with fail
    clear p0 p1 p2 p3 p4
    refine (Summ.to a b c d A cp W.heap.size gs _ q3.size hn (hr.below q3 (Nat.le_refl _))).mono ?_
    rintro e w4 ⟨g4, rfl, hb4, ho4⟩
    have t4 : Below w3.heap.size w3 w4 := Below.then_ (by go_grown) hb4 (by go_size)
    have ra := ra.below t4 (by omega)
    have z4 := t4.size
    have q4 := q3.trans (t4.mono q3.size)
    clear hb4 q3 q2 q1 t4
    obtain ⟨p0, p1, p2, p3, p4⟩ := ra.c5
    go_wp2_with fail
    clear p0 p1 p2 p3 p4
    refine (impl _ _ _ _ _ _ _ _).mono ?_
    rintro e w5 ⟨rfl, hb5⟩
    have t5 : Below w4.heap.size w4 w5 := Below.then_ (by go_grown) hb5 (by go_size)
    have rx := (RowB.new _ _ _).below hb5 (by go_size)
    have ra := ra.below t5 (by omega)
    have ho4 := ho4.below t5 (Nat.le_refl _)
    have z5 := t5.size
    have q5 := q4.trans (t5.mono q4.size)
    have y5 := rx.lt
    clear hb5 q4 t5
    obtain ⟨p0, p1, p2, p3, p4⟩ := ra.c5
    obtain ⟨s0, s1, s2, s3, s4⟩ := rx.c5
    have e1 : (rate a b != rate a b) = false := by simp
    have e2 : (code a b != code a b) = false := by simp
    obtain ⟨A4, c4, hv4, rd4⟩ := ho4.form enI_len
    simp only [Value.slice.injEq] at hv4
    obtain ⟨rfl, -, rfl⟩ := hv4
    go_wp2_with fail
    go_region_held3 (fun w' => w'.cell? ⟨W.heap.size, 0, none⟩ = some (.int .i64 a) ∧ w'.cell? ⟨W.heap.size, 1, none⟩ = some (.int .i64 b) ∧ w'.cell? ⟨W.heap.size, 2, none⟩ = some (.int .i64 c) ∧ w'.cell? ⟨W.heap.size, 3, none⟩ = some (.int .i64 d) ∧ w'.cell? ⟨W.heap.size, 4, none⟩ = some (.slice A gs.length cp) ∧ w'.cell? ⟨w4.heap.size, 0, none⟩ = some (.int .i64 a) ∧ w'.cell? ⟨w4.heap.size, 1, none⟩ = some (.int .i64 b) ∧ w'.cell? ⟨w4.heap.size, 2, none⟩ = some (.int .i64 c) ∧ w'.cell? ⟨w4.heap.size, 3, none⟩ = some (.int .i64 d) ∧ w'.cell? ⟨w4.heap.size, 4, none⟩ = some (.slice (some ⟨g4, 0, none⟩) gs.length gs.length)) (first | exact ⟨p0, p1, p2, p3, p4, s0, s1, s2, s3, s4⟩ | exact ⟨(t6.cell (by go_size)).trans p0, (t6.cell (by go_size)).trans p1, (t6.cell (by go_size)).trans p2, (t6.cell (by go_size)).trans p3, (t6.cell (by go_size)).trans p4, (t6.cell (by go_size)).trans s0, (t6.cell (by go_size)).trans s1, (t6.cell (by go_size)).trans s2, (t6.cell (by go_size)).trans s3, (t6.cell (by go_size)).trans s4⟩ | exact ⟨(t7.cell (by go_size)).trans ((t6.cell (by go_size)).trans p0), (t7.cell (by go_size)).trans ((t6.cell (by go_size)).trans p1), (t7.cell (by go_size)).trans ((t6.cell (by go_size)).trans p2), (t7.cell (by go_size)).trans ((t6.cell (by go_size)).trans p3), (t7.cell (by go_size)).trans ((t6.cell (by go_size)).trans p4), (t7.cell (by go_size)).trans ((t6.cell (by go_size)).trans s0), (t7.cell (by go_size)).trans ((t6.cell (by go_size)).trans s1), (t7.cell (by go_size)).trans ((t6.cell (by go_size)).trans s2), (t7.cell (by go_size)).trans ((t6.cell (by go_size)).trans s3), (t7.cell (by go_size)).trans ((t6.cell (by go_size)).trans s4)⟩) (first | (go_at_call 20; refine (Summ.to a b c d A cp W.heap.size gs _ (by exact q5.drew.size) hn (by exact hr.below q5.drew (Nat.le_refl _))).mono ?_; rintro e w6 ⟨g6, rfl, hb6, ho6⟩; have t6 : Below w5.heap.size w5 w6 := Below.then_ (by go_grown) hb6 (by go_size); have z6 := t6.size) | (go_at_call 22; obtain ⟨A6, c6, hv6, rd6⟩ := ho6.form enI_len; simp only [Value.slice.injEq] at hv6; obtain ⟨rfl, -, rfl⟩ := hv6; refine (Summ.eq a b c d _ _ _ _ w4.heap.size w6.heap.size gs _ (rd4.below t6 (by go_size)) rd6 (by go_size) (by go_size)).mono ?_; rintro e w7 ⟨rfl, hb7⟩; have t7 : Below w6.heap.size w6 w7 := Below.then_ (by go_grown) hb7 (by go_size)))
    all_goals go_wp2_with fail
    all_goals go_ret
    all_goals exact ⟨rfl, q5.trans ((t6.mono (by go_size)).trans (t7.mono (by go_size)))⟩
  · have hdec : (1048576 : Int) < (gs.length : Int) := by omega
    go_enter Try.func6, Try.ntmps6
    go_wp2_with fail
    refine (Summ.sz a b c d A gs.length cp 1048576 _ hr.1 (by decide) (by decide)).mono ?_
    rw [if_pos (by omega)]
    rintro e w1 ⟨rfl, hb1⟩
    go_wp2_with fail
    go_ret
    exact ⟨rfl, Below.then_ (by go_grown) hb1 (by simp)⟩
end Go.Proofs.Ytahpdboehpicoaa.ErrRate
