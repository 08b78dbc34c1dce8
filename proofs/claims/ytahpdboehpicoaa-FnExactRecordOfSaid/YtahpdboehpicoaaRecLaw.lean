/-
  RecordOf of the program and of the reference, and the law on it. Conditions: none beyond the given row's.
-/
import Derived.Test.YtahpdboehpicoaaRecord
import Derived.Test.YtahpdboehpicoaaInts
set_option linter.unusedVariables false
namespace Go.Proofs.Ytahpdboehpicoaa.RecLaw
open Go.ChangeShapes Go.WideShapes Go.ChangeAt Go.RowKit Base Bytes Own Checksum Record Ints

theorem ret_b {v : Value} {b c : Bool} (h : b = c) : Ending.returned (.tuple #[v, .bool b]) = Ending.returned (.tuple #[v, .bool c]) := by rw [h]
theorem rcS (s : ByteArray) (w : World) (hs : s.size ≤ 9223372036854775807) :
    Calls Try.prog 14 #[.string s] w fun e w' => (∃ v, e = .returned (.tuple #[v, .bool (rcB s)]) ∧ OwnS w' w.heap.size w'.heap.size 5 1 enB v (rcL s)) ∧ Below w.heap.size w w' := by
  by_cases h : s.size ≤ 250
  · have HB : Hid (true = rcB s) := by unfold rcB; rw [decide_eq_true h]; rfl
    have HL : Hid (rcL s = recL s) := by unfold rcL; rw [if_pos h]; rfl
    have hi : (s.size : Int) ≤ 250 := by omega
    go_enter Try.func14, Try.ntmps14
    go_wp2_with fail
    refine (recS s _ h).mono ?_
    rintro e w1 ⟨⟨v, rfl, o1⟩, q1⟩
    have o1 := Lib.hid o1
    go_wp2_with fail
    go_ret2
    exact ⟨⟨_, ret_b HB.out, by rw [HL.out]; exact o1.out⟩, q1⟩
  · have HB : Hid (false = rcB s) := by unfold rcB; rw [decide_eq_false h]; rfl
    have HL : Hid (rcL s = []) := by unfold rcL; rw [if_neg h]; rfl
    have hi : (250 : Int) < (s.size : Int) := by omega
    have o1 := Lib.hid ((RowB.new w 5 []).own (xs := ([] : List Int)) (en := enB) enB_len (Nat.le_refl _) (by simp) (by decide) : OwnS _ w.heap.size (w.alloc (.cells #[] 5)).heap.size 5 1 enB _ [])
    go_enter Try.func14, Try.ntmps14
    go_wp2_with fail
    go_ret2
    exact ⟨⟨_, ret_b HB.out, by rw [HL.out]; exact o1.out⟩, by go_grown⟩
theorem rcI (s : ByteArray) (w : World) (hs : s.size ≤ 9223372036854775807) :
    Calls Try.prog 15 #[.string s] w fun e w' => (∃ v, e = .returned (.tuple #[v, .bool (rcB s)]) ∧ OwnS w' w.heap.size w'.heap.size 5 1 enB v (rcL s)) ∧ Below w.heap.size w w' := by
  by_cases h : s.size ≤ 250
  · have HB : Hid (true = rcB s) := by unfold rcB; rw [decide_eq_true h]; rfl
    have HL : Hid (rcL s = recL s) := by unfold rcL; rw [if_pos h]; rfl
    have hi : (s.size : Int) ≤ 250 := by omega
    go_enter Try.func15, Try.ntmps15
    go_wp2_with fail
    refine (recI s _ h).mono ?_
    rintro e w1 ⟨⟨v, rfl, o1⟩, q1⟩
    have o1 := Lib.hid o1
    go_wp2_with fail
    go_ret2
    exact ⟨⟨_, ret_b HB.out, by rw [HL.out]; exact o1.out⟩, q1⟩
  · have HB : Hid (false = rcB s) := by unfold rcB; rw [decide_eq_false h]; rfl
    have HL : Hid (rcL s = []) := by unfold rcL; rw [if_neg h]; rfl
    have hi : (250 : Int) < (s.size : Int) := by omega
    go_enter Try.func15, Try.ntmps15
    go_wp2_with fail
    go_ret2
    exact ⟨⟨_, ret_b HB.out, by rw [HL.out]; exact OwnS.nil_ _ _ _ _ _ _⟩, Below.refl _ _⟩

theorem markB (lo hi : Nat) (v : Value) (k : Nat) (xs : List Int) (w : World) (hn : k + xs.length ≤ 256) (h : OwnS w lo hi 5 1 enB v xs) :
    Calls Try.prog 16 #[v, .int .i64 k] w fun e w' => e = .returned (.int .i64 ((k + xs.length : Nat) : Int)) ∧ w.grownBy w' v.ownBlock ∧ OwnS w' lo hi 5 1 enB v (marks k xs.length) := by
  rcases h.cases_ with ⟨rfl, rfl⟩ | ⟨g, cap, rest, rfl, hlo, hhi, hR0, hnc, hcm, hl⟩
  · go_enter Try.func16, Try.ntmps16
    go_wp2
    go_rounds 1
    go_ret
    exact ⟨rfl, grownBy_refl _ _, OwnS.nil_ _ _ _ _ _ _⟩
  · generalize hnn : xs.length = n at *
    have H := Lib.hid hnn; clear hnn
    have HL := Lib.hid hl; clear hl
    have hR0 := Lib.hid hR0
    unfold maxLen at hcm
    go_enter Try.func16, Try.ntmps16
    go_wp2
    go_loopw [1, 5] (fun q i wr => ∃ j : Nat, j ≤ n ∧ i = .int .i64 j ∧ q = .int .i64 ((k : Int) + (j : Int)) ∧ w.grownBy wr (some g) ∧ Hid (RowB wr g 5 ((marks k j ++ xs.drop j).flatMap enB ++ rest))) (fun _ i _ => n - (intOf i).toNat)
    case atStart => exact ⟨0, Nat.zero_le _, rfl, by go_num, grownBy_refl _ _, by simpa [marks] using hR0⟩
    case round =>
      obtain ⟨j, hj, rfl, rfl, hgr, hR⟩ := hrel
      clear hR0
      by_cases hlt : j < n
      · obtain ⟨z, hz⟩ : ∃ z, wr.cell? ⟨g, j, none⟩ = some z := by
          rw [hR.out.cell]
          refine ⟨_, List.getElem?_eq_getElem ?_⟩
          rw [List.length_append, flatMap_len enB_len, List.length_append, marks_len, List.length_drop, H.out]; omega
        have hfz := hR.out.frozen j
        have ew : IntKind.u8.wrap ((k : Int) + (j : Int)) = (k : Int) + (j : Int) := IntWalk.u8_in _ (by omega)
        go_wp2
        go_roundw
        case rel =>
          refine ⟨j + 1, by omega, by go_num, by go_num, grownBy_trans hgr (grownBy_setCell _ _ _ _), ?_⟩
          have := hR.out.set j (.int .u8 ((k : Int) + (j : Int)))
          rw [marks_succ, List.append_assoc]
          rw [List.flatMap_append, List.drop_eq_getElem_cons (by rw [H.out]; exact hlt), List.flatMap_cons] at this
          rw [List.append_assoc] at this
          simp only [enB, List.cons_append, List.nil_append] at this
          rw [set_at _ _ _ _ (by rw [flatMap_len enB_len, marks_len]; omega)] at this
          rw [List.flatMap_append, List.flatMap_append, List.append_assoc, List.append_assoc]
          exact this
        case measure => simp [intOf]; omega
      · obtain rfl : j = n := by omega
        have hR' := hR.out
        clear hR
        rw [List.drop_of_length_le (by rw [H.out]; exact Nat.le_refl _), List.append_nil] at hR'
        have hR := Lib.hid hR'; clear hR'
        go_wp2
        go_ret
        refine ⟨by simp, hgr, ?_⟩
        have hml := marks_len k j
        have := OwnS.mk_ (lo := lo) (hi := hi) (cap := cap) enB_len hR.out hlo hhi (by rw [hml]; omega) (by unfold maxLen; omega) (by rw [hml]; exact HL.out)
        rw [hml] at this
        exact this

theorem heldB (B : Nat) (A : Option Addr) (c k n : Nat) (w : World) (hn : k + n ≤ 256) (h : RdS w B 1 enB A (marks k n)) :
    Calls Try.prog 17 #[.slice A n c, .int .i64 k] w fun e w' => e = .returned (.int .i64 ((k + n : Nat) : Int)) ∧ w = w' := by
  go_enter Try.func17, Try.ntmps17
  go_wp2
  go_loop [1, 5] (fun q i => ∃ j : Nat, j ≤ n ∧ i = .int .i64 j ∧ q = .int .i64 ((k : Int) + (j : Int))) (fun _ i => n - (intOf i).toNat)
  case atStart => exact ⟨0, Nat.zero_le _, rfl, by go_num⟩
  case round =>
    obtain ⟨j, hj, rfl, rfl⟩ := hrel
    by_cases hlt : j < n
    · obtain ⟨b, off, x, rfl, hb, hx, hc⟩ := rdI_at h (by rw [marks_len]; exact hlt)
      rw [marks_at k n j hlt] at hx
      obtain rfl : ((k + j : Nat) : Int) = x := by simpa using hx
      clear hx
      rw [Int.natCast_add] at hc
      have e1 : (((k : Int) + (j : Int)) != ((k : Int) + (j : Int))) = false := by simp
      have ew : IntKind.u8.wrap ((k : Int) + (j : Int)) = (k : Int) + (j : Int) := IntWalk.u8_in _ (by omega)
      go_wp2
      go_round
      case rel => exact ⟨j + 1, by omega, by go_num, by go_num⟩
      case measure => simp [intOf]; omega
    · obtain rfl : j = n := by omega
      go_wp2
      go_ret
      exact ⟨by simp, rfl⟩

set_option maxHeartbeats 4000000 in
theorem recordOf (s : ByteArray) (W : World) (hs : s.size ≤ maxLen) :
    Calls Try.prog 5 #[.string s] W fun e w' => e = .returned (.bool true) ∧ Below W.heap.size W w' := by
  unfold maxLen at hs
  by_cases hn : s.size ≤ 1048576
  case neg =>
    have hn' : (1048576 : Int) < (s.size : Int) := by omega
    go_enter Try.func5, Try.ntmps5
    go_wp2_with fail
    go_ret
    exact ⟨rfl, Below.refl _ _⟩
  have hn' : (s.size : Int) ≤ 1048576 := by omega
  have hlen := rcL_len s
  have eb : (rcB s != rcB s) = false := by simp
  go_enter Try.func5, Try.ntmps5
  go_wp2_with fail
  refine (rcS s _ (by omega)).mono ?_
  rintro e w1 ⟨⟨vw, rfl, ow⟩, hb1⟩
  have t1 : Below W.heap.size W w1 := Below.then_ (by go_grown) hb1 (by go_size)
  have z1 := t1.size
  have q1 := t1
  clear hb1 t1
  obtain ⟨Aw, cw, rfl, _⟩ := ow.form enB_len
  go_wp2_with fail
  refine (rcI s _ (by omega)).mono ?_
  rintro e w2 ⟨⟨vg, rfl, og⟩, hb2⟩
  have t2 : Below w1.heap.size w1 w2 := Below.then_ (by go_grown) hb2 (by go_size)
  have z2 := t2.size
  have ow := ow.below t2 (by omega)
  have q2 := q1.trans (t2.mono q1.size)
  clear hb2 t2 q1
  obtain ⟨Ag, cg, rfl, _⟩ := og.form enB_len
  have hrow := og.block
  go_wp2_with fail
  refine (eqB_b _ _ Ag Aw cg cw (rcL s) _ (og.rd enB_len) (ow.rd enB_len)).mono ?_
  rintro e w3 ⟨rfl, hb3⟩
  have t3 : Below w2.heap.size w2 w3 := Below.then_ (by go_grown) hb3 (by go_size)
  have z3 := t3.size
  have ow := ow.below t3 (by omega)
  have og := og.below t3 (by omega)
  have q3 := q2.trans (t3.mono q2.size)
  clear hb3 t3 q2
  go_wp2_with fail
  refine (markB _ _ _ 1 (rcL s) _ (by omega) og).mono ?_
  rintro e w4 ⟨rfl, hb4, og⟩
  have t4 := below_grown (w := w3) (by go_grown) hb4
  have z4 := t4.size
  have ow := ow.grown t4 (fun g hg => by have := hrow g hg; omega)
  have q4 := q3.grown t4 q3.size (fun g hg => by have := hrow g hg; omega)
  clear hb4 t4 q3
  have hm1 : decide (((1 + (rcL s).length : Nat) : Int) < 0) = false := decide_eq_false (by omega)
  go_wp2_with fail
  refine (heldB _ Ag cg 1 (rcL s).length _ (by omega) (og.rd enB_len)).mono ?_
  rintro e w' ⟨rfl, rfl⟩
  go_wp2_with fail
  refine (rcI s _ (by omega)).mono ?_
  rintro e w5 ⟨⟨vh, rfl, oh⟩, hb5⟩
  have t5 : Below w4.heap.size w4 w5 := Below.then_ (by go_grown) hb5 (by go_size)
  have z5 := t5.size
  have ow := ow.below t5 (by omega)
  have og := og.below t5 (by omega)
  have q5 := q4.trans (t5.mono q4.size)
  clear hb5 t5 q4
  obtain ⟨Ah, ch, rfl, _⟩ := oh.form enB_len
  go_wp2_with fail
  refine (eqB_b _ _ Ah Aw ch cw (rcL s) _ (oh.rd enB_len) (ow.rd enB_len)).mono ?_
  rintro e w6 ⟨rfl, hb6⟩
  have t6 : Below w5.heap.size w5 w6 := Below.then_ (by go_grown) hb6 (by go_size)
  have z6 := t6.size
  have ow := ow.below t6 (by omega)
  have og := og.below t6 (by omega)
  have oh := oh.below t6 (by omega)
  have q6 := q5.trans (t6.mono q5.size)
  clear hb6 t6 q5
  go_wp2_with fail
  refine (heldB _ Ag cg 1 (rcL s).length _ (by omega) (og.rd enB_len)).mono ?_
  rintro e w' ⟨rfl, rfl⟩
  go_wp2_with fail
  go_ret
  exact ⟨rfl, q6⟩

end Go.Proofs.Ytahpdboehpicoaa.RecLaw
