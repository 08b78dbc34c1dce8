/-
  The contract of IsClockState, of the program and of the reference. Conditions: each theorem's own.
-/
import Derived.Test.YtdjopnhbcchedaaClock
set_option linter.unusedVariables false
namespace Go.Proofs.Ytdjopnhbcchedaa.ClockSt
open Go.ChangeShapes Go.WideShapes Go.ChangeAt Go.RowKit Base Ints Clock


set_option maxHeartbeats 4000000 in
theorem isCS_spec (r d b : Int) (A : Option Addr) (cp B : Nat) (xs : List Int) (turn since used : Int) (run : Bool) (fallen : Int) (w : World) (hB : B ≤ w.heap.size) (hr : RdS w B 1 enI A xs) :
    Calls Try.prog 22 #[.agg #[.int .i64 r, .int .i64 d, .int .i64 b], .agg #[.slice A xs.length cp, .int .i64 turn, .int .i64 since, .int .i64 used, .bool run, .int .i64 fallen]] w fun e w' => e = .returned (.bool (okCS r d b xs turn since used run fallen)) ∧ Below w.heap.size w w' := by
  have hn := hr.len
  by_cases h0 : okCR r d b = true
  · by_cases hx : ∃ x y, xs = [x, y]
    · obtain ⟨x, y, rfl⟩ := hx
      have hM : okCS r d b [x, y] turn since used run fallen = decide (0 ≤ x ∧ x ≤ 100000000 ∧ 0 ≤ y ∧ y ≤ 100000000 ∧ 0 ≤ turn ∧ turn ≤ 1 ∧ 0 ≤ since ∧ since ≤ 100000000 ∧ 0 ≤ used ∧ used ≤ 100000000 ∧ (fallen = -1 ∨ fallen = turn ∧ run = false)) := by simp [okCS, h0]
      rw [hM]
      have HM := Lib.hid hM; clear hM HM
      obtain ⟨bk, off, x', rfl, hb, hx0, hc0⟩ := rdI_at hr (i := 0) (by simp)
      obtain ⟨bk', off', y', e1, hb', hx1, hc1⟩ := rdI_at hr (i := 1) (by simp)
      simp only [Option.some.injEq, Addr.mk.injEq, and_true] at e1
      obtain ⟨rfl, rfl⟩ := e1
      simp only [List.getElem?_cons_zero, List.getElem?_cons_succ, Option.some.injEq] at hx0 hx1
      subst hx0 hx1
      simp only [Nat.add_zero] at hc0
      clear hr
      simp only [List.length_cons, List.length_nil, Nat.zero_add, Nat.reduceAdd]
      go_enter Try.func22, Try.ntmps22
      go_wp2_with fail
      refine (isCR_spec r d b _).mono ?_
      rw [h0]
      rintro e w1 ⟨rfl, hb1⟩
      have rs := (RowB.new _ _ _).below hb1 (by simp)
      have d0 := (Below.then_ (B := w.heap.size) (a := w) (by go_grown) hb1 (by simp; omega)).cell (p := ⟨bk, off, none⟩) (by show bk < _; omega)
      have d1 := (Below.then_ (B := w.heap.size) (a := w) (by go_grown) hb1 (by simp; omega)).cell (p := ⟨bk, off + 1, none⟩) (by show bk < _; omega)
      have q1 : Below w.heap.size w w1 := Below.then_ (by go_grown) hb1 (by simp; omega)
      rw [hc0] at d0
      rw [hc1] at d1
      simp only [World.size_alloc] at rs
      obtain ⟨p0, p1, p2, p3, p4, p5⟩ := rs.c6
      clear hc0 hc1 hb1 rs h0
      by_cases h1 : 0 ≤ x
      · by_cases h2 : x ≤ 100000000
        · by_cases h3 : 0 ≤ y
          · by_cases h4 : y ≤ 100000000
            · by_cases h5 : 0 ≤ turn
              · by_cases h6 : turn ≤ 1
                · by_cases h7 : 0 ≤ since
                  · by_cases h8 : since ≤ 100000000
                    · by_cases h9 : 0 ≤ used
                      · by_cases h10 : used ≤ 100000000
                        · by_cases h11 : fallen = -1
                          · subst h11
                            go_wp2
                            all_goals go_ret
                            all_goals exact ⟨by simp; try omega, q1⟩
                          · have e11 : (fallen == -1) = false := by simpa using h11
                            by_cases h12 : fallen = turn
                            · subst h12
                              cases run
                              all_goals
                                go_wp2
                                all_goals go_ret
                                all_goals exact ⟨by simp; try omega, q1⟩
                            · have e12 : (fallen == turn) = false := by simpa using h12
                              go_wp2
                              all_goals go_ret
                              all_goals exact ⟨by simp; try omega, q1⟩
                        · have hd : decide (used ≤ 100000000) = false := decide_eq_false h10
                          replace h10 := Int.not_le.1 h10
                          go_wp2
                          all_goals go_ret
                          all_goals exact ⟨by simp; try omega, q1⟩
                      · have hd : decide (0 ≤ used) = false := decide_eq_false h9
                        replace h9 := Int.not_le.1 h9
                        go_wp2
                        all_goals go_ret
                        all_goals exact ⟨by simp; try omega, q1⟩
                    · have hd : decide (since ≤ 100000000) = false := decide_eq_false h8
                      replace h8 := Int.not_le.1 h8
                      go_wp2
                      all_goals go_ret
                      all_goals exact ⟨by simp; try omega, q1⟩
                  · have hd : decide (0 ≤ since) = false := decide_eq_false h7
                    replace h7 := Int.not_le.1 h7
                    go_wp2
                    all_goals go_ret
                    all_goals exact ⟨by simp; try omega, q1⟩
                · have hd : decide (turn ≤ 1) = false := decide_eq_false h6
                  replace h6 := Int.not_le.1 h6
                  go_wp2
                  all_goals go_ret
                  all_goals exact ⟨by simp; try omega, q1⟩
              · have hd : decide (0 ≤ turn) = false := decide_eq_false h5
                replace h5 := Int.not_le.1 h5
                go_wp2
                all_goals go_ret
                all_goals exact ⟨by simp; try omega, q1⟩
            · have hd : decide (y ≤ 100000000) = false := decide_eq_false h4
              replace h4 := Int.not_le.1 h4
              go_wp2
              all_goals go_ret
              all_goals exact ⟨by simp; try omega, q1⟩
          · have hd : decide (0 ≤ y) = false := decide_eq_false h3
            replace h3 := Int.not_le.1 h3
            go_wp2
            all_goals go_ret
            all_goals exact ⟨by simp; try omega, q1⟩
        · have hd : decide (x ≤ 100000000) = false := decide_eq_false h2
          replace h2 := Int.not_le.1 h2
          go_wp2
          all_goals go_ret
          all_goals exact ⟨by simp; try omega, q1⟩
      · have hd : decide (0 ≤ x) = false := decide_eq_false h1
        replace h1 := Int.not_le.1 h1
        go_wp2
        all_goals go_ret
        all_goals exact ⟨by simp; try omega, q1⟩
    · have hlen : xs.length ≠ 2 := fun h => hx (list2 h)
      have hM : okCS r d b xs turn since used run fallen = false := by
        match xs, hlen with
        | [], _ => simp [okCS]
        | [_], _ => simp [okCS]
        | [_, _], h => exact absurd rfl h
        | _ :: _ :: _ :: _, _ => simp [okCS]
      rw [hM]
      clear hM
      have e2 : ((xs.length : Int) != 2) = true := by rw [bne_iff_ne]; omega
      go_enter Try.func22, Try.ntmps22
      go_wp2_with fail
      refine (isCR_spec r d b _).mono ?_
      rw [h0]
      rintro e w1 ⟨rfl, hb1⟩
      have rs := (RowB.new _ _ _).below hb1 (by simp)
      have q1 : Below w.heap.size w w1 := Below.then_ (by go_grown) hb1 (by simp; omega)
      simp only [World.size_alloc] at rs
      obtain ⟨p0, p1, p2, p3, p4, p5⟩ := rs.c6
      clear hb1 rs h0
      go_wp2
      go_ret
      exact ⟨rfl, q1⟩
  · have h0 : okCR r d b = false := by simpa using h0
    have hM : okCS r d b xs turn since used run fallen = false := by simp [okCS, h0]
    rw [hM]
    clear hM
    go_enter Try.func22, Try.ntmps22
    go_wp2_with fail
    refine (isCR_spec r d b _).mono ?_
    rw [h0]
    rintro e w1 ⟨rfl, hb1⟩
    have q1 : Below w.heap.size w w1 := Below.then_ (by go_grown) hb1 (by simp; omega)
    clear hb1
    go_wp2
    go_ret
    exact ⟨rfl, q1⟩

set_option maxHeartbeats 4000000 in
theorem isCS_impl (r d b : Int) (A : Option Addr) (cp B : Nat) (xs : List Int) (turn since used : Int) (run : Bool) (fallen : Int) (w : World) (hB : B ≤ w.heap.size) (hr : RdS w B 1 enI A xs) :
    Calls Try.prog 24 #[.agg #[.int .i64 r, .int .i64 d, .int .i64 b], .agg #[.slice A xs.length cp, .int .i64 turn, .int .i64 since, .int .i64 used, .bool run, .int .i64 fallen]] w fun e w' => e = .returned (.bool (okCS r d b xs turn since used run fallen)) ∧ Below w.heap.size w w' := by
  have hn := hr.len
  by_cases h0 : okCR r d b = true
  · by_cases hx : ∃ x y, xs = [x, y]
    · obtain ⟨x, y, rfl⟩ := hx
      have hM : okCS r d b [x, y] turn since used run fallen = decide (0 ≤ x ∧ x ≤ 100000000 ∧ 0 ≤ y ∧ y ≤ 100000000 ∧ 0 ≤ turn ∧ turn ≤ 1 ∧ 0 ≤ since ∧ since ≤ 100000000 ∧ 0 ≤ used ∧ used ≤ 100000000 ∧ (fallen = -1 ∨ fallen = turn ∧ run = false)) := by simp [okCS, h0]
      rw [hM]
      have HM := Lib.hid hM; clear hM HM
      obtain ⟨bk, off, x', rfl, hb, hx0, hc0⟩ := rdI_at hr (i := 0) (by simp)
      obtain ⟨bk', off', y', e1, hb', hx1, hc1⟩ := rdI_at hr (i := 1) (by simp)
      simp only [Option.some.injEq, Addr.mk.injEq, and_true] at e1
      obtain ⟨rfl, rfl⟩ := e1
      simp only [List.getElem?_cons_zero, List.getElem?_cons_succ, Option.some.injEq] at hx0 hx1
      subst hx0 hx1
      simp only [Nat.add_zero] at hc0
      clear hr
      simp only [List.length_cons, List.length_nil, Nat.zero_add, Nat.reduceAdd]
      go_enter Try.func24, Try.ntmps24
      go_wp2_with fail
      refine (isCR_impl r d b _).mono ?_
      rw [h0]
      rintro e w1 ⟨rfl, hb1⟩
      have rs := (RowB.new _ _ _).below hb1 (by simp)
      have d0 := (Below.then_ (B := w.heap.size) (a := w) (by go_grown) hb1 (by simp; omega)).cell (p := ⟨bk, off, none⟩) (by show bk < _; omega)
      have d1 := (Below.then_ (B := w.heap.size) (a := w) (by go_grown) hb1 (by simp; omega)).cell (p := ⟨bk, off + 1, none⟩) (by show bk < _; omega)
      have q1 : Below w.heap.size w w1 := Below.then_ (by go_grown) hb1 (by simp; omega)
      rw [hc0] at d0
      rw [hc1] at d1
      simp only [World.size_alloc] at rs
      obtain ⟨p0, p1, p2, p3, p4, p5⟩ := rs.c6
      clear hc0 hc1 hb1 rs h0
      by_cases h1 : 0 ≤ x
      · by_cases h2 : x ≤ 100000000
        · by_cases h3 : 0 ≤ y
          · by_cases h4 : y ≤ 100000000
            · by_cases h5 : 0 ≤ turn
              · by_cases h6 : turn ≤ 1
                · by_cases h7 : 0 ≤ since
                  · by_cases h8 : since ≤ 100000000
                    · by_cases h9 : 0 ≤ used
                      · by_cases h10 : used ≤ 100000000
                        · by_cases h11 : fallen = -1
                          · subst h11
                            go_wp2
                            all_goals go_ret
                            all_goals exact ⟨by simp; try omega, q1⟩
                          · have e11 : (fallen == -1) = false := by simpa using h11
                            by_cases h12 : fallen = turn
                            · subst h12
                              cases run
                              all_goals
                                go_wp2
                                all_goals go_ret
                                all_goals exact ⟨by simp; try omega, q1⟩
                            · have e12 : (fallen == turn) = false := by simpa using h12
                              go_wp2
                              all_goals go_ret
                              all_goals exact ⟨by simp; try omega, q1⟩
                        · have hd : decide (used ≤ 100000000) = false := decide_eq_false h10
                          replace h10 := Int.not_le.1 h10
                          go_wp2
                          all_goals go_ret
                          all_goals exact ⟨by simp; try omega, q1⟩
                      · have hd : decide (0 ≤ used) = false := decide_eq_false h9
                        replace h9 := Int.not_le.1 h9
                        go_wp2
                        all_goals go_ret
                        all_goals exact ⟨by simp; try omega, q1⟩
                    · have hd : decide (since ≤ 100000000) = false := decide_eq_false h8
                      replace h8 := Int.not_le.1 h8
                      go_wp2
                      all_goals go_ret
                      all_goals exact ⟨by simp; try omega, q1⟩
                  · have hd : decide (0 ≤ since) = false := decide_eq_false h7
                    replace h7 := Int.not_le.1 h7
                    go_wp2
                    all_goals go_ret
                    all_goals exact ⟨by simp; try omega, q1⟩
                · have hd : decide (turn ≤ 1) = false := decide_eq_false h6
                  replace h6 := Int.not_le.1 h6
                  go_wp2
                  all_goals go_ret
                  all_goals exact ⟨by simp; try omega, q1⟩
              · have hd : decide (0 ≤ turn) = false := decide_eq_false h5
                replace h5 := Int.not_le.1 h5
                go_wp2
                all_goals go_ret
                all_goals exact ⟨by simp; try omega, q1⟩
            · have hd : decide (y ≤ 100000000) = false := decide_eq_false h4
              replace h4 := Int.not_le.1 h4
              go_wp2
              all_goals go_ret
              all_goals exact ⟨by simp; try omega, q1⟩
          · have hd : decide (0 ≤ y) = false := decide_eq_false h3
            replace h3 := Int.not_le.1 h3
            go_wp2
            all_goals go_ret
            all_goals exact ⟨by simp; try omega, q1⟩
        · have hd : decide (x ≤ 100000000) = false := decide_eq_false h2
          replace h2 := Int.not_le.1 h2
          go_wp2
          all_goals go_ret
          all_goals exact ⟨by simp; try omega, q1⟩
      · have hd : decide (0 ≤ x) = false := decide_eq_false h1
        replace h1 := Int.not_le.1 h1
        go_wp2
        all_goals go_ret
        all_goals exact ⟨by simp; try omega, q1⟩
    · have hlen : xs.length ≠ 2 := fun h => hx (list2 h)
      have hM : okCS r d b xs turn since used run fallen = false := by
        match xs, hlen with
        | [], _ => simp [okCS]
        | [_], _ => simp [okCS]
        | [_, _], h => exact absurd rfl h
        | _ :: _ :: _ :: _, _ => simp [okCS]
      rw [hM]
      clear hM
      have e2 : ((xs.length : Int) != 2) = true := by rw [bne_iff_ne]; omega
      go_enter Try.func24, Try.ntmps24
      go_wp2_with fail
      refine (isCR_impl r d b _).mono ?_
      rw [h0]
      rintro e w1 ⟨rfl, hb1⟩
      have rs := (RowB.new _ _ _).below hb1 (by simp)
      have q1 : Below w.heap.size w w1 := Below.then_ (by go_grown) hb1 (by simp; omega)
      simp only [World.size_alloc] at rs
      obtain ⟨p0, p1, p2, p3, p4, p5⟩ := rs.c6
      clear hb1 rs h0
      go_wp2
      go_ret
      exact ⟨rfl, q1⟩
  · have h0 : okCR r d b = false := by simpa using h0
    have hM : okCS r d b xs turn since used run fallen = false := by simp [okCS, h0]
    rw [hM]
    clear hM
    go_enter Try.func24, Try.ntmps24
    go_wp2_with fail
    refine (isCR_impl r d b _).mono ?_
    rw [h0]
    rintro e w1 ⟨rfl, hb1⟩
    have q1 : Below w.heap.size w w1 := Below.then_ (by go_grown) hb1 (by simp; omega)
    clear hb1
    go_wp2
    go_ret
    exact ⟨rfl, q1⟩

end Go.Proofs.Ytdjopnhbcchedaa.ClockSt
