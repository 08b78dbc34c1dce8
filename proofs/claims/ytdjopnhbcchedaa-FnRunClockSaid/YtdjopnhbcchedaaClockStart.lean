/-
  StartClock, of the program and of the reference, and the law on it. Conditions: each theorem's own.
-/
import Derived.Test.YtdjopnhbcchedaaClock
set_option linter.unusedVariables false
namespace Go.Proofs.Ytdjopnhbcchedaa.ClockStart
open Go.ChangeShapes Go.WideShapes Go.ChangeAt Go.RowKit Base Ints Clock

/-- The state at the beginning, and the code. -/
def stR (r d b turn time : Int) : List Int × Int × Int × Int × Bool × Int × Int :=
  if okCR r d b = true then (if (0 ≤ turn ∧ turn ≤ 1) ∧ (0 ≤ time ∧ time ≤ 100000000) then ([r, r], turn, time, 0, true, -1, 0) else ([], 0, 0, 0, false, 0, 2)) else ([], 0, 0, 0, false, 0, 1)
theorem stR_len {r d b turn time : Int} {gs : List Int} {tu si us : Int} {ru : Bool} {fa co : Int} (h : stR r d b turn time = (gs, tu, si, us, ru, fa, co)) : gs.length ≤ 2 := by
  unfold stR at h
  split at h
  · split at h
    · simp only [Prod.mk.injEq] at h; rw [← h.1]; simp
    · simp only [Prod.mk.injEq] at h; rw [← h.1]; simp
  · simp only [Prod.mk.injEq] at h; rw [← h.1]; simp

set_option maxHeartbeats 4000000 in
theorem st_spec (r d b turn time : Int) (w : World) (gs : List Int) (tu si us : Int) (ru : Bool) (fa co : Int) (h : stR r d b turn time = (gs, tu, si, us, ru, fa, co)) :
    Calls Try.prog 16 #[.agg #[.int .i64 r, .int .i64 d, .int .i64 b], .int .i64 turn, .int .i64 time] w fun e w' =>
      ∃ A cp, e = .returned (.tuple #[.agg #[.slice A gs.length cp, .int .i64 tu, .int .i64 si, .int .i64 us, .bool ru, .int .i64 fa], .int .i64 co]) ∧ Below w.heap.size w w' ∧ OwnS w' w.heap.size w'.heap.size 2 1 enI (.slice A gs.length cp) gs := by
  by_cases h0 : okCR r d b = true
  · have hk := h0
    unfold okCR at hk
    simp only [decide_eq_true_eq] at hk
    obtain ⟨h1, h2, h3, h4, h5, h6⟩ := hk
    clear h0
    by_cases g1 : 0 ≤ turn
    · by_cases g2 : turn ≤ 1
      · by_cases g3 : 0 ≤ time
        · by_cases g4 : time ≤ 100000000
          · have h00 : 0 ≤ r := by omega
            have hv : stR r d b turn time = ([r, r], turn, time, 0, true, -1, 0) := by
              unfold stR; rw [if_pos (by unfold okCR; simp; omega), if_pos (by omega)]
            rw [hv] at h
            simp only [Prod.mk.injEq] at h
            obtain ⟨rfl, rfl, rfl, rfl, rfl, rfl, rfl⟩ := h
            clear hv
            go_enter Try.func16, Try.ntmps16
            go_wp2
            go_returns
            refine ⟨_, 2, rfl, by go_grown, ?_⟩
            refine RowB.own (xs := [r, r]) (RowB.new' _ _ _ (by first | rfl | simp only [World.size_alloc])) enI_len ?_ ?_ (by unfold maxLen; simp)
            · first | omega | (simp; omega)
            · first | omega | simp
          · have h00 : 0 ≤ r := by omega
            have hv : stR r d b turn time = ([], 0, 0, 0, false, 0, 2) := by
              unfold stR; rw [if_pos (by unfold okCR; simp; omega), if_neg (by omega)]
            rw [hv] at h
            simp only [Prod.mk.injEq] at h
            obtain ⟨rfl, rfl, rfl, rfl, rfl, rfl, rfl⟩ := h
            clear hv
            replace g4 := Int.not_le.1 g4
            by_cases u1 : 0 ≤ time <;> by_cases u2 : time ≤ 100000000 <;> by_cases u3 : 0 ≤ turn <;> by_cases u4 : turn ≤ 1
            all_goals try omega
            all_goals
              go_enter Try.func16, Try.ntmps16
              try have hd1 : decide (0 ≤ time) = false := decide_eq_false (by omega)
              try have hd2 : decide (time ≤ 100000000) = false := decide_eq_false (by omega)
              try have hd3 : decide (0 ≤ turn) = false := decide_eq_false (by omega)
              try have hd4 : decide (turn ≤ 1) = false := decide_eq_false (by omega)
              go_wp2
              all_goals go_returns
              all_goals exact ⟨none, 0, rfl, by go_grown, OwnS.nil_ _ _ _ _ _ _⟩
        · have h00 : 0 ≤ r := by omega
          have hv : stR r d b turn time = ([], 0, 0, 0, false, 0, 2) := by
            unfold stR; rw [if_pos (by unfold okCR; simp; omega), if_neg (by omega)]
          rw [hv] at h
          simp only [Prod.mk.injEq] at h
          obtain ⟨rfl, rfl, rfl, rfl, rfl, rfl, rfl⟩ := h
          clear hv
          replace g3 := Int.not_le.1 g3
          by_cases u1 : 0 ≤ time <;> by_cases u2 : time ≤ 100000000 <;> by_cases u3 : 0 ≤ turn <;> by_cases u4 : turn ≤ 1
          all_goals try omega
          all_goals
            go_enter Try.func16, Try.ntmps16
            try have hd1 : decide (0 ≤ time) = false := decide_eq_false (by omega)
            try have hd2 : decide (time ≤ 100000000) = false := decide_eq_false (by omega)
            try have hd3 : decide (0 ≤ turn) = false := decide_eq_false (by omega)
            try have hd4 : decide (turn ≤ 1) = false := decide_eq_false (by omega)
            go_wp2
            all_goals go_returns
            all_goals exact ⟨none, 0, rfl, by go_grown, OwnS.nil_ _ _ _ _ _ _⟩
      · have h00 : 0 ≤ r := by omega
        have hv : stR r d b turn time = ([], 0, 0, 0, false, 0, 2) := by
          unfold stR; rw [if_pos (by unfold okCR; simp; omega), if_neg (by omega)]
        rw [hv] at h
        simp only [Prod.mk.injEq] at h
        obtain ⟨rfl, rfl, rfl, rfl, rfl, rfl, rfl⟩ := h
        clear hv
        replace g2 := Int.not_le.1 g2
        by_cases u1 : 0 ≤ time <;> by_cases u2 : time ≤ 100000000 <;> by_cases u3 : 0 ≤ turn <;> by_cases u4 : turn ≤ 1
        all_goals try omega
        all_goals
          go_enter Try.func16, Try.ntmps16
          try have hd1 : decide (0 ≤ time) = false := decide_eq_false (by omega)
          try have hd2 : decide (time ≤ 100000000) = false := decide_eq_false (by omega)
          try have hd3 : decide (0 ≤ turn) = false := decide_eq_false (by omega)
          try have hd4 : decide (turn ≤ 1) = false := decide_eq_false (by omega)
          go_wp2
          all_goals go_returns
          all_goals exact ⟨none, 0, rfl, by go_grown, OwnS.nil_ _ _ _ _ _ _⟩
    · have h00 : 0 ≤ r := by omega
      have hv : stR r d b turn time = ([], 0, 0, 0, false, 0, 2) := by
        unfold stR; rw [if_pos (by unfold okCR; simp; omega), if_neg (by omega)]
      rw [hv] at h
      simp only [Prod.mk.injEq] at h
      obtain ⟨rfl, rfl, rfl, rfl, rfl, rfl, rfl⟩ := h
      clear hv
      replace g1 := Int.not_le.1 g1
      by_cases u1 : 0 ≤ time <;> by_cases u2 : time ≤ 100000000 <;> by_cases u3 : 0 ≤ turn <;> by_cases u4 : turn ≤ 1
      all_goals try omega
      all_goals
        go_enter Try.func16, Try.ntmps16
        try have hd1 : decide (0 ≤ time) = false := decide_eq_false (by omega)
        try have hd2 : decide (time ≤ 100000000) = false := decide_eq_false (by omega)
        try have hd3 : decide (0 ≤ turn) = false := decide_eq_false (by omega)
        try have hd4 : decide (turn ≤ 1) = false := decide_eq_false (by omega)
        go_wp2
        all_goals go_returns
        all_goals exact ⟨none, 0, rfl, by go_grown, OwnS.nil_ _ _ _ _ _ _⟩
  · unfold stR at h
    rw [if_neg h0] at h
    have h0 : okCR r d b = false := by simpa using h0
    simp only [Prod.mk.injEq] at h
    obtain ⟨rfl, rfl, rfl, rfl, rfl, rfl, rfl⟩ := h
    go_enter Try.func16, Try.ntmps16
    go_wp2_with fail
    refine (isCR_spec r d b _).mono ?_
    rw [h0]
    clear h0
    rintro e w1 ⟨rfl, hb1⟩
    have ro := (RowB.new _ _ _).below hb1 (by simp; try omega)
    have q1 : Below w.heap.size w w1 := Below.then_ (by go_grown) hb1 (by simp; omega)
    simp only [World.size_alloc] at ro
    have l1 := ro.lt
    obtain ⟨p0, p1, p2, p3, p4, p5⟩ := ro.c6
    have hf := ro.frozen
    clear hb1
    go_wp2
    refine bp_gen (fun W5 => RowB W5 (w.heap.size + 1) 30 [.slice none 0 0, .int .i64 0, .int .i64 0, .int .i64 0, .bool false, .int .i64 0] ∧ Below w.heap.size w W5) ⟨((((((ro.set 0 _).set 1 _).set 2 _).set 3 _).set 4 _).set 5 _), by go_grown⟩ ?_
    clear p0 p1 p2 p3 p4 p5 hf ro
    rintro W5 ⟨ro, q5⟩
    obtain ⟨p0, p1, p2, p3, p4, p5⟩ := ro.c6
    refine bodyPost_ret (v := .tuple #[.agg #[.slice none 0 0, .int .i64 0, .int .i64 0, .int .i64 0, .bool false, .int .i64 0], .int .i64 1]) (by simp [results, Try.results16, go_sem, p0, p1, p2, p3, p4, p5]) rfl ?_
    exact ⟨none, 0, rfl, q5, OwnS.nil_ _ _ _ _ _ _⟩

set_option maxHeartbeats 4000000 in
theorem st_impl (r d b turn time : Int) (w : World) (gs : List Int) (tu si us : Int) (ru : Bool) (fa co : Int) (h : stR r d b turn time = (gs, tu, si, us, ru, fa, co)) :
    Calls Try.prog 17 #[.agg #[.int .i64 r, .int .i64 d, .int .i64 b], .int .i64 turn, .int .i64 time] w fun e w' =>
      ∃ A cp, e = .returned (.tuple #[.agg #[.slice A gs.length cp, .int .i64 tu, .int .i64 si, .int .i64 us, .bool ru, .int .i64 fa], .int .i64 co]) ∧ Below w.heap.size w w' ∧ OwnS w' w.heap.size w'.heap.size 2 1 enI (.slice A gs.length cp) gs := by
  by_cases h0 : okCR r d b = true
  · have hk := h0
    unfold okCR at hk
    simp only [decide_eq_true_eq] at hk
    obtain ⟨h1, h2, h3, h4, h5, h6⟩ := hk
    clear h0
    by_cases g1 : 0 ≤ turn
    · by_cases g2 : turn ≤ 1
      · by_cases g3 : 0 ≤ time
        · by_cases g4 : time ≤ 100000000
          · have h00 : 0 ≤ r := by omega
            have hv : stR r d b turn time = ([r, r], turn, time, 0, true, -1, 0) := by
              unfold stR; rw [if_pos (by unfold okCR; simp; omega), if_pos (by omega)]
            rw [hv] at h
            simp only [Prod.mk.injEq] at h
            obtain ⟨rfl, rfl, rfl, rfl, rfl, rfl, rfl⟩ := h
            clear hv
            go_enter Try.func17, Try.ntmps17
            go_wp2
            go_returns
            refine ⟨_, 2, rfl, by go_grown, ?_⟩
            refine RowB.own (xs := [r, r]) (RowB.new' _ _ _ (by first | rfl | simp only [World.size_alloc])) enI_len ?_ ?_ (by unfold maxLen; simp)
            · first | omega | (simp; omega)
            · first | omega | simp
          · have h00 : 0 ≤ r := by omega
            have hv : stR r d b turn time = ([], 0, 0, 0, false, 0, 2) := by
              unfold stR; rw [if_pos (by unfold okCR; simp; omega), if_neg (by omega)]
            rw [hv] at h
            simp only [Prod.mk.injEq] at h
            obtain ⟨rfl, rfl, rfl, rfl, rfl, rfl, rfl⟩ := h
            clear hv
            replace g4 := Int.not_le.1 g4
            by_cases u1 : 0 ≤ time <;> by_cases u2 : time ≤ 100000000 <;> by_cases u3 : 0 ≤ turn <;> by_cases u4 : turn ≤ 1
            all_goals try omega
            all_goals
              go_enter Try.func17, Try.ntmps17
              try have hd1 : decide (0 ≤ time) = false := decide_eq_false (by omega)
              try have hd2 : decide (time ≤ 100000000) = false := decide_eq_false (by omega)
              try have hd3 : decide (0 ≤ turn) = false := decide_eq_false (by omega)
              try have hd4 : decide (turn ≤ 1) = false := decide_eq_false (by omega)
              go_wp2
              all_goals go_returns
              all_goals exact ⟨none, 0, rfl, by go_grown, OwnS.nil_ _ _ _ _ _ _⟩
        · have h00 : 0 ≤ r := by omega
          have hv : stR r d b turn time = ([], 0, 0, 0, false, 0, 2) := by
            unfold stR; rw [if_pos (by unfold okCR; simp; omega), if_neg (by omega)]
          rw [hv] at h
          simp only [Prod.mk.injEq] at h
          obtain ⟨rfl, rfl, rfl, rfl, rfl, rfl, rfl⟩ := h
          clear hv
          replace g3 := Int.not_le.1 g3
          by_cases u1 : 0 ≤ time <;> by_cases u2 : time ≤ 100000000 <;> by_cases u3 : 0 ≤ turn <;> by_cases u4 : turn ≤ 1
          all_goals try omega
          all_goals
            go_enter Try.func17, Try.ntmps17
            try have hd1 : decide (0 ≤ time) = false := decide_eq_false (by omega)
            try have hd2 : decide (time ≤ 100000000) = false := decide_eq_false (by omega)
            try have hd3 : decide (0 ≤ turn) = false := decide_eq_false (by omega)
            try have hd4 : decide (turn ≤ 1) = false := decide_eq_false (by omega)
            go_wp2
            all_goals go_returns
            all_goals exact ⟨none, 0, rfl, by go_grown, OwnS.nil_ _ _ _ _ _ _⟩
      · have h00 : 0 ≤ r := by omega
        have hv : stR r d b turn time = ([], 0, 0, 0, false, 0, 2) := by
          unfold stR; rw [if_pos (by unfold okCR; simp; omega), if_neg (by omega)]
        rw [hv] at h
        simp only [Prod.mk.injEq] at h
        obtain ⟨rfl, rfl, rfl, rfl, rfl, rfl, rfl⟩ := h
        clear hv
        replace g2 := Int.not_le.1 g2
        by_cases u1 : 0 ≤ time <;> by_cases u2 : time ≤ 100000000 <;> by_cases u3 : 0 ≤ turn <;> by_cases u4 : turn ≤ 1
        all_goals try omega
        all_goals
          go_enter Try.func17, Try.ntmps17
          try have hd1 : decide (0 ≤ time) = false := decide_eq_false (by omega)
          try have hd2 : decide (time ≤ 100000000) = false := decide_eq_false (by omega)
          try have hd3 : decide (0 ≤ turn) = false := decide_eq_false (by omega)
          try have hd4 : decide (turn ≤ 1) = false := decide_eq_false (by omega)
          go_wp2
          all_goals go_returns
          all_goals exact ⟨none, 0, rfl, by go_grown, OwnS.nil_ _ _ _ _ _ _⟩
    · have h00 : 0 ≤ r := by omega
      have hv : stR r d b turn time = ([], 0, 0, 0, false, 0, 2) := by
        unfold stR; rw [if_pos (by unfold okCR; simp; omega), if_neg (by omega)]
      rw [hv] at h
      simp only [Prod.mk.injEq] at h
      obtain ⟨rfl, rfl, rfl, rfl, rfl, rfl, rfl⟩ := h
      clear hv
      replace g1 := Int.not_le.1 g1
      by_cases u1 : 0 ≤ time <;> by_cases u2 : time ≤ 100000000 <;> by_cases u3 : 0 ≤ turn <;> by_cases u4 : turn ≤ 1
      all_goals try omega
      all_goals
        go_enter Try.func17, Try.ntmps17
        try have hd1 : decide (0 ≤ time) = false := decide_eq_false (by omega)
        try have hd2 : decide (time ≤ 100000000) = false := decide_eq_false (by omega)
        try have hd3 : decide (0 ≤ turn) = false := decide_eq_false (by omega)
        try have hd4 : decide (turn ≤ 1) = false := decide_eq_false (by omega)
        go_wp2
        all_goals go_returns
        all_goals exact ⟨none, 0, rfl, by go_grown, OwnS.nil_ _ _ _ _ _ _⟩
  · unfold stR at h
    rw [if_neg h0] at h
    have h0 : okCR r d b = false := by simpa using h0
    simp only [Prod.mk.injEq] at h
    obtain ⟨rfl, rfl, rfl, rfl, rfl, rfl, rfl⟩ := h
    go_enter Try.func17, Try.ntmps17
    go_wp2_with fail
    refine (isCR_impl r d b _).mono ?_
    rw [h0]
    clear h0
    rintro e w1 ⟨rfl, hb1⟩
    have ro := (RowB.new _ _ _).below hb1 (by simp; try omega)
    have q1 : Below w.heap.size w w1 := Below.then_ (by go_grown) hb1 (by simp; omega)
    simp only [World.size_alloc] at ro
    have l1 := ro.lt
    obtain ⟨p0, p1, p2, p3, p4, p5⟩ := ro.c6
    have hf := ro.frozen
    clear hb1
    go_wp2
    refine bp_gen (fun W5 => RowB W5 (w.heap.size + 1) 30 [.slice none 0 0, .int .i64 0, .int .i64 0, .int .i64 0, .bool false, .int .i64 0] ∧ Below w.heap.size w W5) ⟨((((((ro.set 0 _).set 1 _).set 2 _).set 3 _).set 4 _).set 5 _), by go_grown⟩ ?_
    clear p0 p1 p2 p3 p4 p5 hf ro
    rintro W5 ⟨ro, q5⟩
    obtain ⟨p0, p1, p2, p3, p4, p5⟩ := ro.c6
    refine bodyPost_ret (v := .tuple #[.agg #[.slice none 0 0, .int .i64 0, .int .i64 0, .int .i64 0, .bool false, .int .i64 0], .int .i64 1]) (by simp [results, Try.results17, go_sem, p0, p1, p2, p3, p4, p5]) rfl ?_
    exact ⟨none, 0, rfl, q5, OwnS.nil_ _ _ _ _ _ _⟩

end Go.Proofs.Ytdjopnhbcchedaa.ClockStart
