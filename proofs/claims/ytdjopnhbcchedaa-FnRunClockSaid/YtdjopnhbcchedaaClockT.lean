/-
  The contracts of TimeLeft and FlagTime, of the program and of the reference. Conditions: each theorem's own.
-/
import Derived.Test.YtdjopnhbcchedaaClockR
set_option linter.unusedVariables false
namespace Go.Proofs.Ytdjopnhbcchedaa.ClockT
open Go.ChangeShapes Go.WideShapes Go.ChangeAt Go.RowKit Base Ints Clock ClockSt ClockR

theorem okCS_elim {r d b : Int} {xs : List Int} {turn since used : Int} {run : Bool} {fallen : Int} (h : okCS r d b xs turn since used run fallen = true) :
    ∃ x y, xs = [x, y] ∧ (1 ≤ r ∧ r ≤ 100000000) ∧ (0 ≤ d ∧ d ≤ 100000000) ∧ (0 ≤ b ∧ b ≤ 100000000) ∧ (0 ≤ x ∧ x ≤ 100000000) ∧ (0 ≤ y ∧ y ≤ 100000000) ∧ (turn = 0 ∨ turn = 1) ∧ (0 ≤ since ∧ since ≤ 100000000) ∧ (0 ≤ used ∧ used ≤ 100000000) ∧ (fallen = -1 ∨ fallen = turn ∧ run = false) := by
  unfold okCS okCR at h
  rw [Bool.and_eq_true] at h
  obtain ⟨h1, h2⟩ := h
  match xs, h2 with
  | [x, y], h2 =>
    simp only [decide_eq_true_eq] at h1 h2
    exact ⟨x, y, rfl, by omega, by omega, by omega, by omega, by omega, by omega, by omega, by omega, h2.2.2.2.2.2.2.2.2.2.2⟩

theorem ret2 {a b c d : Int} (h1 : a = c) (h2 : b = d) : Ending.returned (.tuple #[.int .i64 a, .int .i64 b]) = Ending.returned (.tuple #[.int .i64 c, .int .i64 d]) := by rw [h1, h2]

def tlV (r d b : Int) (xs : List Int) (turn since used : Int) (run : Bool) (fallen player time : Int) : Int :=
  if okCS r d b xs turn since used run fallen = true ∧ (player = 0 ∨ player = 1) ∧ since ≤ time ∧ time ≤ 100000000 then (if player = turn then rest (sideOf xs turn) d since used run time else sideOf xs player) else 0
def tlC (r d b : Int) (xs : List Int) (turn since used : Int) (run : Bool) (fallen player time : Int) : Int :=
  if okCS r d b xs turn since used run fallen = true then (if (player = 0 ∨ player = 1) ∧ since ≤ time ∧ time ≤ 100000000 then 0 else 2) else 1
/-- When the flag falls. -/
def flT (l d since used : Int) : Int := if l > max (used - d) 0 then since - used + d + l else since
def flV (r d b : Int) (xs : List Int) (turn since used : Int) (run : Bool) (fallen : Int) : Int :=
  if okCS r d b xs turn since used run fallen = true ∧ run = true ∧ flT (sideOf xs turn) d since used ≤ 100000000 then flT (sideOf xs turn) d since used else 0
def flC (r d b : Int) (xs : List Int) (turn since used : Int) (run : Bool) (fallen : Int) : Int :=
  if okCS r d b xs turn since used run fallen = true then (if run = true then (if flT (sideOf xs turn) d since used ≤ 100000000 then 0 else 4) else 5) else 1

set_option maxHeartbeats 4000000 in
theorem tl_spec (r d b : Int) (A : Option Addr) (cp B : Nat) (xs : List Int) (turn since used : Int) (run : Bool) (fallen : Int) (player time : Int) (w : World) (hB : B ≤ w.heap.size) (hr : RdS w B 1 enI A xs) :
    Calls Try.prog 27 #[.agg #[.int .i64 r, .int .i64 d, .int .i64 b], .agg #[.slice A xs.length cp, .int .i64 turn, .int .i64 since, .int .i64 used, .bool run, .int .i64 fallen], .int .i64 player, .int .i64 time] w fun e w' => e = .returned (.tuple #[.int .i64 (tlV r d b xs turn since used run fallen player time), .int .i64 (tlC r d b xs turn since used run fallen player time)]) ∧ Below w.heap.size w w' := by
  by_cases h0 : okCS r d b xs turn since used run fallen = true
  · obtain ⟨x, y, rfl, ⟨r1, r2⟩, ⟨d1, d2⟩, ⟨b1, b2⟩, ⟨x1, x2⟩, ⟨y1, y2⟩, ht, ⟨s1, s2⟩, ⟨u1, u2⟩, hfall⟩ := okCS_elim h0
    obtain ⟨bk, off, x', rfl, hb, hx0, hc0⟩ := rdI_at hr (i := 0) (by simp)
    obtain ⟨bk', off', y', e1, hb', hx1, hc1⟩ := rdI_at hr (i := 1) (by simp)
    simp only [Option.some.injEq, Addr.mk.injEq, and_true] at e1
    obtain ⟨rfl, rfl⟩ := e1
    simp only [List.getElem?_cons_zero, List.getElem?_cons_succ, Option.some.injEq] at hx0 hx1
    subst hx0 hx1
    simp only [Nat.add_zero] at hc0
    have hbk : bk < w.heap.size := by omega
    clear hb hb'
    have H0 := Lib.hid h0
    go_enter Try.func27, Try.ntmps27
    go_wp2_with fail
    refine (isCS_spec r d b _ cp B [x, y] turn since used run fallen _ (by simp; omega) (hr.below (by go_grown) hB)).mono ?_
    rw [h0]
    clear h0
    rintro e w1 ⟨rfl, hb1⟩
    have rr := ((RowB.new _ _ _).alloc _).below hb1 (by simp; try omega)
    have rs := (RowB.new _ _ _).below hb1 (by simp; try omega)
    have q1 : Below w.heap.size w w1 := Below.then_ (by go_grown) hb1 (by simp; omega)
    have d0 := (q1.cell (p := ⟨bk, off, none⟩) hbk).trans hc0
    have d1' := (q1.cell (p := ⟨bk, off + 1, none⟩) hbk).trans hc1
    have hr := hr.below q1 hB
    have z1 := q1.size
    simp only [World.size_alloc] at rs
    have l1 := rs.lt
    obtain ⟨p0, p1, p2, p3, p4, p5⟩ := rs.c6
    obtain ⟨k0, k1, k2⟩ := rr.c3
    clear hc0 hc1 hb1 rs rr
    by_cases g1 : since ≤ time
    · by_cases g2 : time ≤ 100000000
      · by_cases g3 : player = 0 ∨ player = 1
        · rcases ht with rfl | rfl <;> rcases g3 with rfl | rfl
          · go_wp2_with (first | (go_at_call 52; refine (rest_spec r d b _ cp B x y 0 since used run fallen time _ (by omega) hr (.inl rfl) x1 x2 y1 y2 d1 d2 s1 s2 u1 u2 g1 g2).mono ?_; rintro e w2 ⟨rfl, t2⟩; have q2 := q1.trans (t2.mono q1.size)) | go_in)
            go_ret2
            exact ⟨ret2 (by simp [tlV, H0.out, g1, g2]) (by simp [tlC, H0.out, g1, g2]), q2⟩
          · go_wp2
            go_ret2
            exact ⟨ret2 (by simp [tlV, H0.out, g1, g2, sideOf]) (by simp [tlC, H0.out, g1, g2]), q1⟩
          · go_wp2
            go_ret2
            exact ⟨ret2 (by simp [tlV, H0.out, g1, g2, sideOf]) (by simp [tlC, H0.out, g1, g2]), q1⟩
          · go_wp2_with (first | (go_at_call 52; refine (rest_spec r d b _ cp B x y 1 since used run fallen time _ (by omega) hr (.inr rfl) x1 x2 y1 y2 d1 d2 s1 s2 u1 u2 g1 g2).mono ?_; rintro e w2 ⟨rfl, t2⟩; have q2 := q1.trans (t2.mono q1.size)) | go_in)
            go_ret2
            exact ⟨ret2 (by simp [tlV, H0.out, g1, g2]) (by simp [tlC, H0.out, g1, g2]), q2⟩
        · have g3' : player < 0 ∨ 1 < player := by omega
          have v1 : tlV r d b [x, y] turn since used run fallen player time = 0 := by unfold tlV; rw [if_neg (fun h => g3 h.2.1)]
          have v2 : tlC r d b [x, y] turn since used run fallen player time = 2 := by unfold tlC; rw [if_pos H0.out, if_neg (fun h => g3 h.1)]
          have V1 := Lib.hid v1
          have V2 := Lib.hid v2
          clear v1 v2
          rcases g3' with g3' | g3'
          · have hd : decide (0 ≤ player) = false := decide_eq_false (by omega)
            go_wp2
            all_goals go_ret2
            all_goals exact ⟨ret2 (by rw [V1.out]) (by rw [V2.out]), q1⟩
          · have hd : decide (player ≤ 1) = false := decide_eq_false (by omega)
            go_wp2
            all_goals go_ret2
            all_goals exact ⟨ret2 (by rw [V1.out]) (by rw [V2.out]), q1⟩
      · have v1 : tlV r d b [x, y] turn since used run fallen player time = 0 := by unfold tlV; rw [if_neg (fun h => g2 h.2.2.2)]
        have v2 : tlC r d b [x, y] turn since used run fallen player time = 2 := by unfold tlC; rw [if_pos H0.out, if_neg (fun h => g2 h.2.2)]
        have V1 := Lib.hid v1
        have V2 := Lib.hid v2
        clear v1 v2
        have hd : decide (time ≤ 100000000) = false := decide_eq_false g2
        replace g2 := Int.not_le.1 g2
        by_cases g3 : 0 ≤ player
        · by_cases g4 : player ≤ 1
          · go_wp2
            all_goals go_ret2
            all_goals exact ⟨ret2 (by rw [V1.out]) (by rw [V2.out]), q1⟩
          · have hd : decide (player ≤ 1) = false := decide_eq_false g4
            go_wp2
            all_goals go_ret2
            all_goals exact ⟨ret2 (by rw [V1.out]) (by rw [V2.out]), q1⟩
        · have hd : decide (0 ≤ player) = false := decide_eq_false g3
          go_wp2
          all_goals go_ret2
          all_goals exact ⟨ret2 (by rw [V1.out]) (by rw [V2.out]), q1⟩
    · have v1 : tlV r d b [x, y] turn since used run fallen player time = 0 := by unfold tlV; rw [if_neg (fun h => g1 h.2.2.1)]
      have v2 : tlC r d b [x, y] turn since used run fallen player time = 2 := by unfold tlC; rw [if_pos H0.out, if_neg (fun h => g1 h.2.1)]
      have V1 := Lib.hid v1
      have V2 := Lib.hid v2
      clear v1 v2
      have hd : decide (since ≤ time) = false := decide_eq_false g1
      replace g1 := Int.not_le.1 g1
      by_cases g3 : 0 ≤ player
      · by_cases g4 : player ≤ 1
        · go_wp2
          all_goals go_ret2
          all_goals exact ⟨ret2 (by rw [V1.out]) (by rw [V2.out]), q1⟩
        · have hd : decide (player ≤ 1) = false := decide_eq_false g4
          go_wp2
          all_goals go_ret2
          all_goals exact ⟨ret2 (by rw [V1.out]) (by rw [V2.out]), q1⟩
      · have hd : decide (0 ≤ player) = false := decide_eq_false g3
        go_wp2
        all_goals go_ret2
        all_goals exact ⟨ret2 (by rw [V1.out]) (by rw [V2.out]), q1⟩
  · have h0 : okCS r d b xs turn since used run fallen = false := by simpa using h0
    go_enter Try.func27, Try.ntmps27
    go_wp2_with fail
    refine (isCS_spec r d b A cp B xs turn since used run fallen _ (by simp; omega) (hr.below (by go_grown) hB)).mono ?_
    rw [h0]
    have H0 := Lib.hid h0; clear h0
    rintro e w1 ⟨rfl, hb1⟩
    have q1 : Below w.heap.size w w1 := Below.then_ (by go_grown) hb1 (by simp; omega)
    clear hb1
    go_wp2
    go_ret2
    exact ⟨ret2 (by simp [tlV, H0.out]) (by simp [tlC, H0.out]), q1⟩

set_option maxHeartbeats 4000000 in
theorem tl_impl (r d b : Int) (A : Option Addr) (cp B : Nat) (xs : List Int) (turn since used : Int) (run : Bool) (fallen : Int) (player time : Int) (w : World) (hB : B ≤ w.heap.size) (hr : RdS w B 1 enI A xs) :
    Calls Try.prog 28 #[.agg #[.int .i64 r, .int .i64 d, .int .i64 b], .agg #[.slice A xs.length cp, .int .i64 turn, .int .i64 since, .int .i64 used, .bool run, .int .i64 fallen], .int .i64 player, .int .i64 time] w fun e w' => e = .returned (.tuple #[.int .i64 (tlV r d b xs turn since used run fallen player time), .int .i64 (tlC r d b xs turn since used run fallen player time)]) ∧ Below w.heap.size w w' := by
  by_cases h0 : okCS r d b xs turn since used run fallen = true
  · obtain ⟨x, y, rfl, ⟨r1, r2⟩, ⟨d1, d2⟩, ⟨b1, b2⟩, ⟨x1, x2⟩, ⟨y1, y2⟩, ht, ⟨s1, s2⟩, ⟨u1, u2⟩, hfall⟩ := okCS_elim h0
    obtain ⟨bk, off, x', rfl, hb, hx0, hc0⟩ := rdI_at hr (i := 0) (by simp)
    obtain ⟨bk', off', y', e1, hb', hx1, hc1⟩ := rdI_at hr (i := 1) (by simp)
    simp only [Option.some.injEq, Addr.mk.injEq, and_true] at e1
    obtain ⟨rfl, rfl⟩ := e1
    simp only [List.getElem?_cons_zero, List.getElem?_cons_succ, Option.some.injEq] at hx0 hx1
    subst hx0 hx1
    simp only [Nat.add_zero] at hc0
    have hbk : bk < w.heap.size := by omega
    clear hb hb'
    have H0 := Lib.hid h0
    go_enter Try.func28, Try.ntmps28
    go_wp2_with fail
    refine (isCS_impl r d b _ cp B [x, y] turn since used run fallen _ (by simp; omega) (hr.below (by go_grown) hB)).mono ?_
    rw [h0]
    clear h0
    rintro e w1 ⟨rfl, hb1⟩
    have rr := ((RowB.new _ _ _).alloc _).below hb1 (by simp; try omega)
    have rs := (RowB.new _ _ _).below hb1 (by simp; try omega)
    have q1 : Below w.heap.size w w1 := Below.then_ (by go_grown) hb1 (by simp; omega)
    have d0 := (q1.cell (p := ⟨bk, off, none⟩) hbk).trans hc0
    have d1' := (q1.cell (p := ⟨bk, off + 1, none⟩) hbk).trans hc1
    have hr := hr.below q1 hB
    have z1 := q1.size
    simp only [World.size_alloc] at rs
    have l1 := rs.lt
    obtain ⟨p0, p1, p2, p3, p4, p5⟩ := rs.c6
    obtain ⟨k0, k1, k2⟩ := rr.c3
    clear hc0 hc1 hb1 rs rr
    by_cases g1 : since ≤ time
    · by_cases g2 : time ≤ 100000000
      · by_cases g3 : player = 0 ∨ player = 1
        · rcases ht with rfl | rfl <;> rcases g3 with rfl | rfl
          · go_wp2_with (first | (go_at_call 53; refine (rest_impl r d b _ cp B x y 0 since used run fallen time _ (by omega) hr (.inl rfl) x1 x2 y1 y2 d1 d2 s1 s2 u1 u2 g1 g2).mono ?_; rintro e w2 ⟨rfl, t2⟩; have q2 := q1.trans (t2.mono q1.size)) | go_in)
            go_ret2
            exact ⟨ret2 (by simp [tlV, H0.out, g1, g2]) (by simp [tlC, H0.out, g1, g2]), q2⟩
          · go_wp2
            go_ret2
            exact ⟨ret2 (by simp [tlV, H0.out, g1, g2, sideOf]) (by simp [tlC, H0.out, g1, g2]), q1⟩
          · go_wp2
            go_ret2
            exact ⟨ret2 (by simp [tlV, H0.out, g1, g2, sideOf]) (by simp [tlC, H0.out, g1, g2]), q1⟩
          · go_wp2_with (first | (go_at_call 53; refine (rest_impl r d b _ cp B x y 1 since used run fallen time _ (by omega) hr (.inr rfl) x1 x2 y1 y2 d1 d2 s1 s2 u1 u2 g1 g2).mono ?_; rintro e w2 ⟨rfl, t2⟩; have q2 := q1.trans (t2.mono q1.size)) | go_in)
            go_ret2
            exact ⟨ret2 (by simp [tlV, H0.out, g1, g2]) (by simp [tlC, H0.out, g1, g2]), q2⟩
        · have g3' : player < 0 ∨ 1 < player := by omega
          have v1 : tlV r d b [x, y] turn since used run fallen player time = 0 := by unfold tlV; rw [if_neg (fun h => g3 h.2.1)]
          have v2 : tlC r d b [x, y] turn since used run fallen player time = 2 := by unfold tlC; rw [if_pos H0.out, if_neg (fun h => g3 h.1)]
          have V1 := Lib.hid v1
          have V2 := Lib.hid v2
          clear v1 v2
          rcases g3' with g3' | g3'
          · have hd : decide (0 ≤ player) = false := decide_eq_false (by omega)
            go_wp2
            all_goals go_ret2
            all_goals exact ⟨ret2 (by rw [V1.out]) (by rw [V2.out]), q1⟩
          · have hd : decide (player ≤ 1) = false := decide_eq_false (by omega)
            go_wp2
            all_goals go_ret2
            all_goals exact ⟨ret2 (by rw [V1.out]) (by rw [V2.out]), q1⟩
      · have v1 : tlV r d b [x, y] turn since used run fallen player time = 0 := by unfold tlV; rw [if_neg (fun h => g2 h.2.2.2)]
        have v2 : tlC r d b [x, y] turn since used run fallen player time = 2 := by unfold tlC; rw [if_pos H0.out, if_neg (fun h => g2 h.2.2)]
        have V1 := Lib.hid v1
        have V2 := Lib.hid v2
        clear v1 v2
        have hd : decide (time ≤ 100000000) = false := decide_eq_false g2
        replace g2 := Int.not_le.1 g2
        by_cases g3 : 0 ≤ player
        · by_cases g4 : player ≤ 1
          · go_wp2
            all_goals go_ret2
            all_goals exact ⟨ret2 (by rw [V1.out]) (by rw [V2.out]), q1⟩
          · have hd : decide (player ≤ 1) = false := decide_eq_false g4
            go_wp2
            all_goals go_ret2
            all_goals exact ⟨ret2 (by rw [V1.out]) (by rw [V2.out]), q1⟩
        · have hd : decide (0 ≤ player) = false := decide_eq_false g3
          go_wp2
          all_goals go_ret2
          all_goals exact ⟨ret2 (by rw [V1.out]) (by rw [V2.out]), q1⟩
    · have v1 : tlV r d b [x, y] turn since used run fallen player time = 0 := by unfold tlV; rw [if_neg (fun h => g1 h.2.2.1)]
      have v2 : tlC r d b [x, y] turn since used run fallen player time = 2 := by unfold tlC; rw [if_pos H0.out, if_neg (fun h => g1 h.2.1)]
      have V1 := Lib.hid v1
      have V2 := Lib.hid v2
      clear v1 v2
      have hd : decide (since ≤ time) = false := decide_eq_false g1
      replace g1 := Int.not_le.1 g1
      by_cases g3 : 0 ≤ player
      · by_cases g4 : player ≤ 1
        · go_wp2
          all_goals go_ret2
          all_goals exact ⟨ret2 (by rw [V1.out]) (by rw [V2.out]), q1⟩
        · have hd : decide (player ≤ 1) = false := decide_eq_false g4
          go_wp2
          all_goals go_ret2
          all_goals exact ⟨ret2 (by rw [V1.out]) (by rw [V2.out]), q1⟩
      · have hd : decide (0 ≤ player) = false := decide_eq_false g3
        go_wp2
        all_goals go_ret2
        all_goals exact ⟨ret2 (by rw [V1.out]) (by rw [V2.out]), q1⟩
  · have h0 : okCS r d b xs turn since used run fallen = false := by simpa using h0
    go_enter Try.func28, Try.ntmps28
    go_wp2_with fail
    refine (isCS_impl r d b A cp B xs turn since used run fallen _ (by simp; omega) (hr.below (by go_grown) hB)).mono ?_
    rw [h0]
    have H0 := Lib.hid h0; clear h0
    rintro e w1 ⟨rfl, hb1⟩
    have q1 : Below w.heap.size w w1 := Below.then_ (by go_grown) hb1 (by simp; omega)
    clear hb1
    go_wp2
    go_ret2
    exact ⟨ret2 (by simp [tlV, H0.out]) (by simp [tlC, H0.out]), q1⟩

theorem rest_at (l d since used : Int) : rest l d since used true since = max (l - max (used - d) 0) 0 := by
  unfold rest elap
  rw [if_pos rfl, show used + since - since = used from by omega]

set_option maxHeartbeats 4000000 in
theorem fl_spec (r d b : Int) (A : Option Addr) (cp B : Nat) (xs : List Int) (turn since used : Int) (run : Bool) (fallen : Int) (w : World) (hB : B ≤ w.heap.size) (hr : RdS w B 1 enI A xs) :
    Calls Try.prog 25 #[.agg #[.int .i64 r, .int .i64 d, .int .i64 b], .agg #[.slice A xs.length cp, .int .i64 turn, .int .i64 since, .int .i64 used, .bool run, .int .i64 fallen]] w fun e w' => e = .returned (.tuple #[.int .i64 (flV r d b xs turn since used run fallen), .int .i64 (flC r d b xs turn since used run fallen)]) ∧ Below w.heap.size w w' := by
  by_cases h0 : okCS r d b xs turn since used run fallen = true
  · obtain ⟨x, y, rfl, ⟨r1, r2⟩, ⟨d1, d2⟩, ⟨b1, b2⟩, ⟨x1, x2⟩, ⟨y1, y2⟩, ht, ⟨s1, s2⟩, ⟨u1, u2⟩, hfall⟩ := okCS_elim h0
    obtain ⟨bk, off, x', rfl, hb, hx0, hc0⟩ := rdI_at hr (i := 0) (by simp)
    obtain ⟨bk', off', y', e1, hb', hx1, hc1⟩ := rdI_at hr (i := 1) (by simp)
    simp only [Option.some.injEq, Addr.mk.injEq, and_true] at e1
    obtain ⟨rfl, rfl⟩ := e1
    simp only [List.getElem?_cons_zero, List.getElem?_cons_succ, Option.some.injEq] at hx0 hx1
    subst hx0 hx1
    simp only [Nat.add_zero] at hc0
    have hbk : bk < w.heap.size := by omega
    clear hb hb'
    have H0 := Lib.hid h0
    go_enter Try.func25, Try.ntmps25
    go_wp2_with fail
    refine (isCS_spec r d b _ cp B [x, y] turn since used run fallen _ (by simp; omega) (hr.below (by go_grown) hB)).mono ?_
    rw [h0]
    clear h0
    rintro e w1 ⟨rfl, hb1⟩
    have rr := ((RowB.new _ _ _).alloc _).below hb1 (by simp; try omega)
    have rs := (RowB.new _ _ _).below hb1 (by simp; try omega)
    have q1 : Below w.heap.size w w1 := Below.then_ (by go_grown) hb1 (by simp; omega)
    have d0 := (q1.cell (p := ⟨bk, off, none⟩) hbk).trans hc0
    have d1' := (q1.cell (p := ⟨bk, off + 1, none⟩) hbk).trans hc1
    have hr := hr.below q1 hB
    have z1 := q1.size
    simp only [World.size_alloc] at rs
    have l1 := rs.lt
    obtain ⟨p0, p1, p2, p3, p4, p5⟩ := rs.c6
    obtain ⟨k0, k1, k2⟩ := rr.c3
    clear hc0 hc1 hb1 rs rr
    cases run
    · have v1 : flV r d b [x, y] turn since used false fallen = 0 := by unfold flV; rw [if_neg (fun h => by simp at h)]
      have v2 : flC r d b [x, y] turn since used false fallen = 5 := by unfold flC; rw [if_pos H0.out, if_neg (by simp)]
      have V1 := Lib.hid v1
      have V2 := Lib.hid v2
      clear v1 v2
      go_wp2
      go_ret2
      exact ⟨ret2 (by rw [V1.out]) (by rw [V2.out]), q1⟩
    · rcases ht with rfl | rfl
      · have hl : sideOf [x, y] 0 = x := rfl
        by_cases c1 : x > max (used - d) 0
        · have hT : flT x d since used = since - used + d + x := by unfold flT; rw [if_pos c1]
          have hpos : 0 < rest (sideOf [x, y] 0) d since used true since := by rw [rest_at, hl]; omega
          have hx0 : 0 < x := by omega
          have hsum : since - used + d + x = since + (d + x - used) := by omega
          by_cases c2 : since - used + d + x ≤ 100000000
          · have v1 : flV r d b [x, y] 0 since used true fallen = since - used + d + x := by unfold flV; rw [hl, hT, if_pos ⟨H0.out, rfl, c2⟩]
            have v2 : flC r d b [x, y] 0 since used true fallen = 0 := by unfold flC; rw [hl, hT, if_pos H0.out, if_pos rfl, if_pos c2]
            have V1 := Lib.hid v1
            have V2 := Lib.hid v2
            have X := Lib.hid hsum
            clear v1 v2 hT hl hsum
            go_wp2_with (first | (go_at_call 52; refine (rest_spec r d b _ cp B x y 0 since used true fallen since _ (by omega) hr (.inl rfl) x1 x2 y1 y2 d1 d2 s1 s2 u1 u2 (Int.le_refl _) s2).mono ?_; rintro e w2 ⟨rfl, t2⟩; have q2 := q1.trans (t2.mono q1.size); have m2 := (t2.cell (p := ⟨w.heap.size + 1, 2, none⟩) (by go_size)).trans p2; have m3 := (t2.cell (p := ⟨w.heap.size + 1, 3, none⟩) (by go_size)).trans p3; have m0 := (t2.cell (p := ⟨w.heap.size + 1, 0, none⟩) (by go_size)).trans p0; have m1 := (t2.cell (p := ⟨w.heap.size + 1, 1, none⟩) (by go_size)).trans p1; have n1 := (t2.cell (p := ⟨w.heap.size, 1, none⟩) (by go_size)).trans k1; have o1 := (t2.cell (p := ⟨bk, off, none⟩) (by show bk < _; omega)).trans d0) | go_in)
            have e1 : IntKind.i64.wrap (since - used) = since - used := IntWalk.i64_in _ (by omega)
            have e2 : IntKind.i64.wrap (since - used + d) = since - used + d := IntWalk.i64_in _ (by omega)
            have e3 : IntKind.i64.wrap (since - used + d + x) = since - used + d + x := IntWalk.i64_in _ (by omega)
            go_quiet (fail)
            go_wp2
            all_goals go_ret2
            all_goals exact ⟨ret2 (by rw [V1.out]; try omega) (by rw [V2.out]), below_drewN q2 _⟩
          · have v1 : flV r d b [x, y] 0 since used true fallen = 0 := by unfold flV; rw [hl, hT, if_neg (fun h => c2 h.2.2)]
            have v2 : flC r d b [x, y] 0 since used true fallen = 4 := by unfold flC; rw [hl, hT, if_pos H0.out, if_pos rfl, if_neg c2]
            have V1 := Lib.hid v1
            have V2 := Lib.hid v2
            replace c2 := Int.not_le.1 c2
            have X := Lib.hid hsum
            clear v1 v2 hT hl hsum
            go_wp2_with (first | (go_at_call 52; refine (rest_spec r d b _ cp B x y 0 since used true fallen since _ (by omega) hr (.inl rfl) x1 x2 y1 y2 d1 d2 s1 s2 u1 u2 (Int.le_refl _) s2).mono ?_; rintro e w2 ⟨rfl, t2⟩; have q2 := q1.trans (t2.mono q1.size); have m2 := (t2.cell (p := ⟨w.heap.size + 1, 2, none⟩) (by go_size)).trans p2; have m3 := (t2.cell (p := ⟨w.heap.size + 1, 3, none⟩) (by go_size)).trans p3; have m0 := (t2.cell (p := ⟨w.heap.size + 1, 0, none⟩) (by go_size)).trans p0; have m1 := (t2.cell (p := ⟨w.heap.size + 1, 1, none⟩) (by go_size)).trans p1; have n1 := (t2.cell (p := ⟨w.heap.size, 1, none⟩) (by go_size)).trans k1; have o1 := (t2.cell (p := ⟨bk, off, none⟩) (by show bk < _; omega)).trans d0) | go_in)
            have e1 : IntKind.i64.wrap (since - used) = since - used := IntWalk.i64_in _ (by omega)
            have e2 : IntKind.i64.wrap (since - used + d) = since - used + d := IntWalk.i64_in _ (by omega)
            have e3 : IntKind.i64.wrap (since - used + d + x) = since - used + d + x := IntWalk.i64_in _ (by omega)
            go_quiet (fail)
            go_wp2
            all_goals go_ret2
            all_goals exact ⟨ret2 (by rw [V1.out]) (by rw [V2.out]), below_drewN q2 _⟩
        · have hT : flT x d since used = since := by unfold flT; rw [if_neg c1]
          have hneg : rest (sideOf [x, y] 0) d since used true since ≤ 0 := by rw [rest_at, hl]; omega
          have v1 : flV r d b [x, y] 0 since used true fallen = since := by unfold flV; rw [hl, hT, if_pos ⟨H0.out, rfl, s2⟩]
          have v2 : flC r d b [x, y] 0 since used true fallen = 0 := by unfold flC; rw [hl, hT, if_pos H0.out, if_pos rfl, if_pos s2]
          have V1 := Lib.hid v1
          have V2 := Lib.hid v2
          replace c1 : x ≤ max (used - d) 0 := Int.not_lt.1 c1
          have C1 : x ≤ 0 ∨ d + x - used ≤ 0 := by omega
          have C1 := Lib.hid C1
          clear v1 v2 hT hl c1
          by_cases c3 : 0 < x
          · have c4 : d + x - used ≤ 0 := by rcases C1.out with h | h <;> omega
            go_wp2_with (first | (go_at_call 52; refine (rest_spec r d b _ cp B x y 0 since used true fallen since _ (by omega) hr (.inl rfl) x1 x2 y1 y2 d1 d2 s1 s2 u1 u2 (Int.le_refl _) s2).mono ?_; rintro e w2 ⟨rfl, t2⟩; have q2 := q1.trans (t2.mono q1.size); have m2 := (t2.cell (p := ⟨w.heap.size + 1, 2, none⟩) (by go_size)).trans p2; have m3 := (t2.cell (p := ⟨w.heap.size + 1, 3, none⟩) (by go_size)).trans p3; have m0 := (t2.cell (p := ⟨w.heap.size + 1, 0, none⟩) (by go_size)).trans p0; have m1 := (t2.cell (p := ⟨w.heap.size + 1, 1, none⟩) (by go_size)).trans p1; have n1 := (t2.cell (p := ⟨w.heap.size, 1, none⟩) (by go_size)).trans k1; have o1 := (t2.cell (p := ⟨bk, off, none⟩) (by show bk < _; omega)).trans d0) | go_in)
            all_goals go_ret2
            all_goals exact ⟨ret2 (by rw [V1.out]; try omega) (by rw [V2.out]), q2⟩
          · replace c3 := Int.not_lt.1 c3
            go_wp2_with (first | (go_at_call 52; refine (rest_spec r d b _ cp B x y 0 since used true fallen since _ (by omega) hr (.inl rfl) x1 x2 y1 y2 d1 d2 s1 s2 u1 u2 (Int.le_refl _) s2).mono ?_; rintro e w2 ⟨rfl, t2⟩; have q2 := q1.trans (t2.mono q1.size); have m2 := (t2.cell (p := ⟨w.heap.size + 1, 2, none⟩) (by go_size)).trans p2; have m3 := (t2.cell (p := ⟨w.heap.size + 1, 3, none⟩) (by go_size)).trans p3; have m0 := (t2.cell (p := ⟨w.heap.size + 1, 0, none⟩) (by go_size)).trans p0; have m1 := (t2.cell (p := ⟨w.heap.size + 1, 1, none⟩) (by go_size)).trans p1; have n1 := (t2.cell (p := ⟨w.heap.size, 1, none⟩) (by go_size)).trans k1; have o1 := (t2.cell (p := ⟨bk, off, none⟩) (by show bk < _; omega)).trans d0) | go_in)
            all_goals go_ret2
            all_goals exact ⟨ret2 (by rw [V1.out]; try omega) (by rw [V2.out]), q2⟩
      · have hl : sideOf [x, y] 1 = y := rfl
        by_cases c1 : y > max (used - d) 0
        · have hT : flT y d since used = since - used + d + y := by unfold flT; rw [if_pos c1]
          have hpos : 0 < rest (sideOf [x, y] 1) d since used true since := by rw [rest_at, hl]; omega
          have hx0 : 0 < y := by omega
          have hsum : since - used + d + y = since + (d + y - used) := by omega
          by_cases c2 : since - used + d + y ≤ 100000000
          · have v1 : flV r d b [x, y] 1 since used true fallen = since - used + d + y := by unfold flV; rw [hl, hT, if_pos ⟨H0.out, rfl, c2⟩]
            have v2 : flC r d b [x, y] 1 since used true fallen = 0 := by unfold flC; rw [hl, hT, if_pos H0.out, if_pos rfl, if_pos c2]
            have V1 := Lib.hid v1
            have V2 := Lib.hid v2
            have X := Lib.hid hsum
            clear v1 v2 hT hl hsum
            go_wp2_with (first | (go_at_call 52; refine (rest_spec r d b _ cp B x y 1 since used true fallen since _ (by omega) hr (.inr rfl) x1 x2 y1 y2 d1 d2 s1 s2 u1 u2 (Int.le_refl _) s2).mono ?_; rintro e w2 ⟨rfl, t2⟩; have q2 := q1.trans (t2.mono q1.size); have m2 := (t2.cell (p := ⟨w.heap.size + 1, 2, none⟩) (by go_size)).trans p2; have m3 := (t2.cell (p := ⟨w.heap.size + 1, 3, none⟩) (by go_size)).trans p3; have m0 := (t2.cell (p := ⟨w.heap.size + 1, 0, none⟩) (by go_size)).trans p0; have m1 := (t2.cell (p := ⟨w.heap.size + 1, 1, none⟩) (by go_size)).trans p1; have n1 := (t2.cell (p := ⟨w.heap.size, 1, none⟩) (by go_size)).trans k1; have o1 := (t2.cell (p := ⟨bk, off + 1, none⟩) (by show bk < _; omega)).trans d1') | go_in)
            have e1 : IntKind.i64.wrap (since - used) = since - used := IntWalk.i64_in _ (by omega)
            have e2 : IntKind.i64.wrap (since - used + d) = since - used + d := IntWalk.i64_in _ (by omega)
            have e3 : IntKind.i64.wrap (since - used + d + y) = since - used + d + y := IntWalk.i64_in _ (by omega)
            go_quiet (fail)
            go_wp2
            all_goals go_ret2
            all_goals exact ⟨ret2 (by rw [V1.out]; try omega) (by rw [V2.out]), below_drewN q2 _⟩
          · have v1 : flV r d b [x, y] 1 since used true fallen = 0 := by unfold flV; rw [hl, hT, if_neg (fun h => c2 h.2.2)]
            have v2 : flC r d b [x, y] 1 since used true fallen = 4 := by unfold flC; rw [hl, hT, if_pos H0.out, if_pos rfl, if_neg c2]
            have V1 := Lib.hid v1
            have V2 := Lib.hid v2
            replace c2 := Int.not_le.1 c2
            have X := Lib.hid hsum
            clear v1 v2 hT hl hsum
            go_wp2_with (first | (go_at_call 52; refine (rest_spec r d b _ cp B x y 1 since used true fallen since _ (by omega) hr (.inr rfl) x1 x2 y1 y2 d1 d2 s1 s2 u1 u2 (Int.le_refl _) s2).mono ?_; rintro e w2 ⟨rfl, t2⟩; have q2 := q1.trans (t2.mono q1.size); have m2 := (t2.cell (p := ⟨w.heap.size + 1, 2, none⟩) (by go_size)).trans p2; have m3 := (t2.cell (p := ⟨w.heap.size + 1, 3, none⟩) (by go_size)).trans p3; have m0 := (t2.cell (p := ⟨w.heap.size + 1, 0, none⟩) (by go_size)).trans p0; have m1 := (t2.cell (p := ⟨w.heap.size + 1, 1, none⟩) (by go_size)).trans p1; have n1 := (t2.cell (p := ⟨w.heap.size, 1, none⟩) (by go_size)).trans k1; have o1 := (t2.cell (p := ⟨bk, off + 1, none⟩) (by show bk < _; omega)).trans d1') | go_in)
            have e1 : IntKind.i64.wrap (since - used) = since - used := IntWalk.i64_in _ (by omega)
            have e2 : IntKind.i64.wrap (since - used + d) = since - used + d := IntWalk.i64_in _ (by omega)
            have e3 : IntKind.i64.wrap (since - used + d + y) = since - used + d + y := IntWalk.i64_in _ (by omega)
            go_quiet (fail)
            go_wp2
            all_goals go_ret2
            all_goals exact ⟨ret2 (by rw [V1.out]) (by rw [V2.out]), below_drewN q2 _⟩
        · have hT : flT y d since used = since := by unfold flT; rw [if_neg c1]
          have hneg : rest (sideOf [x, y] 1) d since used true since ≤ 0 := by rw [rest_at, hl]; omega
          have v1 : flV r d b [x, y] 1 since used true fallen = since := by unfold flV; rw [hl, hT, if_pos ⟨H0.out, rfl, s2⟩]
          have v2 : flC r d b [x, y] 1 since used true fallen = 0 := by unfold flC; rw [hl, hT, if_pos H0.out, if_pos rfl, if_pos s2]
          have V1 := Lib.hid v1
          have V2 := Lib.hid v2
          replace c1 : y ≤ max (used - d) 0 := Int.not_lt.1 c1
          have C1 : y ≤ 0 ∨ d + y - used ≤ 0 := by omega
          have C1 := Lib.hid C1
          clear v1 v2 hT hl c1
          by_cases c3 : 0 < y
          · have c4 : d + y - used ≤ 0 := by rcases C1.out with h | h <;> omega
            go_wp2_with (first | (go_at_call 52; refine (rest_spec r d b _ cp B x y 1 since used true fallen since _ (by omega) hr (.inr rfl) x1 x2 y1 y2 d1 d2 s1 s2 u1 u2 (Int.le_refl _) s2).mono ?_; rintro e w2 ⟨rfl, t2⟩; have q2 := q1.trans (t2.mono q1.size); have m2 := (t2.cell (p := ⟨w.heap.size + 1, 2, none⟩) (by go_size)).trans p2; have m3 := (t2.cell (p := ⟨w.heap.size + 1, 3, none⟩) (by go_size)).trans p3; have m0 := (t2.cell (p := ⟨w.heap.size + 1, 0, none⟩) (by go_size)).trans p0; have m1 := (t2.cell (p := ⟨w.heap.size + 1, 1, none⟩) (by go_size)).trans p1; have n1 := (t2.cell (p := ⟨w.heap.size, 1, none⟩) (by go_size)).trans k1; have o1 := (t2.cell (p := ⟨bk, off + 1, none⟩) (by show bk < _; omega)).trans d1') | go_in)
            all_goals go_ret2
            all_goals exact ⟨ret2 (by rw [V1.out]; try omega) (by rw [V2.out]), q2⟩
          · replace c3 := Int.not_lt.1 c3
            go_wp2_with (first | (go_at_call 52; refine (rest_spec r d b _ cp B x y 1 since used true fallen since _ (by omega) hr (.inr rfl) x1 x2 y1 y2 d1 d2 s1 s2 u1 u2 (Int.le_refl _) s2).mono ?_; rintro e w2 ⟨rfl, t2⟩; have q2 := q1.trans (t2.mono q1.size); have m2 := (t2.cell (p := ⟨w.heap.size + 1, 2, none⟩) (by go_size)).trans p2; have m3 := (t2.cell (p := ⟨w.heap.size + 1, 3, none⟩) (by go_size)).trans p3; have m0 := (t2.cell (p := ⟨w.heap.size + 1, 0, none⟩) (by go_size)).trans p0; have m1 := (t2.cell (p := ⟨w.heap.size + 1, 1, none⟩) (by go_size)).trans p1; have n1 := (t2.cell (p := ⟨w.heap.size, 1, none⟩) (by go_size)).trans k1; have o1 := (t2.cell (p := ⟨bk, off + 1, none⟩) (by show bk < _; omega)).trans d1') | go_in)
            all_goals go_ret2
            all_goals exact ⟨ret2 (by rw [V1.out]; try omega) (by rw [V2.out]), q2⟩
  · have h0 : okCS r d b xs turn since used run fallen = false := by simpa using h0
    go_enter Try.func25, Try.ntmps25
    go_wp2_with fail
    refine (isCS_spec r d b A cp B xs turn since used run fallen _ (by simp; omega) (hr.below (by go_grown) hB)).mono ?_
    rw [h0]
    have H0 := Lib.hid h0; clear h0
    rintro e w1 ⟨rfl, hb1⟩
    have q1 : Below w.heap.size w w1 := Below.then_ (by go_grown) hb1 (by simp; omega)
    clear hb1
    go_wp2
    go_ret2
    exact ⟨ret2 (by simp [flV, H0.out]) (by simp [flC, H0.out]), q1⟩

set_option maxHeartbeats 4000000 in
theorem fl_impl (r d b : Int) (A : Option Addr) (cp B : Nat) (xs : List Int) (turn since used : Int) (run : Bool) (fallen : Int) (w : World) (hB : B ≤ w.heap.size) (hr : RdS w B 1 enI A xs) :
    Calls Try.prog 26 #[.agg #[.int .i64 r, .int .i64 d, .int .i64 b], .agg #[.slice A xs.length cp, .int .i64 turn, .int .i64 since, .int .i64 used, .bool run, .int .i64 fallen]] w fun e w' => e = .returned (.tuple #[.int .i64 (flV r d b xs turn since used run fallen), .int .i64 (flC r d b xs turn since used run fallen)]) ∧ Below w.heap.size w w' := by
  by_cases h0 : okCS r d b xs turn since used run fallen = true
  · obtain ⟨x, y, rfl, ⟨r1, r2⟩, ⟨d1, d2⟩, ⟨b1, b2⟩, ⟨x1, x2⟩, ⟨y1, y2⟩, ht, ⟨s1, s2⟩, ⟨u1, u2⟩, hfall⟩ := okCS_elim h0
    obtain ⟨bk, off, x', rfl, hb, hx0, hc0⟩ := rdI_at hr (i := 0) (by simp)
    obtain ⟨bk', off', y', e1, hb', hx1, hc1⟩ := rdI_at hr (i := 1) (by simp)
    simp only [Option.some.injEq, Addr.mk.injEq, and_true] at e1
    obtain ⟨rfl, rfl⟩ := e1
    simp only [List.getElem?_cons_zero, List.getElem?_cons_succ, Option.some.injEq] at hx0 hx1
    subst hx0 hx1
    simp only [Nat.add_zero] at hc0
    have hbk : bk < w.heap.size := by omega
    clear hb hb'
    have H0 := Lib.hid h0
    go_enter Try.func26, Try.ntmps26
    go_wp2_with fail
    refine (isCS_impl r d b _ cp B [x, y] turn since used run fallen _ (by simp; omega) (hr.below (by go_grown) hB)).mono ?_
    rw [h0]
    clear h0
    rintro e w1 ⟨rfl, hb1⟩
    have rr := ((RowB.new _ _ _).alloc _).below hb1 (by simp; try omega)
    have rs := (RowB.new _ _ _).below hb1 (by simp; try omega)
    have q1 : Below w.heap.size w w1 := Below.then_ (by go_grown) hb1 (by simp; omega)
    have d0 := (q1.cell (p := ⟨bk, off, none⟩) hbk).trans hc0
    have d1' := (q1.cell (p := ⟨bk, off + 1, none⟩) hbk).trans hc1
    have hr := hr.below q1 hB
    have z1 := q1.size
    simp only [World.size_alloc] at rs
    have l1 := rs.lt
    obtain ⟨p0, p1, p2, p3, p4, p5⟩ := rs.c6
    obtain ⟨k0, k1, k2⟩ := rr.c3
    clear hc0 hc1 hb1 rs rr
    cases run
    · have v1 : flV r d b [x, y] turn since used false fallen = 0 := by unfold flV; rw [if_neg (fun h => by simp at h)]
      have v2 : flC r d b [x, y] turn since used false fallen = 5 := by unfold flC; rw [if_pos H0.out, if_neg (by simp)]
      have V1 := Lib.hid v1
      have V2 := Lib.hid v2
      clear v1 v2
      go_wp2
      go_ret2
      exact ⟨ret2 (by rw [V1.out]) (by rw [V2.out]), q1⟩
    · rcases ht with rfl | rfl
      · have hl : sideOf [x, y] 0 = x := rfl
        by_cases c1 : x > max (used - d) 0
        · have hT : flT x d since used = since - used + d + x := by unfold flT; rw [if_pos c1]
          have hpos : 0 < rest (sideOf [x, y] 0) d since used true since := by rw [rest_at, hl]; omega
          have hx0 : 0 < x := by omega
          have hsum : since - used + d + x = since + (d + x - used) := by omega
          by_cases c2 : since - used + d + x ≤ 100000000
          · have v1 : flV r d b [x, y] 0 since used true fallen = since - used + d + x := by unfold flV; rw [hl, hT, if_pos ⟨H0.out, rfl, c2⟩]
            have v2 : flC r d b [x, y] 0 since used true fallen = 0 := by unfold flC; rw [hl, hT, if_pos H0.out, if_pos rfl, if_pos c2]
            have V1 := Lib.hid v1
            have V2 := Lib.hid v2
            have X := Lib.hid hsum
            clear v1 v2 hT hl hsum
            go_wp2
            all_goals go_ret2
            all_goals exact ⟨ret2 (by rw [V1.out]; try omega) (by rw [V2.out]), q1⟩
          · have v1 : flV r d b [x, y] 0 since used true fallen = 0 := by unfold flV; rw [hl, hT, if_neg (fun h => c2 h.2.2)]
            have v2 : flC r d b [x, y] 0 since used true fallen = 4 := by unfold flC; rw [hl, hT, if_pos H0.out, if_pos rfl, if_neg c2]
            have V1 := Lib.hid v1
            have V2 := Lib.hid v2
            replace c2 := Int.not_le.1 c2
            have X := Lib.hid hsum
            clear v1 v2 hT hl hsum
            go_wp2
            all_goals go_ret2
            all_goals exact ⟨ret2 (by rw [V1.out]) (by rw [V2.out]), q1⟩
        · have hT : flT x d since used = since := by unfold flT; rw [if_neg c1]
          have hneg : rest (sideOf [x, y] 0) d since used true since ≤ 0 := by rw [rest_at, hl]; omega
          have v1 : flV r d b [x, y] 0 since used true fallen = since := by unfold flV; rw [hl, hT, if_pos ⟨H0.out, rfl, s2⟩]
          have v2 : flC r d b [x, y] 0 since used true fallen = 0 := by unfold flC; rw [hl, hT, if_pos H0.out, if_pos rfl, if_pos s2]
          have V1 := Lib.hid v1
          have V2 := Lib.hid v2
          replace c1 : x ≤ max (used - d) 0 := Int.not_lt.1 c1
          have C1 : x ≤ 0 ∨ d + x - used ≤ 0 := by omega
          have C1 := Lib.hid C1
          clear v1 v2 hT hl c1
          by_cases c3 : 0 < x
          · have c4 : d + x - used ≤ 0 := by rcases C1.out with h | h <;> omega
            go_wp2
            all_goals go_ret2
            all_goals exact ⟨ret2 (by rw [V1.out]; try omega) (by rw [V2.out]), q1⟩
          · replace c3 := Int.not_lt.1 c3
            go_wp2
            all_goals go_ret2
            all_goals exact ⟨ret2 (by rw [V1.out]; try omega) (by rw [V2.out]), q1⟩
      · have hl : sideOf [x, y] 1 = y := rfl
        by_cases c1 : y > max (used - d) 0
        · have hT : flT y d since used = since - used + d + y := by unfold flT; rw [if_pos c1]
          have hpos : 0 < rest (sideOf [x, y] 1) d since used true since := by rw [rest_at, hl]; omega
          have hx0 : 0 < y := by omega
          have hsum : since - used + d + y = since + (d + y - used) := by omega
          by_cases c2 : since - used + d + y ≤ 100000000
          · have v1 : flV r d b [x, y] 1 since used true fallen = since - used + d + y := by unfold flV; rw [hl, hT, if_pos ⟨H0.out, rfl, c2⟩]
            have v2 : flC r d b [x, y] 1 since used true fallen = 0 := by unfold flC; rw [hl, hT, if_pos H0.out, if_pos rfl, if_pos c2]
            have V1 := Lib.hid v1
            have V2 := Lib.hid v2
            have X := Lib.hid hsum
            clear v1 v2 hT hl hsum
            go_wp2
            all_goals go_ret2
            all_goals exact ⟨ret2 (by rw [V1.out]; try omega) (by rw [V2.out]), q1⟩
          · have v1 : flV r d b [x, y] 1 since used true fallen = 0 := by unfold flV; rw [hl, hT, if_neg (fun h => c2 h.2.2)]
            have v2 : flC r d b [x, y] 1 since used true fallen = 4 := by unfold flC; rw [hl, hT, if_pos H0.out, if_pos rfl, if_neg c2]
            have V1 := Lib.hid v1
            have V2 := Lib.hid v2
            replace c2 := Int.not_le.1 c2
            have X := Lib.hid hsum
            clear v1 v2 hT hl hsum
            go_wp2
            all_goals go_ret2
            all_goals exact ⟨ret2 (by rw [V1.out]) (by rw [V2.out]), q1⟩
        · have hT : flT y d since used = since := by unfold flT; rw [if_neg c1]
          have hneg : rest (sideOf [x, y] 1) d since used true since ≤ 0 := by rw [rest_at, hl]; omega
          have v1 : flV r d b [x, y] 1 since used true fallen = since := by unfold flV; rw [hl, hT, if_pos ⟨H0.out, rfl, s2⟩]
          have v2 : flC r d b [x, y] 1 since used true fallen = 0 := by unfold flC; rw [hl, hT, if_pos H0.out, if_pos rfl, if_pos s2]
          have V1 := Lib.hid v1
          have V2 := Lib.hid v2
          replace c1 : y ≤ max (used - d) 0 := Int.not_lt.1 c1
          have C1 : y ≤ 0 ∨ d + y - used ≤ 0 := by omega
          have C1 := Lib.hid C1
          clear v1 v2 hT hl c1
          by_cases c3 : 0 < y
          · have c4 : d + y - used ≤ 0 := by rcases C1.out with h | h <;> omega
            go_wp2
            all_goals go_ret2
            all_goals exact ⟨ret2 (by rw [V1.out]; try omega) (by rw [V2.out]), q1⟩
          · replace c3 := Int.not_lt.1 c3
            go_wp2
            all_goals go_ret2
            all_goals exact ⟨ret2 (by rw [V1.out]; try omega) (by rw [V2.out]), q1⟩
  · have h0 : okCS r d b xs turn since used run fallen = false := by simpa using h0
    go_enter Try.func26, Try.ntmps26
    go_wp2_with fail
    refine (isCS_impl r d b A cp B xs turn since used run fallen _ (by simp; omega) (hr.below (by go_grown) hB)).mono ?_
    rw [h0]
    have H0 := Lib.hid h0; clear h0
    rintro e w1 ⟨rfl, hb1⟩
    have q1 : Below w.heap.size w w1 := Below.then_ (by go_grown) hb1 (by simp; omega)
    clear hb1
    go_wp2
    go_ret2
    exact ⟨ret2 (by simp [flV, H0.out]) (by simp [flC, H0.out]), q1⟩

end Go.Proofs.Ytdjopnhbcchedaa.ClockT
