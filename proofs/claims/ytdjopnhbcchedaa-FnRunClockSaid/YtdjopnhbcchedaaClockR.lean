/-
  The contracts of the elapsed time and the rest of a clock, of the program and of the reference. Conditions: each theorem's own.
-/
import Derived.Test.YtdjopnhbcchedaaClockSt
set_option linter.unusedVariables false
namespace Go.Proofs.Ytdjopnhbcchedaa.ClockR
open Go.ChangeShapes Go.WideShapes Go.ChangeAt Go.RowKit Base Ints Clock ClockSt

/-- The elapsed time of the turn. -/
def elap (since used : Int) (run : Bool) (time : Int) : Int := if run = true then used + time - since else used
/-- The rest of the player on turn. -/
def rest (l d since used : Int) (run : Bool) (time : Int) : Int := max (l - max (elap since used run time - d) 0) 0
def sideOf (xs : List Int) (i : Int) : Int := xs.getD i.toNat 0
theorem elap_bd {since used time : Int} {run : Bool} (s1 : 0 ≤ since) (s2 : since ≤ 100000000) (u1 : 0 ≤ used) (u2 : used ≤ 100000000) (t1 : since ≤ time) (t2 : time ≤ 100000000) : 0 ≤ elap since used run time ∧ elap since used run time ≤ 200000000 := by
  unfold elap; split <;> omega
theorem ret1 {a c : Int} (h1 : a = c) : Ending.returned (.int .i64 a) = Ending.returned (.int .i64 c) := by rw [h1]

theorem el_spec (A : Option Addr) (n cp : Nat) (turn since used : Int) (run : Bool) (fallen time : Int) (w : World) (s1 : 0 ≤ since) (s2 : since ≤ 100000000) (u1 : 0 ≤ used) (u2 : used ≤ 100000000) (t1 : since ≤ time) (t2 : time ≤ 100000000) :
    Calls Try.prog 63 #[.agg #[.slice A n cp, .int .i64 turn, .int .i64 since, .int .i64 used, .bool run, .int .i64 fallen], .int .i64 time] w fun e w' => e = .returned (.int .i64 (elap since used run time)) ∧ Below w.heap.size w w' := by
  cases run
  all_goals
    go_enter Try.func63, Try.ntmps63
    go_wp2
    go_ret
    exact ⟨rfl, by go_grown⟩

theorem el_impl (A : Option Addr) (n cp : Nat) (turn since used : Int) (run : Bool) (fallen time : Int) (w : World) (s1 : 0 ≤ since) (s2 : since ≤ 100000000) (u1 : 0 ≤ used) (u2 : used ≤ 100000000) (t1 : since ≤ time) (t2 : time ≤ 100000000) :
    Calls Try.prog 58 #[.agg #[.slice A n cp, .int .i64 turn, .int .i64 since, .int .i64 used, .bool run, .int .i64 fallen], .int .i64 time] w fun e w' => e = .returned (.int .i64 (elap since used run time)) ∧ Below w.heap.size w w' := by
  cases run
  all_goals
    go_enter Try.func58, Try.ntmps58
    go_wp2
    go_ret
    exact ⟨rfl, by go_grown⟩

set_option maxHeartbeats 4000000 in
theorem rest_spec (r d b : Int) (A : Option Addr) (cp B : Nat) (x y turn since used : Int) (run : Bool) (fallen time : Int) (w : World) (hB : B ≤ w.heap.size) (hr : RdS w B 1 enI A [x, y]) (ht : turn = 0 ∨ turn = 1) (x1 : 0 ≤ x) (x2 : x ≤ 100000000) (y1 : 0 ≤ y) (y2 : y ≤ 100000000) (d1 : 0 ≤ d) (d2 : d ≤ 100000000) (s1 : 0 ≤ since) (s2 : since ≤ 100000000) (u1 : 0 ≤ used) (u2 : used ≤ 100000000) (t1 : since ≤ time) (t2 : time ≤ 100000000) :
    Calls Try.prog 52 #[.agg #[.int .i64 r, .int .i64 d, .int .i64 b], .agg #[.slice A 2 cp, .int .i64 turn, .int .i64 since, .int .i64 used, .bool run, .int .i64 fallen], .int .i64 time] w fun e w' => e = .returned (.int .i64 (rest (sideOf [x, y] turn) d since used run time)) ∧ Below w.heap.size w w' := by
  obtain ⟨bk, off, x', rfl, hb, hx0, hc0⟩ := rdI_at hr (i := 0) (by simp)
  obtain ⟨bk', off', y', e1, hb', hx1, hc1⟩ := rdI_at hr (i := 1) (by simp)
  simp only [Option.some.injEq, Addr.mk.injEq, and_true] at e1
  obtain ⟨rfl, rfl⟩ := e1
  simp only [List.getElem?_cons_zero, List.getElem?_cons_succ, Option.some.injEq] at hx0 hx1
  subst hx0 hx1
  simp only [Nat.add_zero] at hc0
  have hbk : bk < w.heap.size := by omega
  have hel := elap_bd (run := run) s1 s2 u1 u2 t1 t2
  have E := fun w0 => el_spec (some ⟨bk, off, none⟩) 2 cp turn since used run fallen time w0 s1 s2 u1 u2 t1 t2
  unfold rest
  generalize elap since used run time = el at hel E
  have E := Lib.hid E
  obtain ⟨el1, el2⟩ := hel
  clear hr hb hb'
  rcases ht with rfl | rfl
  · have hl : sideOf [x, y] 0 = x := rfl
    rw [hl]
    clear hl hc1
    have main : ∀ m : Int, m = max (x - max (el - d) 0) 0 → Calls Try.prog 52 #[.agg #[.int .i64 r, .int .i64 d, .int .i64 b], .agg #[.slice (some ⟨bk, off, none⟩) 2 cp, .int .i64 0, .int .i64 since, .int .i64 used, .bool run, .int .i64 fallen], .int .i64 time] w fun e w' => e = .returned (.int .i64 m) ∧ Below w.heap.size w w' := by
      intro m hm
      have HM := Lib.hid hm; clear hm
      go_enter Try.func52, Try.ntmps52
      go_wp2_with fail
      refine wp_gen (fun W' => Below w.heap.size w W' ∧ RowB W' (w.heap.size) 25 [.int .i64 r, .int .i64 d, .int .i64 b] ∧ RowB W' (w.heap.size + 1) 30 [.slice (some ⟨bk, off, none⟩) 2 cp, .int .i64 0, .int .i64 since, .int .i64 used, .bool run, .int .i64 fallen]) ⟨by go_grown, (RowB.new _ _ _).alloc _, by have := RowB.new (w.alloc (.cells #[.int .i64 r, .int .i64 d, .int .i64 b] 25)) 30 [.slice (some ⟨bk, off, none⟩) 2 cp, .int .i64 0, .int .i64 since, .int .i64 used, .bool run, .int .i64 fallen]; rw [World.size_alloc] at this; exact this⟩ ?_
      rintro w1 ⟨q1, rr, rs⟩
      have c1 := (q1.cell (p := ⟨bk, off, none⟩) hbk).trans hc0
      have l1 := rr.lt
      have l2 := rs.lt
      go_region_held3 (fun w' => (w'.cell? ⟨w.heap.size, 0, none⟩ = some (.int .i64 r) ∧ w'.cell? ⟨w.heap.size, 1, none⟩ = some (.int .i64 d) ∧ w'.cell? ⟨w.heap.size, 2, none⟩ = some (.int .i64 b)) ∧ (w'.cell? ⟨w.heap.size + 1, 0, none⟩ = some (.slice (some ⟨bk, off, none⟩) 2 cp) ∧ w'.cell? ⟨w.heap.size + 1, 1, none⟩ = some (.int .i64 0) ∧ w'.cell? ⟨w.heap.size + 1, 2, none⟩ = some (.int .i64 since) ∧ w'.cell? ⟨w.heap.size + 1, 3, none⟩ = some (.int .i64 used) ∧ w'.cell? ⟨w.heap.size + 1, 4, none⟩ = some (.bool run) ∧ w'.cell? ⟨w.heap.size + 1, 5, none⟩ = some (.int .i64 fallen)) ∧ (w'.cell? ⟨bk, off, none⟩ = some (.int .i64 x))) (exact ⟨rr.c3, rs.c6, c1⟩) (first | (go_at_call 63; refine (E.out _).mono ?_; rintro e w2 ⟨rfl, hb2⟩; have t2 : Below w1.heap.size w1 w2 := Below.then_ (by go_grown) hb2 (by go_size); have z2 := t2.size; have q2 := q1.trans (t2.mono q1.size); have rr := rr.below t2 l1; have rs := rs.below t2 l2; have c1 := (t2.cell (p := ⟨bk, off, none⟩) (by show bk < _; omega)).trans c1))
      all_goals go_wp2
      all_goals go_ret
      all_goals exact ⟨ret1 (by rw [HM.out]; clear HM; simp only [IntKind.wrap_i64] at *; omega), q2⟩
    exact main _ rfl
  · have hl : sideOf [x, y] 1 = y := rfl
    rw [hl]
    clear hl hc0
    have main : ∀ m : Int, m = max (y - max (el - d) 0) 0 → Calls Try.prog 52 #[.agg #[.int .i64 r, .int .i64 d, .int .i64 b], .agg #[.slice (some ⟨bk, off, none⟩) 2 cp, .int .i64 1, .int .i64 since, .int .i64 used, .bool run, .int .i64 fallen], .int .i64 time] w fun e w' => e = .returned (.int .i64 m) ∧ Below w.heap.size w w' := by
      intro m hm
      have HM := Lib.hid hm; clear hm
      go_enter Try.func52, Try.ntmps52
      go_wp2_with fail
      refine wp_gen (fun W' => Below w.heap.size w W' ∧ RowB W' (w.heap.size) 25 [.int .i64 r, .int .i64 d, .int .i64 b] ∧ RowB W' (w.heap.size + 1) 30 [.slice (some ⟨bk, off, none⟩) 2 cp, .int .i64 1, .int .i64 since, .int .i64 used, .bool run, .int .i64 fallen]) ⟨by go_grown, (RowB.new _ _ _).alloc _, by have := RowB.new (w.alloc (.cells #[.int .i64 r, .int .i64 d, .int .i64 b] 25)) 30 [.slice (some ⟨bk, off, none⟩) 2 cp, .int .i64 1, .int .i64 since, .int .i64 used, .bool run, .int .i64 fallen]; rw [World.size_alloc] at this; exact this⟩ ?_
      rintro w1 ⟨q1, rr, rs⟩
      have c1 := (q1.cell (p := ⟨bk, off + 1, none⟩) hbk).trans hc1
      have l1 := rr.lt
      have l2 := rs.lt
      go_region_held3 (fun w' => (w'.cell? ⟨w.heap.size, 0, none⟩ = some (.int .i64 r) ∧ w'.cell? ⟨w.heap.size, 1, none⟩ = some (.int .i64 d) ∧ w'.cell? ⟨w.heap.size, 2, none⟩ = some (.int .i64 b)) ∧ (w'.cell? ⟨w.heap.size + 1, 0, none⟩ = some (.slice (some ⟨bk, off, none⟩) 2 cp) ∧ w'.cell? ⟨w.heap.size + 1, 1, none⟩ = some (.int .i64 1) ∧ w'.cell? ⟨w.heap.size + 1, 2, none⟩ = some (.int .i64 since) ∧ w'.cell? ⟨w.heap.size + 1, 3, none⟩ = some (.int .i64 used) ∧ w'.cell? ⟨w.heap.size + 1, 4, none⟩ = some (.bool run) ∧ w'.cell? ⟨w.heap.size + 1, 5, none⟩ = some (.int .i64 fallen)) ∧ (w'.cell? ⟨bk, off + 1, none⟩ = some (.int .i64 y))) (exact ⟨rr.c3, rs.c6, c1⟩) (first | (go_at_call 63; refine (E.out _).mono ?_; rintro e w2 ⟨rfl, hb2⟩; have t2 : Below w1.heap.size w1 w2 := Below.then_ (by go_grown) hb2 (by go_size); have z2 := t2.size; have q2 := q1.trans (t2.mono q1.size); have rr := rr.below t2 l1; have rs := rs.below t2 l2; have c1 := (t2.cell (p := ⟨bk, off + 1, none⟩) (by show bk < _; omega)).trans c1))
      all_goals go_wp2
      all_goals go_ret
      all_goals exact ⟨ret1 (by rw [HM.out]; clear HM; simp only [IntKind.wrap_i64] at *; omega), q2⟩
    exact main _ rfl

set_option maxHeartbeats 4000000 in
theorem rest_impl (r d b : Int) (A : Option Addr) (cp B : Nat) (x y turn since used : Int) (run : Bool) (fallen time : Int) (w : World) (hB : B ≤ w.heap.size) (hr : RdS w B 1 enI A [x, y]) (ht : turn = 0 ∨ turn = 1) (x1 : 0 ≤ x) (x2 : x ≤ 100000000) (y1 : 0 ≤ y) (y2 : y ≤ 100000000) (d1 : 0 ≤ d) (d2 : d ≤ 100000000) (s1 : 0 ≤ since) (s2 : since ≤ 100000000) (u1 : 0 ≤ used) (u2 : used ≤ 100000000) (t1 : since ≤ time) (t2 : time ≤ 100000000) :
    Calls Try.prog 53 #[.agg #[.slice A 2 cp, .int .i64 turn, .int .i64 since, .int .i64 used, .bool run, .int .i64 fallen], .agg #[.int .i64 r, .int .i64 d, .int .i64 b], .int .i64 time] w fun e w' => e = .returned (.int .i64 (rest (sideOf [x, y] turn) d since used run time)) ∧ Below w.heap.size w w' := by
  obtain ⟨bk, off, x', rfl, hb, hx0, hc0⟩ := rdI_at hr (i := 0) (by simp)
  obtain ⟨bk', off', y', e1, hb', hx1, hc1⟩ := rdI_at hr (i := 1) (by simp)
  simp only [Option.some.injEq, Addr.mk.injEq, and_true] at e1
  obtain ⟨rfl, rfl⟩ := e1
  simp only [List.getElem?_cons_zero, List.getElem?_cons_succ, Option.some.injEq] at hx0 hx1
  subst hx0 hx1
  simp only [Nat.add_zero] at hc0
  have hbk : bk < w.heap.size := by omega
  have hel := elap_bd (run := run) s1 s2 u1 u2 t1 t2
  have E := fun w0 => el_impl (some ⟨bk, off, none⟩) 2 cp turn since used run fallen time w0 s1 s2 u1 u2 t1 t2
  unfold rest
  generalize elap since used run time = el at hel E
  have E := Lib.hid E
  obtain ⟨el1, el2⟩ := hel
  clear hr hb hb'
  rcases ht with rfl | rfl
  · have hl : sideOf [x, y] 0 = x := rfl
    rw [hl]
    clear hl hc1
    have main : ∀ m : Int, m = max (x - max (el - d) 0) 0 → Calls Try.prog 53 #[.agg #[.slice (some ⟨bk, off, none⟩) 2 cp, .int .i64 0, .int .i64 since, .int .i64 used, .bool run, .int .i64 fallen], .agg #[.int .i64 r, .int .i64 d, .int .i64 b], .int .i64 time] w fun e w' => e = .returned (.int .i64 m) ∧ Below w.heap.size w w' := by
      intro m hm
      have HM := Lib.hid hm; clear hm
      go_enter Try.func53, Try.ntmps53
      go_wp2_with fail
      refine wp_gen (fun W' => Below w.heap.size w W' ∧ RowB W' (w.heap.size + 1) 25 [.int .i64 r, .int .i64 d, .int .i64 b] ∧ RowB W' (w.heap.size) 30 [.slice (some ⟨bk, off, none⟩) 2 cp, .int .i64 0, .int .i64 since, .int .i64 used, .bool run, .int .i64 fallen]) ⟨by go_grown, by have := RowB.new (w.alloc (.cells #[.slice (some ⟨bk, off, none⟩) 2 cp, .int .i64 0, .int .i64 since, .int .i64 used, .bool run, .int .i64 fallen] 30)) 25 [.int .i64 r, .int .i64 d, .int .i64 b]; rw [World.size_alloc] at this; exact this, (RowB.new _ _ _).alloc _⟩ ?_
      rintro w1 ⟨q1, rr, rs⟩
      have c1 := (q1.cell (p := ⟨bk, off, none⟩) hbk).trans hc0
      have l1 := rr.lt
      have l2 := rs.lt
      go_region_held3 (fun w' => (w'.cell? ⟨w.heap.size + 1, 0, none⟩ = some (.int .i64 r) ∧ w'.cell? ⟨w.heap.size + 1, 1, none⟩ = some (.int .i64 d) ∧ w'.cell? ⟨w.heap.size + 1, 2, none⟩ = some (.int .i64 b)) ∧ (w'.cell? ⟨w.heap.size, 0, none⟩ = some (.slice (some ⟨bk, off, none⟩) 2 cp) ∧ w'.cell? ⟨w.heap.size, 1, none⟩ = some (.int .i64 0) ∧ w'.cell? ⟨w.heap.size, 2, none⟩ = some (.int .i64 since) ∧ w'.cell? ⟨w.heap.size, 3, none⟩ = some (.int .i64 used) ∧ w'.cell? ⟨w.heap.size, 4, none⟩ = some (.bool run) ∧ w'.cell? ⟨w.heap.size, 5, none⟩ = some (.int .i64 fallen)) ∧ (w'.cell? ⟨bk, off, none⟩ = some (.int .i64 x))) (exact ⟨rr.c3, rs.c6, c1⟩) (first | (go_at_call 58; refine (E.out _).mono ?_; rintro e w2 ⟨rfl, hb2⟩; have t2 : Below w1.heap.size w1 w2 := Below.then_ (by go_grown) hb2 (by go_size); have z2 := t2.size; have q2 := q1.trans (t2.mono q1.size); have rr := rr.below t2 l1; have rs := rs.below t2 l2; have c1 := (t2.cell (p := ⟨bk, off, none⟩) (by show bk < _; omega)).trans c1))
      all_goals go_wp2
      all_goals go_ret
      all_goals exact ⟨ret1 (by rw [HM.out]; clear HM; simp only [IntKind.wrap_i64] at *; omega), q2⟩
    exact main _ rfl
  · have hl : sideOf [x, y] 1 = y := rfl
    rw [hl]
    clear hl hc0
    have main : ∀ m : Int, m = max (y - max (el - d) 0) 0 → Calls Try.prog 53 #[.agg #[.slice (some ⟨bk, off, none⟩) 2 cp, .int .i64 1, .int .i64 since, .int .i64 used, .bool run, .int .i64 fallen], .agg #[.int .i64 r, .int .i64 d, .int .i64 b], .int .i64 time] w fun e w' => e = .returned (.int .i64 m) ∧ Below w.heap.size w w' := by
      intro m hm
      have HM := Lib.hid hm; clear hm
      go_enter Try.func53, Try.ntmps53
      go_wp2_with fail
      refine wp_gen (fun W' => Below w.heap.size w W' ∧ RowB W' (w.heap.size + 1) 25 [.int .i64 r, .int .i64 d, .int .i64 b] ∧ RowB W' (w.heap.size) 30 [.slice (some ⟨bk, off, none⟩) 2 cp, .int .i64 1, .int .i64 since, .int .i64 used, .bool run, .int .i64 fallen]) ⟨by go_grown, by have := RowB.new (w.alloc (.cells #[.slice (some ⟨bk, off, none⟩) 2 cp, .int .i64 1, .int .i64 since, .int .i64 used, .bool run, .int .i64 fallen] 30)) 25 [.int .i64 r, .int .i64 d, .int .i64 b]; rw [World.size_alloc] at this; exact this, (RowB.new _ _ _).alloc _⟩ ?_
      rintro w1 ⟨q1, rr, rs⟩
      have c1 := (q1.cell (p := ⟨bk, off + 1, none⟩) hbk).trans hc1
      have l1 := rr.lt
      have l2 := rs.lt
      go_region_held3 (fun w' => (w'.cell? ⟨w.heap.size + 1, 0, none⟩ = some (.int .i64 r) ∧ w'.cell? ⟨w.heap.size + 1, 1, none⟩ = some (.int .i64 d) ∧ w'.cell? ⟨w.heap.size + 1, 2, none⟩ = some (.int .i64 b)) ∧ (w'.cell? ⟨w.heap.size, 0, none⟩ = some (.slice (some ⟨bk, off, none⟩) 2 cp) ∧ w'.cell? ⟨w.heap.size, 1, none⟩ = some (.int .i64 1) ∧ w'.cell? ⟨w.heap.size, 2, none⟩ = some (.int .i64 since) ∧ w'.cell? ⟨w.heap.size, 3, none⟩ = some (.int .i64 used) ∧ w'.cell? ⟨w.heap.size, 4, none⟩ = some (.bool run) ∧ w'.cell? ⟨w.heap.size, 5, none⟩ = some (.int .i64 fallen)) ∧ (w'.cell? ⟨bk, off + 1, none⟩ = some (.int .i64 y))) (exact ⟨rr.c3, rs.c6, c1⟩) (first | (go_at_call 58; refine (E.out _).mono ?_; rintro e w2 ⟨rfl, hb2⟩; have t2 : Below w1.heap.size w1 w2 := Below.then_ (by go_grown) hb2 (by go_size); have z2 := t2.size; have q2 := q1.trans (t2.mono q1.size); have rr := rr.below t2 l1; have rs := rs.below t2 l2; have c1 := (t2.cell (p := ⟨bk, off + 1, none⟩) (by show bk < _; omega)).trans c1))
      all_goals go_wp2
      all_goals go_ret
      all_goals exact ⟨ret1 (by rw [HM.out]; clear HM; simp only [IntKind.wrap_i64] at *; omega), q2⟩
    exact main _ rfl

end Go.Proofs.Ytdjopnhbcchedaa.ClockR
