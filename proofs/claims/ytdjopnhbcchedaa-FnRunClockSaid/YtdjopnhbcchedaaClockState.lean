/-
  The contracts of the laws' helper functions over ClockState. Conditions: each theorem's own.
-/
import Derived.Test.YtdjopnhbcchedaaInts
import Derived.Deep.DeepCutAuto
set_option linter.unusedVariables false
namespace Go.Proofs.Ytdjopnhbcchedaa.CS
open Go.ChangeShapes Go.WideShapes Go.ChangeAt Go.RowKit Base Ints

theorem sz (turn : Int) (since : Int) (used : Int) (run : Bool) (fallen : Int) (A : Option Addr) (n cp : Nat) (left : Int) (w : World) (hn : n ≤ maxLen) (h0 : 0 ≤ left) (h1 : left ≤ 1048576) :
    Calls Try.prog 21 #[.agg #[.slice A n cp, .int .i64 turn, .int .i64 since, .int .i64 used, .bool run, .int .i64 fallen], .int .i64 left] w fun e w' => e = .returned (.int .i64 (if left < n then -1 else left - n)) ∧ Below w.heap.size w w' := by
  by_cases h : left < n
  all_goals
    go_enter Try.func21, Try.ntmps21
    go_wp2_with (go_at_call 50; refine (szI _ _ _ _ _ hn h0 h1).mono ?_; rintro e w' ⟨rfl, rfl⟩)
    go_ret
    exact ⟨rfl, by go_grown⟩

set_option maxHeartbeats 1000000 in
theorem copy (turn : Int) (since : Int) (used : Int) (run : Bool) (fallen : Int) (A : Option Addr) (cp B : Nat) (gs : List Int) (w : World) (hB : B ≤ w.heap.size) (hn : gs.length ≤ 1048576) (hr : RdS w B 1 enI A gs) :
    Calls Try.prog 23 #[.agg #[.slice A gs.length cp, .int .i64 turn, .int .i64 since, .int .i64 used, .bool run, .int .i64 fallen]] w fun e w' =>
      ∃ A', e = .returned (.agg #[.slice A' gs.length gs.length, .int .i64 turn, .int .i64 since, .int .i64 used, .bool run, .int .i64 fallen]) ∧ Below w.heap.size w w' ∧ OwnS w' w.heap.size w'.heap.size 2 1 enI (.slice A' gs.length gs.length) gs := by
  go_enter Try.func23, Try.ntmps23
  go_wp2_with fail
  refine (toI B A cp gs _ (by simp; omega) hn (hr.below (by go_grown) hB)).mono ?_
  rintro e w1 ⟨rfl, hb1, ho⟩
  have ra := (((RowB.new _ _ _).alloc _).alloc _).below hb1 (by simp; try omega)
  have rr := ((RowB.new _ _ _).alloc _).below hb1 (by simp; try omega)
  have ro := (RowB.new _ _ _).below hb1 (by simp; try omega)
  have hbw : Below w.heap.size w w1 := Below.then_ (by go_grown) hb1 (by simp; omega)
  simp only [World.size_alloc] at rr ro ho
  obtain ⟨p0, p1, p2, p3, p4, p5⟩ := ra.c6
  obtain ⟨r0, r1, r2, r3, r4, r5⟩ := ro.c6
  have hf2 := ro.frozen
  clear ra hb1
  go_upto_region 8 with (fail)
  refine wp_gen (fun W5 => RowB W5 (w.heap.size + 1 + 1) 30 [.slice (some ⟨w.heap.size + 1 + 1 + 1, 0, none⟩) gs.length gs.length, .int .i64 turn, .int .i64 since, .int .i64 used, .bool run, .int .i64 fallen] ∧ RowB W5 (w.heap.size + 1) 30 [.slice none 0 0, .int .i64 0, .int .i64 0, .int .i64 0, .bool false, .int .i64 0] ∧ Below w.heap.size w W5 ∧ OwnS W5 (w.heap.size + 1 + 1 + 1) W5.heap.size 2 1 enI (.slice (some ⟨w.heap.size + 1 + 1 + 1, 0, none⟩) gs.length gs.length) gs) ⟨?_, ?_, ?_, ?_⟩ ?_
  · exact ((((((ro.set 0 _).set 1 _).set 2 _).set 3 _).set 4 _).set 5 _)
  · exact ((((((rr.other (by simp) _).other (by simp) _).other (by simp) _).other (by simp) _).other (by simp) _).other (by simp) _)
  · go_grown
  · simp only [World.size_setCell]
    repeat (refine OwnS.setCell ?_ (by simp) _)
    exact ho
  clear p0 p1 r1 p2 r2 p3 r3 p4 r4 p5 r5 r0 hf2 hbw ho rr ro
  rintro W5 ⟨ro, rr, hbw, ho⟩
  obtain ⟨r0, r1, r2, r3, r4, r5⟩ := ro.c6
  obtain ⟨q0, q1, q2, q3, q4, q5⟩ := rr.c6
  have hf1 := rr.frozen
  go_wp2
  refine bodyPost_ret (v := .agg #[.slice (some ⟨w.heap.size + 1 + 1 + 1, 0, none⟩) gs.length gs.length, .int .i64 turn, .int .i64 since, .int .i64 used, .bool run, .int .i64 fallen]) (by simp [results, Try.results23, go_sem, q0, q1, q2, q3, q4, q5]) rfl ?_
  refine ⟨_, rfl, by go_grown, ?_⟩
  simp only [World.size_setCell]
  refine OwnS.less (lo := w.heap.size + 1 + 1 + 1) ?_ (by omega)
  repeat (refine OwnS.setCell ?_ (by simp; try omega) _)
  exact ho

/-- Two that read alike are equal. -/
theorem eq (turn : Int) (since : Int) (used : Int) (run : Bool) (fallen : Int) (A1 A2 : Option Addr) (c1 c2 B1 B2 : Nat) (gs : List Int) (w : World) (h1 : RdS w B1 1 enI A1 gs) (h2 : RdS w B2 1 enI A2 gs) (hB1 : B1 ≤ w.heap.size) (hB2 : B2 ≤ w.heap.size) :
    Calls Try.prog 18 #[.agg #[.slice A1 gs.length c1, .int .i64 turn, .int .i64 since, .int .i64 used, .bool run, .int .i64 fallen], .agg #[.slice A2 gs.length c2, .int .i64 turn, .int .i64 since, .int .i64 used, .bool run, .int .i64 fallen]] w fun e w' =>
      e = .returned (.bool true) ∧ Below w.heap.size w w' := by
  have e_turn : (turn != turn) = false := by simp
  have e_since : (since != since) = false := by simp
  have e_used : (used != used) = false := by simp
  have e_run : (run != run) = false := by simp
  have e_fallen : (fallen != fallen) = false := by simp
  go_enter Try.func18, Try.ntmps18
  go_wp2_with fail
  refine (eqI B1 B2 A1 A2 c1 c2 gs _ (h1.below (by go_grown) hB1) (h2.below (by go_grown) hB2)).mono ?_
  rintro e w1 ⟨rfl, hm⟩
  have hb1 : Below w.heap.size w w1 := by
    obtain ⟨m, rfl⟩ := hm
    exact below_drewN (by go_grown) _
  have hr1 : RowB w1 w.heap.size 30 [.slice A1 gs.length c1, .int .i64 turn, .int .i64 since, .int .i64 used, .bool run, .int .i64 fallen] := by
    obtain ⟨m, rfl⟩ := hm
    exact ((RowB.new _ _ _).alloc _).drewN _
  have hr2 : RowB w1 (w.heap.size + 1) 30 [.slice A2 gs.length c2, .int .i64 turn, .int .i64 since, .int .i64 used, .bool run, .int .i64 fallen] := by
    obtain ⟨m, rfl⟩ := hm
    have := RowB.new (w.alloc (.cells #[.slice A1 gs.length c1, .int .i64 turn, .int .i64 since, .int .i64 used, .bool run, .int .i64 fallen] 30)) 30 [.slice A2 gs.length c2, .int .i64 turn, .int .i64 since, .int .i64 used, .bool run, .int .i64 fallen]
    rw [World.size_alloc] at this
    exact this.drewN _
  obtain ⟨p0, p1, p2, p3, p4, p5⟩ := hr1.c6
  obtain ⟨s0, s1, s2, s3, s4, s5⟩ := hr2.c6
  clear hm hr1 hr2
  go_wp2
  go_ret
  exact ⟨rfl, hb1⟩

theorem mark (turn : Int) (since : Int) (used : Int) (run : Bool) (fallen : Int) (lo hi cp n : Nat) (A : Option Addr) (k : Nat) (gs : List Int) (w : World) (hn : gs.length ≤ 1048576) (hk : k ≤ 16777216) (hnn : n = gs.length) (h : OwnS w lo hi 2 1 enI (.slice A n cp) gs) (hh : hi ≤ w.heap.size) :
    Calls Try.prog 19 #[.agg #[.slice A n cp, .int .i64 turn, .int .i64 since, .int .i64 used, .bool run, .int .i64 fallen], .int .i64 k] w fun e w' =>
      e = .returned (.int .i64 ((k + gs.length : Nat) : Int)) ∧ w.grownBy w' (Value.slice A n cp).ownBlock ∧ OwnS w' lo hi 2 1 enI (.slice A n cp) (marks k gs.length) := by
  subst hnn
  go_enter Try.func19, Try.ntmps19
  go_wp2_with fail
  refine (markI lo hi _ k gs _ hn hk (by exact h.alloc _)).mono ?_
  rintro e w1 ⟨rfl, hg, ho⟩
  have hg' : w.grownBy w1 (Value.slice A gs.length cp).ownBlock := grownBy_trans (World.grownBy_alloc _ _ _) hg
  go_wp2
  go_ret
  exact ⟨by simp, hg', ho⟩

theorem held (turn : Int) (since : Int) (used : Int) (run : Bool) (fallen : Int) (B n : Nat) (A : Option Addr) (cp k : Nat) (w : World) (hB : B ≤ w.heap.size) (hn : n ≤ 1048576) (hk : k ≤ 16777216) (h : RdS w B 1 enI A (marks k n)) :
    Calls Try.prog 20 #[.agg #[.slice A n cp, .int .i64 turn, .int .i64 since, .int .i64 used, .bool run, .int .i64 fallen], .int .i64 k] w fun e w' => e = .returned (.int .i64 ((k + n : Nat) : Int)) ∧ Below w.heap.size w w' := by
  go_enter Try.func20, Try.ntmps20
  go_wp2_with fail
  refine (heldI B A cp k n _ hn hk (by exact h.below (by go_grown) hB)).mono ?_
  rintro e w' ⟨rfl, rfl⟩
  go_wp2
  go_ret
  exact ⟨by simp, by go_grown⟩

end Go.Proofs.Ytdjopnhbcchedaa.CS
