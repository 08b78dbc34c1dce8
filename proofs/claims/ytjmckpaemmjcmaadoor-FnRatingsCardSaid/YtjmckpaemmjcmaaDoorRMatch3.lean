/-
  RateMatch, of the program and of the reference. Conditions: each theorem's own.
-/
import Derived.Test.YtjmckpaemmjcmaaDoorRMatch2
set_option linter.unusedVariables false
namespace Go.Proofs.YtjmckpaemmjcmaaDoor.RMatch3
open Go.ChangeShapes Go.WideShapes Go.ChangeAt Go.RowKit Base Rating Chance RMatch RMatch2

theorem okR_bd {v e : Int} (h : okR v e = true) : (0 ≤ v ∧ v ≤ 1000000) ∧ 0 ≤ e ∧ e ≤ 100000 := by
  have := of_decide_eq_true h
  omega
def rE (v1 x1 v2 x2 L : Int) : Int := if okR v1 x1 && okR v2 x2 then (if 1 ≤ L ∧ L ≤ 25 then 0 else 2) else 1
def rA (v1 x1 v2 x2 L : Int) : Int := if rE v1 x1 v2 x2 L = 0 then up v1 (chg L (rp v1 v2 L) x1) else 0
def rB (v1 x1 v2 x2 L : Int) : Int := if rE v1 x1 v2 x2 L = 0 then more x1 L else 0
def rC (v1 x1 v2 x2 L : Int) : Int := if rE v1 x1 v2 x2 L = 0 then down v2 (chg L (rp v1 v2 L) x2) else 0
def rD (v1 x1 v2 x2 L : Int) : Int := if rE v1 x1 v2 x2 L = 0 then more x2 L else 0

set_option maxHeartbeats 8000000 in
set_option maxRecDepth 100000 in
theorem rI (v1 x1 v2 x2 L : Int) (w : World) (tb : ∀ i : Nat, i < 11 → w.cell? ⟨0, i, none⟩ = some (.int .i64 (tab.getD i 0))) (hz : 0 < w.heap.size) :
    Calls Tryd.prog 19 #[.agg #[.int .i64 v1, .int .i64 x1], .agg #[.int .i64 v2, .int .i64 x2], .int .i64 L] w fun e w' => e = .returned (.tuple #[.agg #[.int .i64 (rA v1 x1 v2 x2 L), .int .i64 (rB v1 x1 v2 x2 L)], .agg #[.int .i64 (rC v1 x1 v2 x2 L), .int .i64 (rD v1 x1 v2 x2 L)], .int .i64 (rE v1 x1 v2 x2 L)]) ∧ Below w.heap.size w w' := by
  have T := Lib.hid (fun (w' : World) (hb : Below w.heap.size w w') (i : Nat) (hi : i < 11) => (hb.cell (p := ⟨0, i, none⟩) hz).trans (tb i hi))
  clear tb
  cases o1 : okR v1 x1
  · have HE := Lib.hid (show 1 = rE v1 x1 v2 x2 L by unfold rE; rw [o1]; rfl)
    have HA := Lib.hid (show 0 = rA v1 x1 v2 x2 L by unfold rA; rw [if_neg (by rw [← HE.out]; decide)])
    have HB := Lib.hid (show 0 = rB v1 x1 v2 x2 L by unfold rB; rw [if_neg (by rw [← HE.out]; decide)])
    have HC := Lib.hid (show 0 = rC v1 x1 v2 x2 L by unfold rC; rw [if_neg (by rw [← HE.out]; decide)])
    have HD := Lib.hid (show 0 = rD v1 x1 v2 x2 L by unfold rD; rw [if_neg (by rw [← HE.out]; decide)])
    have O1 := Lib.hid o1; clear o1
    go_enter Tryd.func19, Tryd.ntmps19
    go_wp2_with fail
    refine (isR_impl v1 x1 _).mono ?_
    rw [O1.out]
    rintro e w1 ⟨rfl, hb1⟩
    have hbw1 : Below w.heap.size w w1 := Below.then_ (by go_grown) hb1 (by go_size)
    have ra : RowB w1 w.heap.size 33 [.int .i64 v1, .int .i64 x1] := ((((RowB.new w _ _).alloc _).alloc _).alloc _).below hb1 (by go_size)
    have rl : RowB w1 (w.heap.size + 1) 33 [.int .i64 v2, .int .i64 x2] := (((RowB.new' (w.alloc _) _ _ (by simp)).alloc _).alloc _).below hb1 (by go_size)
    have r6 : RowB w1 (w.heap.size + 1 + 1) 33 [.int .i64 0, .int .i64 0] := ((RowB.new' ((w.alloc _).alloc _) _ _ (by simp)).alloc _).below hb1 (by go_size)
    have r7 : RowB w1 (w.heap.size + 1 + 1 + 1) 33 [.int .i64 0, .int .i64 0] := (RowB.new' (((w.alloc _).alloc _).alloc _) _ _ (by simp)).below hb1 (by go_size)
    have hz7 := r7.lt
    clear hb1
    obtain ⟨k0, k1⟩ := ra.c2
    obtain ⟨k2, k3⟩ := rl.c2
    obtain ⟨s0, s1⟩ := r6.c2
    obtain ⟨s2, s3⟩ := r7.c2
    have f6 := r6.frozen
    have f7 := r7.frozen
    go_wp2_with fail
    refine bp_gen (fun W' => Below w.heap.size w W' ∧ RowB W' (w.heap.size + 1 + 1) 33 [.int .i64 0, .int .i64 0] ∧ RowB W' (w.heap.size + 1 + 1 + 1) 33 [.int .i64 0, .int .i64 0]) ⟨(((hbw1.setCell (by simp <;> omega) _).setCell (by simp <;> omega) _).setCell (by simp <;> omega) _).setCell (by simp <;> omega) _, RowB.other (RowB.other (RowB.set (RowB.set r6 0 _) 1 _) (by simp <;> omega) _) (by simp <;> omega) _, RowB.set (RowB.set (RowB.other (RowB.other r7 (by simp <;> omega) _) (by simp <;> omega) _) 0 _) 1 _⟩ ?_
    rintro W6 ⟨hb6, q6, q7⟩
    obtain ⟨t0, t1⟩ := q6.c2
    obtain ⟨t2, t3⟩ := q7.c2
    refine bodyPost_ret (v := .tuple #[.agg #[.int .i64 0, .int .i64 0], .agg #[.int .i64 0, .int .i64 0], .int .i64 1]) (by simp [results, Tryd.results19, go_sem, t0, t1, t2, t3]) rfl ?_
    exact ⟨by rw [← HA.out, ← HB.out, ← HC.out, ← HD.out, ← HE.out], hb6⟩
  · cases o2 : okR v2 x2
    · have HE := Lib.hid (show 1 = rE v1 x1 v2 x2 L by unfold rE; rw [o1, o2]; rfl)
      have HA := Lib.hid (show 0 = rA v1 x1 v2 x2 L by unfold rA; rw [if_neg (by rw [← HE.out]; decide)])
      have HB := Lib.hid (show 0 = rB v1 x1 v2 x2 L by unfold rB; rw [if_neg (by rw [← HE.out]; decide)])
      have HC := Lib.hid (show 0 = rC v1 x1 v2 x2 L by unfold rC; rw [if_neg (by rw [← HE.out]; decide)])
      have HD := Lib.hid (show 0 = rD v1 x1 v2 x2 L by unfold rD; rw [if_neg (by rw [← HE.out]; decide)])
      have O1 := Lib.hid o1; clear o1
      have O2 := Lib.hid o2; clear o2
      go_enter Tryd.func19, Tryd.ntmps19
      go_wp2_with fail
      refine (isR_impl v1 x1 _).mono ?_
      rw [O1.out]
      rintro e w1 ⟨rfl, hb1⟩
      have hbw1 : Below w.heap.size w w1 := Below.then_ (by go_grown) hb1 (by go_size)
      have ra : RowB w1 w.heap.size 33 [.int .i64 v1, .int .i64 x1] := ((((RowB.new w _ _).alloc _).alloc _).alloc _).below hb1 (by go_size)
      have rl : RowB w1 (w.heap.size + 1) 33 [.int .i64 v2, .int .i64 x2] := (((RowB.new' (w.alloc _) _ _ (by simp)).alloc _).alloc _).below hb1 (by go_size)
      have r6 : RowB w1 (w.heap.size + 1 + 1) 33 [.int .i64 0, .int .i64 0] := ((RowB.new' ((w.alloc _).alloc _) _ _ (by simp)).alloc _).below hb1 (by go_size)
      have r7 : RowB w1 (w.heap.size + 1 + 1 + 1) 33 [.int .i64 0, .int .i64 0] := (RowB.new' (((w.alloc _).alloc _).alloc _) _ _ (by simp)).below hb1 (by go_size)
      have hz7 := r7.lt
      clear hb1
      obtain ⟨k0, k1⟩ := ra.c2
      obtain ⟨k2, k3⟩ := rl.c2
      obtain ⟨s0, s1⟩ := r6.c2
      obtain ⟨s2, s3⟩ := r7.c2
      have f6 := r6.frozen
      have f7 := r7.frozen
      go_wp2_with fail
      clear k0 k1 k2 k3 s0 s1 s2 s3 f6 f7
      refine (isR_impl v2 x2 _).mono ?_
      rw [O2.out]
      rintro e w2 ⟨rfl, hb2⟩
      have hbw2 := hbw1.trans (hb2.mono hbw1.size)
      have ra := ra.below hb2 ra.lt
      have rl := rl.below hb2 rl.lt
      have r6 := r6.below hb2 r6.lt
      have r7 := r7.below hb2 r7.lt
      have hz7 := r7.lt
      clear hb2 hbw1
      obtain ⟨k0, k1⟩ := ra.c2
      obtain ⟨k2, k3⟩ := rl.c2
      obtain ⟨s0, s1⟩ := r6.c2
      obtain ⟨s2, s3⟩ := r7.c2
      have f6 := r6.frozen
      have f7 := r7.frozen
      go_wp2_with fail
      refine bp_gen (fun W' => Below w.heap.size w W' ∧ RowB W' (w.heap.size + 1 + 1) 33 [.int .i64 0, .int .i64 0] ∧ RowB W' (w.heap.size + 1 + 1 + 1) 33 [.int .i64 0, .int .i64 0]) ⟨(((hbw2.setCell (by simp <;> omega) _).setCell (by simp <;> omega) _).setCell (by simp <;> omega) _).setCell (by simp <;> omega) _, RowB.other (RowB.other (RowB.set (RowB.set r6 0 _) 1 _) (by simp <;> omega) _) (by simp <;> omega) _, RowB.set (RowB.set (RowB.other (RowB.other r7 (by simp <;> omega) _) (by simp <;> omega) _) 0 _) 1 _⟩ ?_
      rintro W6 ⟨hb6, q6, q7⟩
      obtain ⟨t0, t1⟩ := q6.c2
      obtain ⟨t2, t3⟩ := q7.c2
      refine bodyPost_ret (v := .tuple #[.agg #[.int .i64 0, .int .i64 0], .agg #[.int .i64 0, .int .i64 0], .int .i64 1]) (by simp [results, Tryd.results19, go_sem, t0, t1, t2, t3]) rfl ?_
      exact ⟨by rw [← HA.out, ← HB.out, ← HC.out, ← HD.out, ← HE.out], hb6⟩
    · by_cases g1 : 1 ≤ L
      · by_cases g2 : L ≤ 25
        · have HE := Lib.hid (show 0 = rE v1 x1 v2 x2 L by unfold rE; rw [o1, o2]; simp [g1, g2])
          have HA := Lib.hid (show up v1 (chg L (rp v1 v2 L) x1) = rA v1 x1 v2 x2 L by unfold rA; rw [if_pos HE.out.symm])
          have HB := Lib.hid (show more x1 L = rB v1 x1 v2 x2 L by unfold rB; rw [if_pos HE.out.symm])
          have HC := Lib.hid (show down v2 (chg L (rp v1 v2 L) x2) = rC v1 x1 v2 x2 L by unfold rC; rw [if_pos HE.out.symm])
          have HD := Lib.hid (show more x2 L = rD v1 x1 v2 x2 L by unfold rD; rw [if_pos HE.out.symm])
          obtain ⟨⟨a0, a1⟩, b0, b1⟩ := okR_bd o1
          obtain ⟨⟨c0, c1⟩, d0, d1⟩ := okR_bd o2
          have O1 := Lib.hid o1; clear o1
          have O2 := Lib.hid o2; clear o2
          go_enter Tryd.func19, Tryd.ntmps19
          go_wp2_with fail
          refine (isR_impl v1 x1 _).mono ?_
          rw [O1.out]
          rintro e w1 ⟨rfl, hb1⟩
          have hbw1 : Below w.heap.size w w1 := Below.then_ (by go_grown) hb1 (by go_size)
          have ra : RowB w1 w.heap.size 33 [.int .i64 v1, .int .i64 x1] := ((((RowB.new w _ _).alloc _).alloc _).alloc _).below hb1 (by go_size)
          have rl : RowB w1 (w.heap.size + 1) 33 [.int .i64 v2, .int .i64 x2] := (((RowB.new' (w.alloc _) _ _ (by simp)).alloc _).alloc _).below hb1 (by go_size)
          have r6 : RowB w1 (w.heap.size + 1 + 1) 33 [.int .i64 0, .int .i64 0] := ((RowB.new' ((w.alloc _).alloc _) _ _ (by simp)).alloc _).below hb1 (by go_size)
          have r7 : RowB w1 (w.heap.size + 1 + 1 + 1) 33 [.int .i64 0, .int .i64 0] := (RowB.new' (((w.alloc _).alloc _).alloc _) _ _ (by simp)).below hb1 (by go_size)
          have hz7 := r7.lt
          clear hb1
          obtain ⟨k0, k1⟩ := ra.c2
          obtain ⟨k2, k3⟩ := rl.c2
          obtain ⟨s0, s1⟩ := r6.c2
          obtain ⟨s2, s3⟩ := r7.c2
          have f6 := r6.frozen
          have f7 := r7.frozen
          go_wp2_with fail
          clear k0 k1 k2 k3 s0 s1 s2 s3 f6 f7
          refine (isR_impl v2 x2 _).mono ?_
          rw [O2.out]
          rintro e w2 ⟨rfl, hb2⟩
          have hbw2 := hbw1.trans (hb2.mono hbw1.size)
          have ra := ra.below hb2 ra.lt
          have rl := rl.below hb2 rl.lt
          have r6 := r6.below hb2 r6.lt
          have r7 := r7.below hb2 r7.lt
          have hz7 := r7.lt
          clear hb2 hbw1
          obtain ⟨k0, k1⟩ := ra.c2
          obtain ⟨k2, k3⟩ := rl.c2
          obtain ⟨s0, s1⟩ := r6.c2
          obtain ⟨s2, s3⟩ := r7.c2
          have f6 := r6.frozen
          have f7 := r7.frozen
          go_wp2_with (first | (go_at_call 41; go_in) | (go_at_call 40; go_in) | fail)
          clear k0 k1 k2 k3 s0 s1 s2 s3 f6 f7
          refine (rmI v1 x1 v2 x2 L _ a0 a1 b0 b1 c0 c1 d0 d1 g1 g2 (T.out _ hbw2) (by omega)).mono ?_
          rintro e w3 ⟨rfl, hb3⟩
          have hbw3 := hbw2.trans (hb3.mono hbw2.size)
          have r6 := r6.below hb3 r6.lt
          have r7 := r7.below hb3 r7.lt
          have hz7 := r7.lt
          rw [HA.out, HB.out, HC.out, HD.out]
          clear hb3 hbw2 ra rl
          generalize hq1 : rA v1 x1 v2 x2 L = m1
          generalize hq2 : rB v1 x1 v2 x2 L = m2
          generalize hq3 : rC v1 x1 v2 x2 L = m3
          generalize hq4 : rD v1 x1 v2 x2 L = m4
          have HA := Lib.hid hq1.symm; clear hq1
          have HB := Lib.hid hq2.symm; clear hq2
          have HC := Lib.hid hq3.symm; clear hq3
          have HD := Lib.hid hq4.symm; clear hq4
          obtain ⟨s0, s1⟩ := r6.c2
          obtain ⟨s2, s3⟩ := r7.c2
          have f6 := r6.frozen
          have f7 := r7.frozen
          go_wp2_with fail
          refine wp_gen (fun W' => Below w.heap.size w W' ∧ RowB W' w3.heap.size 33 [.int .i64 m1, .int .i64 m2] ∧ RowB W' (w3.heap.size + 1) 33 [.int .i64 m3, .int .i64 m4] ∧ RowB W' (w.heap.size + 1 + 1) 33 [.int .i64 0, .int .i64 0] ∧ RowB W' (w.heap.size + 1 + 1 + 1) 33 [.int .i64 0, .int .i64 0]) ⟨(hbw3.alloc (by omega) _).alloc (by go_size) _, (RowB.new _ _ _).alloc _, RowB.new' _ _ _ (by simp), (r6.alloc _).alloc _, (r7.alloc _).alloc _⟩ ?_
          clear s0 s1 s2 s3 f6 f7 r6 r7 hbw3
          rintro W5 ⟨hb5, ra, rl, r6, r7⟩
          obtain ⟨k0, k1⟩ := ra.c2
          obtain ⟨k2, k3⟩ := rl.c2
          obtain ⟨s0, s1⟩ := r6.c2
          obtain ⟨s2, s3⟩ := r7.c2
          have f6 := r6.frozen
          have f7 := r7.frozen
          go_region
          all_goals
            go_wp2_with fail
            refine bp_gen (fun W' => Below w.heap.size w W' ∧ RowB W' (w.heap.size + 1 + 1) 33 [.int .i64 m1, .int .i64 m2] ∧ RowB W' (w.heap.size + 1 + 1 + 1) 33 [.int .i64 m3, .int .i64 m4]) ⟨((((hb5.setCell (by simp <;> omega) _).setCell (by simp <;> omega) _).setCell (by simp <;> omega) _).setCell (by simp <;> omega) _).drew, RowB.drew (RowB.other (RowB.other (RowB.set (RowB.set r6 0 _) 1 _) (by simp <;> omega) _) (by simp <;> omega) _), RowB.drew (RowB.set (RowB.set (RowB.other (RowB.other r7 (by simp <;> omega) _) (by simp <;> omega) _) 0 _) 1 _)⟩ ?_
            rintro W6 ⟨hb6, q6, q7⟩
            obtain ⟨t0, t1⟩ := q6.c2
            obtain ⟨t2, t3⟩ := q7.c2
            refine bodyPost_ret (v := .tuple #[.agg #[.int .i64 m1, .int .i64 m2], .agg #[.int .i64 m3, .int .i64 m4], .int .i64 0]) (by simp [results, Tryd.results19, go_sem, t0, t1, t2, t3]) rfl ?_
            exact ⟨by rw [← HA.out, ← HB.out, ← HC.out, ← HD.out, ← HE.out], hb6⟩
        · have HE := Lib.hid (show 2 = rE v1 x1 v2 x2 L by unfold rE; rw [o1, o2]; simp [g1, g2])
          have HA := Lib.hid (show 0 = rA v1 x1 v2 x2 L by unfold rA; rw [if_neg (by rw [← HE.out]; decide)])
          have HB := Lib.hid (show 0 = rB v1 x1 v2 x2 L by unfold rB; rw [if_neg (by rw [← HE.out]; decide)])
          have HC := Lib.hid (show 0 = rC v1 x1 v2 x2 L by unfold rC; rw [if_neg (by rw [← HE.out]; decide)])
          have HD := Lib.hid (show 0 = rD v1 x1 v2 x2 L by unfold rD; rw [if_neg (by rw [← HE.out]; decide)])
          have O1 := Lib.hid o1; clear o1
          have O2 := Lib.hid o2; clear o2
          have hd : decide (L ≤ 25) = false := decide_eq_false g2
          replace g2 := Int.not_le.1 g2
          go_enter Tryd.func19, Tryd.ntmps19
          go_wp2_with fail
          refine (isR_impl v1 x1 _).mono ?_
          rw [O1.out]
          rintro e w1 ⟨rfl, hb1⟩
          have hbw1 : Below w.heap.size w w1 := Below.then_ (by go_grown) hb1 (by go_size)
          have ra : RowB w1 w.heap.size 33 [.int .i64 v1, .int .i64 x1] := ((((RowB.new w _ _).alloc _).alloc _).alloc _).below hb1 (by go_size)
          have rl : RowB w1 (w.heap.size + 1) 33 [.int .i64 v2, .int .i64 x2] := (((RowB.new' (w.alloc _) _ _ (by simp)).alloc _).alloc _).below hb1 (by go_size)
          have r6 : RowB w1 (w.heap.size + 1 + 1) 33 [.int .i64 0, .int .i64 0] := ((RowB.new' ((w.alloc _).alloc _) _ _ (by simp)).alloc _).below hb1 (by go_size)
          have r7 : RowB w1 (w.heap.size + 1 + 1 + 1) 33 [.int .i64 0, .int .i64 0] := (RowB.new' (((w.alloc _).alloc _).alloc _) _ _ (by simp)).below hb1 (by go_size)
          have hz7 := r7.lt
          clear hb1
          obtain ⟨k0, k1⟩ := ra.c2
          obtain ⟨k2, k3⟩ := rl.c2
          obtain ⟨s0, s1⟩ := r6.c2
          obtain ⟨s2, s3⟩ := r7.c2
          have f6 := r6.frozen
          have f7 := r7.frozen
          go_wp2_with fail
          clear k0 k1 k2 k3 s0 s1 s2 s3 f6 f7
          refine (isR_impl v2 x2 _).mono ?_
          rw [O2.out]
          rintro e w2 ⟨rfl, hb2⟩
          have hbw2 := hbw1.trans (hb2.mono hbw1.size)
          have ra := ra.below hb2 ra.lt
          have rl := rl.below hb2 rl.lt
          have r6 := r6.below hb2 r6.lt
          have r7 := r7.below hb2 r7.lt
          have hz7 := r7.lt
          clear hb2 hbw1
          obtain ⟨k0, k1⟩ := ra.c2
          obtain ⟨k2, k3⟩ := rl.c2
          obtain ⟨s0, s1⟩ := r6.c2
          obtain ⟨s2, s3⟩ := r7.c2
          have f6 := r6.frozen
          have f7 := r7.frozen
          go_wp2_with (first | (go_at_call 41; go_in) | (go_at_call 40; go_in) | fail)
          refine bp_gen (fun W' => Below w.heap.size w W' ∧ RowB W' (w.heap.size + 1 + 1) 33 [.int .i64 0, .int .i64 0] ∧ RowB W' (w.heap.size + 1 + 1 + 1) 33 [.int .i64 0, .int .i64 0]) ⟨(((hbw2.setCell (by simp <;> omega) _).setCell (by simp <;> omega) _).setCell (by simp <;> omega) _).setCell (by simp <;> omega) _, RowB.other (RowB.other (RowB.set (RowB.set r6 0 _) 1 _) (by simp <;> omega) _) (by simp <;> omega) _, RowB.set (RowB.set (RowB.other (RowB.other r7 (by simp <;> omega) _) (by simp <;> omega) _) 0 _) 1 _⟩ ?_
          rintro W6 ⟨hb6, q6, q7⟩
          obtain ⟨t0, t1⟩ := q6.c2
          obtain ⟨t2, t3⟩ := q7.c2
          refine bodyPost_ret (v := .tuple #[.agg #[.int .i64 0, .int .i64 0], .agg #[.int .i64 0, .int .i64 0], .int .i64 2]) (by simp [results, Tryd.results19, go_sem, t0, t1, t2, t3]) rfl ?_
          exact ⟨by rw [← HA.out, ← HB.out, ← HC.out, ← HD.out, ← HE.out], hb6⟩
      · have HE := Lib.hid (show 2 = rE v1 x1 v2 x2 L by unfold rE; rw [o1, o2]; simp [g1])
        have HA := Lib.hid (show 0 = rA v1 x1 v2 x2 L by unfold rA; rw [if_neg (by rw [← HE.out]; decide)])
        have HB := Lib.hid (show 0 = rB v1 x1 v2 x2 L by unfold rB; rw [if_neg (by rw [← HE.out]; decide)])
        have HC := Lib.hid (show 0 = rC v1 x1 v2 x2 L by unfold rC; rw [if_neg (by rw [← HE.out]; decide)])
        have HD := Lib.hid (show 0 = rD v1 x1 v2 x2 L by unfold rD; rw [if_neg (by rw [← HE.out]; decide)])
        have O1 := Lib.hid o1; clear o1
        have O2 := Lib.hid o2; clear o2
        have hd : decide (1 ≤ L) = false := decide_eq_false g1
        replace g1 := Int.not_le.1 g1
        go_enter Tryd.func19, Tryd.ntmps19
        go_wp2_with fail
        refine (isR_impl v1 x1 _).mono ?_
        rw [O1.out]
        rintro e w1 ⟨rfl, hb1⟩
        have hbw1 : Below w.heap.size w w1 := Below.then_ (by go_grown) hb1 (by go_size)
        have ra : RowB w1 w.heap.size 33 [.int .i64 v1, .int .i64 x1] := ((((RowB.new w _ _).alloc _).alloc _).alloc _).below hb1 (by go_size)
        have rl : RowB w1 (w.heap.size + 1) 33 [.int .i64 v2, .int .i64 x2] := (((RowB.new' (w.alloc _) _ _ (by simp)).alloc _).alloc _).below hb1 (by go_size)
        have r6 : RowB w1 (w.heap.size + 1 + 1) 33 [.int .i64 0, .int .i64 0] := ((RowB.new' ((w.alloc _).alloc _) _ _ (by simp)).alloc _).below hb1 (by go_size)
        have r7 : RowB w1 (w.heap.size + 1 + 1 + 1) 33 [.int .i64 0, .int .i64 0] := (RowB.new' (((w.alloc _).alloc _).alloc _) _ _ (by simp)).below hb1 (by go_size)
        have hz7 := r7.lt
        clear hb1
        obtain ⟨k0, k1⟩ := ra.c2
        obtain ⟨k2, k3⟩ := rl.c2
        obtain ⟨s0, s1⟩ := r6.c2
        obtain ⟨s2, s3⟩ := r7.c2
        have f6 := r6.frozen
        have f7 := r7.frozen
        go_wp2_with fail
        clear k0 k1 k2 k3 s0 s1 s2 s3 f6 f7
        refine (isR_impl v2 x2 _).mono ?_
        rw [O2.out]
        rintro e w2 ⟨rfl, hb2⟩
        have hbw2 := hbw1.trans (hb2.mono hbw1.size)
        have ra := ra.below hb2 ra.lt
        have rl := rl.below hb2 rl.lt
        have r6 := r6.below hb2 r6.lt
        have r7 := r7.below hb2 r7.lt
        have hz7 := r7.lt
        clear hb2 hbw1
        obtain ⟨k0, k1⟩ := ra.c2
        obtain ⟨k2, k3⟩ := rl.c2
        obtain ⟨s0, s1⟩ := r6.c2
        obtain ⟨s2, s3⟩ := r7.c2
        have f6 := r6.frozen
        have f7 := r7.frozen
        go_wp2_with (first | (go_at_call 41; go_in) | (go_at_call 40; go_in) | fail)
        refine bp_gen (fun W' => Below w.heap.size w W' ∧ RowB W' (w.heap.size + 1 + 1) 33 [.int .i64 0, .int .i64 0] ∧ RowB W' (w.heap.size + 1 + 1 + 1) 33 [.int .i64 0, .int .i64 0]) ⟨(((hbw2.setCell (by simp <;> omega) _).setCell (by simp <;> omega) _).setCell (by simp <;> omega) _).setCell (by simp <;> omega) _, RowB.other (RowB.other (RowB.set (RowB.set r6 0 _) 1 _) (by simp <;> omega) _) (by simp <;> omega) _, RowB.set (RowB.set (RowB.other (RowB.other r7 (by simp <;> omega) _) (by simp <;> omega) _) 0 _) 1 _⟩ ?_
        rintro W6 ⟨hb6, q6, q7⟩
        obtain ⟨t0, t1⟩ := q6.c2
        obtain ⟨t2, t3⟩ := q7.c2
        refine bodyPost_ret (v := .tuple #[.agg #[.int .i64 0, .int .i64 0], .agg #[.int .i64 0, .int .i64 0], .int .i64 2]) (by simp [results, Tryd.results19, go_sem, t0, t1, t2, t3]) rfl ?_
        exact ⟨by rw [← HA.out, ← HB.out, ← HC.out, ← HD.out, ← HE.out], hb6⟩

set_option maxHeartbeats 8000000 in
set_option maxRecDepth 100000 in
theorem rS (v1 x1 v2 x2 L : Int) (w : World) :
    Calls Tryd.prog 17 #[.agg #[.int .i64 v1, .int .i64 x1], .agg #[.int .i64 v2, .int .i64 x2], .int .i64 L] w fun e w' => e = .returned (.tuple #[.agg #[.int .i64 (rA v1 x1 v2 x2 L), .int .i64 (rB v1 x1 v2 x2 L)], .agg #[.int .i64 (rC v1 x1 v2 x2 L), .int .i64 (rD v1 x1 v2 x2 L)], .int .i64 (rE v1 x1 v2 x2 L)]) ∧ Below w.heap.size w w' := by
  cases o1 : okR v1 x1
  · have HE := Lib.hid (show 1 = rE v1 x1 v2 x2 L by unfold rE; rw [o1]; rfl)
    have HA := Lib.hid (show 0 = rA v1 x1 v2 x2 L by unfold rA; rw [if_neg (by rw [← HE.out]; decide)])
    have HB := Lib.hid (show 0 = rB v1 x1 v2 x2 L by unfold rB; rw [if_neg (by rw [← HE.out]; decide)])
    have HC := Lib.hid (show 0 = rC v1 x1 v2 x2 L by unfold rC; rw [if_neg (by rw [← HE.out]; decide)])
    have HD := Lib.hid (show 0 = rD v1 x1 v2 x2 L by unfold rD; rw [if_neg (by rw [← HE.out]; decide)])
    have O1 := Lib.hid o1; clear o1
    go_enter Tryd.func17, Tryd.ntmps17
    go_wp2_with fail
    refine (isR_spec v1 x1 _).mono ?_
    rw [O1.out]
    rintro e w1 ⟨rfl, hb1⟩
    have hbw1 : Below w.heap.size w w1 := Below.then_ (by go_grown) hb1 (by go_size)
    have ra : RowB w1 w.heap.size 33 [.int .i64 v1, .int .i64 x1] := ((((RowB.new w _ _).alloc _).alloc _).alloc _).below hb1 (by go_size)
    have rl : RowB w1 (w.heap.size + 1) 33 [.int .i64 v2, .int .i64 x2] := (((RowB.new' (w.alloc _) _ _ (by simp)).alloc _).alloc _).below hb1 (by go_size)
    have r6 : RowB w1 (w.heap.size + 1 + 1) 33 [.int .i64 0, .int .i64 0] := ((RowB.new' ((w.alloc _).alloc _) _ _ (by simp)).alloc _).below hb1 (by go_size)
    have r7 : RowB w1 (w.heap.size + 1 + 1 + 1) 33 [.int .i64 0, .int .i64 0] := (RowB.new' (((w.alloc _).alloc _).alloc _) _ _ (by simp)).below hb1 (by go_size)
    have hz7 := r7.lt
    clear hb1
    obtain ⟨k0, k1⟩ := ra.c2
    obtain ⟨k2, k3⟩ := rl.c2
    obtain ⟨s0, s1⟩ := r6.c2
    obtain ⟨s2, s3⟩ := r7.c2
    have f6 := r6.frozen
    have f7 := r7.frozen
    go_wp2_with fail
    refine bp_gen (fun W' => Below w.heap.size w W' ∧ RowB W' (w.heap.size + 1 + 1) 33 [.int .i64 0, .int .i64 0] ∧ RowB W' (w.heap.size + 1 + 1 + 1) 33 [.int .i64 0, .int .i64 0]) ⟨(((hbw1.setCell (by simp <;> omega) _).setCell (by simp <;> omega) _).setCell (by simp <;> omega) _).setCell (by simp <;> omega) _, RowB.other (RowB.other (RowB.set (RowB.set r6 0 _) 1 _) (by simp <;> omega) _) (by simp <;> omega) _, RowB.set (RowB.set (RowB.other (RowB.other r7 (by simp <;> omega) _) (by simp <;> omega) _) 0 _) 1 _⟩ ?_
    rintro W6 ⟨hb6, q6, q7⟩
    obtain ⟨t0, t1⟩ := q6.c2
    obtain ⟨t2, t3⟩ := q7.c2
    refine bodyPost_ret (v := .tuple #[.agg #[.int .i64 0, .int .i64 0], .agg #[.int .i64 0, .int .i64 0], .int .i64 1]) (by simp [results, Tryd.results17, go_sem, t0, t1, t2, t3]) rfl ?_
    exact ⟨by rw [← HA.out, ← HB.out, ← HC.out, ← HD.out, ← HE.out], hb6⟩
  · cases o2 : okR v2 x2
    · have HE := Lib.hid (show 1 = rE v1 x1 v2 x2 L by unfold rE; rw [o1, o2]; rfl)
      have HA := Lib.hid (show 0 = rA v1 x1 v2 x2 L by unfold rA; rw [if_neg (by rw [← HE.out]; decide)])
      have HB := Lib.hid (show 0 = rB v1 x1 v2 x2 L by unfold rB; rw [if_neg (by rw [← HE.out]; decide)])
      have HC := Lib.hid (show 0 = rC v1 x1 v2 x2 L by unfold rC; rw [if_neg (by rw [← HE.out]; decide)])
      have HD := Lib.hid (show 0 = rD v1 x1 v2 x2 L by unfold rD; rw [if_neg (by rw [← HE.out]; decide)])
      have O1 := Lib.hid o1; clear o1
      have O2 := Lib.hid o2; clear o2
      go_enter Tryd.func17, Tryd.ntmps17
      go_wp2_with fail
      refine (isR_spec v1 x1 _).mono ?_
      rw [O1.out]
      rintro e w1 ⟨rfl, hb1⟩
      have hbw1 : Below w.heap.size w w1 := Below.then_ (by go_grown) hb1 (by go_size)
      have ra : RowB w1 w.heap.size 33 [.int .i64 v1, .int .i64 x1] := ((((RowB.new w _ _).alloc _).alloc _).alloc _).below hb1 (by go_size)
      have rl : RowB w1 (w.heap.size + 1) 33 [.int .i64 v2, .int .i64 x2] := (((RowB.new' (w.alloc _) _ _ (by simp)).alloc _).alloc _).below hb1 (by go_size)
      have r6 : RowB w1 (w.heap.size + 1 + 1) 33 [.int .i64 0, .int .i64 0] := ((RowB.new' ((w.alloc _).alloc _) _ _ (by simp)).alloc _).below hb1 (by go_size)
      have r7 : RowB w1 (w.heap.size + 1 + 1 + 1) 33 [.int .i64 0, .int .i64 0] := (RowB.new' (((w.alloc _).alloc _).alloc _) _ _ (by simp)).below hb1 (by go_size)
      have hz7 := r7.lt
      clear hb1
      obtain ⟨k0, k1⟩ := ra.c2
      obtain ⟨k2, k3⟩ := rl.c2
      obtain ⟨s0, s1⟩ := r6.c2
      obtain ⟨s2, s3⟩ := r7.c2
      have f6 := r6.frozen
      have f7 := r7.frozen
      go_wp2_with fail
      clear k0 k1 k2 k3 s0 s1 s2 s3 f6 f7
      refine (isR_spec v2 x2 _).mono ?_
      rw [O2.out]
      rintro e w2 ⟨rfl, hb2⟩
      have hbw2 := hbw1.trans (hb2.mono hbw1.size)
      have ra := ra.below hb2 ra.lt
      have rl := rl.below hb2 rl.lt
      have r6 := r6.below hb2 r6.lt
      have r7 := r7.below hb2 r7.lt
      have hz7 := r7.lt
      clear hb2 hbw1
      obtain ⟨k0, k1⟩ := ra.c2
      obtain ⟨k2, k3⟩ := rl.c2
      obtain ⟨s0, s1⟩ := r6.c2
      obtain ⟨s2, s3⟩ := r7.c2
      have f6 := r6.frozen
      have f7 := r7.frozen
      go_wp2_with fail
      refine bp_gen (fun W' => Below w.heap.size w W' ∧ RowB W' (w.heap.size + 1 + 1) 33 [.int .i64 0, .int .i64 0] ∧ RowB W' (w.heap.size + 1 + 1 + 1) 33 [.int .i64 0, .int .i64 0]) ⟨(((hbw2.setCell (by simp <;> omega) _).setCell (by simp <;> omega) _).setCell (by simp <;> omega) _).setCell (by simp <;> omega) _, RowB.other (RowB.other (RowB.set (RowB.set r6 0 _) 1 _) (by simp <;> omega) _) (by simp <;> omega) _, RowB.set (RowB.set (RowB.other (RowB.other r7 (by simp <;> omega) _) (by simp <;> omega) _) 0 _) 1 _⟩ ?_
      rintro W6 ⟨hb6, q6, q7⟩
      obtain ⟨t0, t1⟩ := q6.c2
      obtain ⟨t2, t3⟩ := q7.c2
      refine bodyPost_ret (v := .tuple #[.agg #[.int .i64 0, .int .i64 0], .agg #[.int .i64 0, .int .i64 0], .int .i64 1]) (by simp [results, Tryd.results17, go_sem, t0, t1, t2, t3]) rfl ?_
      exact ⟨by rw [← HA.out, ← HB.out, ← HC.out, ← HD.out, ← HE.out], hb6⟩
    · by_cases g1 : 1 ≤ L
      · by_cases g2 : L ≤ 25
        · have HE := Lib.hid (show 0 = rE v1 x1 v2 x2 L by unfold rE; rw [o1, o2]; simp [g1, g2])
          have HA := Lib.hid (show up v1 (chg L (rp v1 v2 L) x1) = rA v1 x1 v2 x2 L by unfold rA; rw [if_pos HE.out.symm])
          have HB := Lib.hid (show more x1 L = rB v1 x1 v2 x2 L by unfold rB; rw [if_pos HE.out.symm])
          have HC := Lib.hid (show down v2 (chg L (rp v1 v2 L) x2) = rC v1 x1 v2 x2 L by unfold rC; rw [if_pos HE.out.symm])
          have HD := Lib.hid (show more x2 L = rD v1 x1 v2 x2 L by unfold rD; rw [if_pos HE.out.symm])
          obtain ⟨⟨a0, a1⟩, b0, b1⟩ := okR_bd o1
          obtain ⟨⟨c0, c1⟩, d0, d1⟩ := okR_bd o2
          have O1 := Lib.hid o1; clear o1
          have O2 := Lib.hid o2; clear o2
          go_enter Tryd.func17, Tryd.ntmps17
          go_wp2_with fail
          refine (isR_spec v1 x1 _).mono ?_
          rw [O1.out]
          rintro e w1 ⟨rfl, hb1⟩
          have hbw1 : Below w.heap.size w w1 := Below.then_ (by go_grown) hb1 (by go_size)
          have ra : RowB w1 w.heap.size 33 [.int .i64 v1, .int .i64 x1] := ((((RowB.new w _ _).alloc _).alloc _).alloc _).below hb1 (by go_size)
          have rl : RowB w1 (w.heap.size + 1) 33 [.int .i64 v2, .int .i64 x2] := (((RowB.new' (w.alloc _) _ _ (by simp)).alloc _).alloc _).below hb1 (by go_size)
          have r6 : RowB w1 (w.heap.size + 1 + 1) 33 [.int .i64 0, .int .i64 0] := ((RowB.new' ((w.alloc _).alloc _) _ _ (by simp)).alloc _).below hb1 (by go_size)
          have r7 : RowB w1 (w.heap.size + 1 + 1 + 1) 33 [.int .i64 0, .int .i64 0] := (RowB.new' (((w.alloc _).alloc _).alloc _) _ _ (by simp)).below hb1 (by go_size)
          have hz7 := r7.lt
          clear hb1
          obtain ⟨k0, k1⟩ := ra.c2
          obtain ⟨k2, k3⟩ := rl.c2
          obtain ⟨s0, s1⟩ := r6.c2
          obtain ⟨s2, s3⟩ := r7.c2
          have f6 := r6.frozen
          have f7 := r7.frozen
          go_wp2_with fail
          clear k0 k1 k2 k3 s0 s1 s2 s3 f6 f7
          refine (isR_spec v2 x2 _).mono ?_
          rw [O2.out]
          rintro e w2 ⟨rfl, hb2⟩
          have hbw2 := hbw1.trans (hb2.mono hbw1.size)
          have ra := ra.below hb2 ra.lt
          have rl := rl.below hb2 rl.lt
          have r6 := r6.below hb2 r6.lt
          have r7 := r7.below hb2 r7.lt
          have hz7 := r7.lt
          clear hb2 hbw1
          obtain ⟨k0, k1⟩ := ra.c2
          obtain ⟨k2, k3⟩ := rl.c2
          obtain ⟨s0, s1⟩ := r6.c2
          obtain ⟨s2, s3⟩ := r7.c2
          have f6 := r6.frozen
          have f7 := r7.frozen
          go_wp2_with (first | (go_at_call 38; go_in) | (go_at_call 37; go_in) | fail)
          clear k0 k1 k2 k3 s0 s1 s2 s3 f6 f7
          refine (mS v1 x1 v2 x2 L _ a0 a1 b0 b1 c0 c1 d0 d1 g1 g2).mono ?_
          rintro e w3 ⟨rfl, hb3⟩
          have hbw3 := hbw2.trans (hb3.mono hbw2.size)
          have r6 := r6.below hb3 r6.lt
          have r7 := r7.below hb3 r7.lt
          have hz7 := r7.lt
          rw [HA.out, HB.out, HC.out, HD.out]
          clear hb3 hbw2 ra rl
          generalize hq1 : rA v1 x1 v2 x2 L = m1
          generalize hq2 : rB v1 x1 v2 x2 L = m2
          generalize hq3 : rC v1 x1 v2 x2 L = m3
          generalize hq4 : rD v1 x1 v2 x2 L = m4
          have HA := Lib.hid hq1.symm; clear hq1
          have HB := Lib.hid hq2.symm; clear hq2
          have HC := Lib.hid hq3.symm; clear hq3
          have HD := Lib.hid hq4.symm; clear hq4
          obtain ⟨s0, s1⟩ := r6.c2
          obtain ⟨s2, s3⟩ := r7.c2
          have f6 := r6.frozen
          have f7 := r7.frozen
          go_wp2_with fail
          refine wp_gen (fun W' => Below w.heap.size w W' ∧ RowB W' w3.heap.size 33 [.int .i64 m1, .int .i64 m2] ∧ RowB W' (w3.heap.size + 1) 33 [.int .i64 m3, .int .i64 m4] ∧ RowB W' (w.heap.size + 1 + 1) 33 [.int .i64 0, .int .i64 0] ∧ RowB W' (w.heap.size + 1 + 1 + 1) 33 [.int .i64 0, .int .i64 0]) ⟨(hbw3.alloc (by omega) _).alloc (by go_size) _, (RowB.new _ _ _).alloc _, RowB.new' _ _ _ (by simp), (r6.alloc _).alloc _, (r7.alloc _).alloc _⟩ ?_
          clear s0 s1 s2 s3 f6 f7 r6 r7 hbw3
          rintro W5 ⟨hb5, ra, rl, r6, r7⟩
          obtain ⟨k0, k1⟩ := ra.c2
          obtain ⟨k2, k3⟩ := rl.c2
          obtain ⟨s0, s1⟩ := r6.c2
          obtain ⟨s2, s3⟩ := r7.c2
          have f6 := r6.frozen
          have f7 := r7.frozen
          go_region
          all_goals
            go_wp2_with fail
            refine bp_gen (fun W' => Below w.heap.size w W' ∧ RowB W' (w.heap.size + 1 + 1) 33 [.int .i64 m1, .int .i64 m2] ∧ RowB W' (w.heap.size + 1 + 1 + 1) 33 [.int .i64 m3, .int .i64 m4]) ⟨((((hb5.setCell (by simp <;> omega) _).setCell (by simp <;> omega) _).setCell (by simp <;> omega) _).setCell (by simp <;> omega) _).drew, RowB.drew (RowB.other (RowB.other (RowB.set (RowB.set r6 0 _) 1 _) (by simp <;> omega) _) (by simp <;> omega) _), RowB.drew (RowB.set (RowB.set (RowB.other (RowB.other r7 (by simp <;> omega) _) (by simp <;> omega) _) 0 _) 1 _)⟩ ?_
            rintro W6 ⟨hb6, q6, q7⟩
            obtain ⟨t0, t1⟩ := q6.c2
            obtain ⟨t2, t3⟩ := q7.c2
            refine bodyPost_ret (v := .tuple #[.agg #[.int .i64 m1, .int .i64 m2], .agg #[.int .i64 m3, .int .i64 m4], .int .i64 0]) (by simp [results, Tryd.results17, go_sem, t0, t1, t2, t3]) rfl ?_
            exact ⟨by rw [← HA.out, ← HB.out, ← HC.out, ← HD.out, ← HE.out], hb6⟩
        · have HE := Lib.hid (show 2 = rE v1 x1 v2 x2 L by unfold rE; rw [o1, o2]; simp [g1, g2])
          have HA := Lib.hid (show 0 = rA v1 x1 v2 x2 L by unfold rA; rw [if_neg (by rw [← HE.out]; decide)])
          have HB := Lib.hid (show 0 = rB v1 x1 v2 x2 L by unfold rB; rw [if_neg (by rw [← HE.out]; decide)])
          have HC := Lib.hid (show 0 = rC v1 x1 v2 x2 L by unfold rC; rw [if_neg (by rw [← HE.out]; decide)])
          have HD := Lib.hid (show 0 = rD v1 x1 v2 x2 L by unfold rD; rw [if_neg (by rw [← HE.out]; decide)])
          have O1 := Lib.hid o1; clear o1
          have O2 := Lib.hid o2; clear o2
          have hd : decide (L ≤ 25) = false := decide_eq_false g2
          replace g2 := Int.not_le.1 g2
          go_enter Tryd.func17, Tryd.ntmps17
          go_wp2_with fail
          refine (isR_spec v1 x1 _).mono ?_
          rw [O1.out]
          rintro e w1 ⟨rfl, hb1⟩
          have hbw1 : Below w.heap.size w w1 := Below.then_ (by go_grown) hb1 (by go_size)
          have ra : RowB w1 w.heap.size 33 [.int .i64 v1, .int .i64 x1] := ((((RowB.new w _ _).alloc _).alloc _).alloc _).below hb1 (by go_size)
          have rl : RowB w1 (w.heap.size + 1) 33 [.int .i64 v2, .int .i64 x2] := (((RowB.new' (w.alloc _) _ _ (by simp)).alloc _).alloc _).below hb1 (by go_size)
          have r6 : RowB w1 (w.heap.size + 1 + 1) 33 [.int .i64 0, .int .i64 0] := ((RowB.new' ((w.alloc _).alloc _) _ _ (by simp)).alloc _).below hb1 (by go_size)
          have r7 : RowB w1 (w.heap.size + 1 + 1 + 1) 33 [.int .i64 0, .int .i64 0] := (RowB.new' (((w.alloc _).alloc _).alloc _) _ _ (by simp)).below hb1 (by go_size)
          have hz7 := r7.lt
          clear hb1
          obtain ⟨k0, k1⟩ := ra.c2
          obtain ⟨k2, k3⟩ := rl.c2
          obtain ⟨s0, s1⟩ := r6.c2
          obtain ⟨s2, s3⟩ := r7.c2
          have f6 := r6.frozen
          have f7 := r7.frozen
          go_wp2_with fail
          clear k0 k1 k2 k3 s0 s1 s2 s3 f6 f7
          refine (isR_spec v2 x2 _).mono ?_
          rw [O2.out]
          rintro e w2 ⟨rfl, hb2⟩
          have hbw2 := hbw1.trans (hb2.mono hbw1.size)
          have ra := ra.below hb2 ra.lt
          have rl := rl.below hb2 rl.lt
          have r6 := r6.below hb2 r6.lt
          have r7 := r7.below hb2 r7.lt
          have hz7 := r7.lt
          clear hb2 hbw1
          obtain ⟨k0, k1⟩ := ra.c2
          obtain ⟨k2, k3⟩ := rl.c2
          obtain ⟨s0, s1⟩ := r6.c2
          obtain ⟨s2, s3⟩ := r7.c2
          have f6 := r6.frozen
          have f7 := r7.frozen
          go_wp2_with (first | (go_at_call 38; go_in) | (go_at_call 37; go_in) | fail)
          refine bp_gen (fun W' => Below w.heap.size w W' ∧ RowB W' (w.heap.size + 1 + 1) 33 [.int .i64 0, .int .i64 0] ∧ RowB W' (w.heap.size + 1 + 1 + 1) 33 [.int .i64 0, .int .i64 0]) ⟨(((hbw2.setCell (by simp <;> omega) _).setCell (by simp <;> omega) _).setCell (by simp <;> omega) _).setCell (by simp <;> omega) _, RowB.other (RowB.other (RowB.set (RowB.set r6 0 _) 1 _) (by simp <;> omega) _) (by simp <;> omega) _, RowB.set (RowB.set (RowB.other (RowB.other r7 (by simp <;> omega) _) (by simp <;> omega) _) 0 _) 1 _⟩ ?_
          rintro W6 ⟨hb6, q6, q7⟩
          obtain ⟨t0, t1⟩ := q6.c2
          obtain ⟨t2, t3⟩ := q7.c2
          refine bodyPost_ret (v := .tuple #[.agg #[.int .i64 0, .int .i64 0], .agg #[.int .i64 0, .int .i64 0], .int .i64 2]) (by simp [results, Tryd.results17, go_sem, t0, t1, t2, t3]) rfl ?_
          exact ⟨by rw [← HA.out, ← HB.out, ← HC.out, ← HD.out, ← HE.out], hb6⟩
      · have HE := Lib.hid (show 2 = rE v1 x1 v2 x2 L by unfold rE; rw [o1, o2]; simp [g1])
        have HA := Lib.hid (show 0 = rA v1 x1 v2 x2 L by unfold rA; rw [if_neg (by rw [← HE.out]; decide)])
        have HB := Lib.hid (show 0 = rB v1 x1 v2 x2 L by unfold rB; rw [if_neg (by rw [← HE.out]; decide)])
        have HC := Lib.hid (show 0 = rC v1 x1 v2 x2 L by unfold rC; rw [if_neg (by rw [← HE.out]; decide)])
        have HD := Lib.hid (show 0 = rD v1 x1 v2 x2 L by unfold rD; rw [if_neg (by rw [← HE.out]; decide)])
        have O1 := Lib.hid o1; clear o1
        have O2 := Lib.hid o2; clear o2
        have hd : decide (1 ≤ L) = false := decide_eq_false g1
        replace g1 := Int.not_le.1 g1
        go_enter Tryd.func17, Tryd.ntmps17
        go_wp2_with fail
        refine (isR_spec v1 x1 _).mono ?_
        rw [O1.out]
        rintro e w1 ⟨rfl, hb1⟩
        have hbw1 : Below w.heap.size w w1 := Below.then_ (by go_grown) hb1 (by go_size)
        have ra : RowB w1 w.heap.size 33 [.int .i64 v1, .int .i64 x1] := ((((RowB.new w _ _).alloc _).alloc _).alloc _).below hb1 (by go_size)
        have rl : RowB w1 (w.heap.size + 1) 33 [.int .i64 v2, .int .i64 x2] := (((RowB.new' (w.alloc _) _ _ (by simp)).alloc _).alloc _).below hb1 (by go_size)
        have r6 : RowB w1 (w.heap.size + 1 + 1) 33 [.int .i64 0, .int .i64 0] := ((RowB.new' ((w.alloc _).alloc _) _ _ (by simp)).alloc _).below hb1 (by go_size)
        have r7 : RowB w1 (w.heap.size + 1 + 1 + 1) 33 [.int .i64 0, .int .i64 0] := (RowB.new' (((w.alloc _).alloc _).alloc _) _ _ (by simp)).below hb1 (by go_size)
        have hz7 := r7.lt
        clear hb1
        obtain ⟨k0, k1⟩ := ra.c2
        obtain ⟨k2, k3⟩ := rl.c2
        obtain ⟨s0, s1⟩ := r6.c2
        obtain ⟨s2, s3⟩ := r7.c2
        have f6 := r6.frozen
        have f7 := r7.frozen
        go_wp2_with fail
        clear k0 k1 k2 k3 s0 s1 s2 s3 f6 f7
        refine (isR_spec v2 x2 _).mono ?_
        rw [O2.out]
        rintro e w2 ⟨rfl, hb2⟩
        have hbw2 := hbw1.trans (hb2.mono hbw1.size)
        have ra := ra.below hb2 ra.lt
        have rl := rl.below hb2 rl.lt
        have r6 := r6.below hb2 r6.lt
        have r7 := r7.below hb2 r7.lt
        have hz7 := r7.lt
        clear hb2 hbw1
        obtain ⟨k0, k1⟩ := ra.c2
        obtain ⟨k2, k3⟩ := rl.c2
        obtain ⟨s0, s1⟩ := r6.c2
        obtain ⟨s2, s3⟩ := r7.c2
        have f6 := r6.frozen
        have f7 := r7.frozen
        go_wp2_with (first | (go_at_call 38; go_in) | (go_at_call 37; go_in) | fail)
        refine bp_gen (fun W' => Below w.heap.size w W' ∧ RowB W' (w.heap.size + 1 + 1) 33 [.int .i64 0, .int .i64 0] ∧ RowB W' (w.heap.size + 1 + 1 + 1) 33 [.int .i64 0, .int .i64 0]) ⟨(((hbw2.setCell (by simp <;> omega) _).setCell (by simp <;> omega) _).setCell (by simp <;> omega) _).setCell (by simp <;> omega) _, RowB.other (RowB.other (RowB.set (RowB.set r6 0 _) 1 _) (by simp <;> omega) _) (by simp <;> omega) _, RowB.set (RowB.set (RowB.other (RowB.other r7 (by simp <;> omega) _) (by simp <;> omega) _) 0 _) 1 _⟩ ?_
        rintro W6 ⟨hb6, q6, q7⟩
        obtain ⟨t0, t1⟩ := q6.c2
        obtain ⟨t2, t3⟩ := q7.c2
        refine bodyPost_ret (v := .tuple #[.agg #[.int .i64 0, .int .i64 0], .agg #[.int .i64 0, .int .i64 0], .int .i64 2]) (by simp [results, Tryd.results17, go_sem, t0, t1, t2, t3]) rfl ?_
        exact ⟨by rw [← HA.out, ← HB.out, ← HC.out, ← HD.out, ← HE.out], hb6⟩

end Go.Proofs.YtjmckpaemmjcmaaDoor.RMatch3
