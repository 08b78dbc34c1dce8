/-
  RateAll of the program. Conditions: each theorem's own.
-/
import Derived.Test.YtjmckpaemmjcmaaDoorRateAll
import Derived.Deep.DeepCutAuto
import Derived.Test.YtjmckpaemmjcmaaDoorInv
set_option linter.unusedVariables false
namespace Go.Proofs.YtjmckpaemmjcmaaDoor.RateAll2
open Go.ChangeShapes Go.WideShapes Go.ChangeAt Go.RowKit Base Base2 Own Rating Chance RMatch RMatch3 RatList RateAll RegInv

theorem wpS {P : Program} {c : Code} {Q : Exit → Act → World → Prop} {a : Act} {W : World} (R : World → Prop) (h : R W) (k : ∀ W', R W' → c.wp P Q a W') : c.wp P Q a W := k W h
theorem ra_eq {v : Value} {c c' : Int} (h : c = c') : Ending.returned (.tuple #[v, .int .i64 c]) = Ending.returned (.tuple #[v, .int .i64 c']) := by rw [h]

structure RaF (w : World) (B0 g n cap i j : Nat) (r a1 a2 b1 b2 u1 u2 u3 u4 : Int) (ys : List (Int × Int)) (rest : List Value) (L : Nat → Prop) (v21 v22 v23 v24 v25 v26 v27 v28 v29 v30 v31 v32 v33 v34 v35 v36 v37 v38 v39 v40 v41 v42 v43 v44 : Value) (w' : World) : Prop where
  qb : Below w.heap.size w w'
  rb : RowB w' B0 49 [.int .i64 (i : Int), .int .i64 (j : Int), .int .i64 r]
  r0 : ¬ L 23 → ¬ L 25 → RowB w' g 33 (ys.flatMap enI2 ++ rest)
  r1 : L 23 → ¬ L 25 → RowB w' g 33 ((ys.set i (u1, u2)).flatMap enI2 ++ rest)
  r2 : L 25 → RowB w' g 33 (((ys.set i (u1, u2)).set j (u3, u4)).flatMap enI2 ++ rest)
  f0 : L 0 → v22 = .slice (some ⟨g, 0, none⟩) n cap
  f1 : L 1 → v23 = .pointer (some ⟨B0, 0, none⟩)
  f2 : L 2 → v24 = .int .i64 (i : Int)
  f3 : L 3 → v25 = .slice (some ⟨g, 0, none⟩) n cap
  f4 : L 4 → v26 = .pointer (some ⟨B0, 1, none⟩)
  f5 : L 5 → v27 = .int .i64 (j : Int)
  f6 : L 6 → v28 = .slice (some ⟨g, 0, none⟩) n cap
  f7 : L 7 → v29 = .pointer (some ⟨B0, 0, none⟩)
  f8 : L 8 → v30 = .int .i64 (i : Int)
  f9 : L 9 → v31 = .pointer (some ⟨g, i * 2, none⟩)
  f10 : L 10 → v32 = .agg #[.int .i64 a1, .int .i64 a2]
  f11 : L 11 → v33 = .slice (some ⟨g, 0, none⟩) n cap
  f12 : L 12 → v34 = .pointer (some ⟨B0, 1, none⟩)
  f13 : L 13 → v35 = .int .i64 (j : Int)
  f14 : L 14 → v36 = .pointer (some ⟨g, j * 2, none⟩)
  f15 : L 15 → v37 = .agg #[.int .i64 b1, .int .i64 b2]
  f16 : L 16 → v38 = .pointer (some ⟨B0, 2, none⟩)
  f17 : L 17 → v39 = .int .i64 r
  f18 : L 18 → v40 = .tuple #[.agg #[.int .i64 u1, .int .i64 u2], .agg #[.int .i64 u3, .int .i64 u4]]
  f19 : L 19 → v21 = .tuple #[.agg #[.int .i64 u1, .int .i64 u2], .agg #[.int .i64 u3, .int .i64 u4]]
  f20 : L 20 → v41 = .agg #[.int .i64 u1, .int .i64 u2]
  f21 : L 21 → v42 = .agg #[.int .i64 u3, .int .i64 u4]
  f22 : L 22 → v43 = .pointer (some ⟨g, i * 2, none⟩)
  f24 : L 24 → v44 = .pointer (some ⟨g, j * 2, none⟩)

set_option maxHeartbeats 8000000 in
set_option maxRecDepth 100000 in
theorem raI (A1 A2 : Option Addr) (c1 c2 B1 B2 : Nat) (xs : List (Int × Int)) (ms : List (Int × Int × Int)) (w : World) (h1 : RdS w B1 2 enI2 A1 xs) (h2 : RdS w B2 3 enI3 A2 ms) (hB1 : B1 ≤ w.heap.size) (hB2 : B2 ≤ w.heap.size) (tb : ∀ i : Nat, i < 11 → w.cell? ⟨0, i, none⟩ = some (.int .i64 (tab.getD i 0))) (hz : 0 < w.heap.size) :
    Calls Tryd.prog 23 #[.slice A1 xs.length c1, .slice A2 ms.length c2] w fun e w' => (∃ v, e = .returned (.tuple #[v, .int .i64 (raC xs ms)]) ∧ OwnS w' w.heap.size w'.heap.size 33 2 enI2 v (raL xs ms)) ∧ Below w.heap.size w w' := by
  have T := Lib.hid (fun (w' : World) (hb : Below w.heap.size w w') (i : Nat) (hi : i < 11) => (hb.cell (p := ⟨0, i, none⟩) hz).trans (tb i hi))
  clear tb
  have CR := Lib.hid (fun w0 a b => rl_impl B1 B2 A1 A2 c1 c2 xs ms w0 (h1.below a hB1) (h2.below a hB2) (Nat.le_trans hB1 b) (Nat.le_trans hB2 b))
  have hml := h2.len
  cases hok : okRL xs ms
  · have HC : Hid (1 = raC xs ms) := by unfold raC; rw [hok]; rfl
    have HV : Hid (raL xs ms = []) := by unfold raL; rw [hok]; rfl
    rw [hok] at CR
    go_enter Tryd.func23, Tryd.ntmps23
    go_wp2_with fail
    refine (CR.out _ (Below.refl _ _) (Nat.le_refl _)).mono ?_
    rintro e w1 ⟨rfl, hb1⟩
    go_wp2_with fail
    go_ret2
    exact ⟨⟨_, ra_eq HC.out, by rw [HV.out]; exact OwnS.nil_ _ _ _ _ _ _⟩, hb1⟩
  · have HC : Hid (0 = raC xs ms) := by unfold raC; rw [hok]; rfl
    have HV : Hid (raL xs ms = allR xs ms) := by unfold raL; rw [hok]; rfl
    have HOK := Lib.hid (fun k hk => allR_ok hok (k := k) hk)
    have hk := hok
    unfold okRL at hk
    simp only [Bool.and_eq_true] at hk
    have hsz := of_decide_eq_true hk.1
    have HM := Lib.hid hk.2.2
    rw [hok] at CR
    clear hk hok
    obtain ⟨b1, f1, rfl, hb1, _⟩ := h1.2 (by omega)
    go_enter Tryd.func23, Tryd.ntmps23
    go_wp2_with fail
    refine (CR.out _ (Below.refl _ _) (Nat.le_refl _)).mono ?_
    rintro e w1 ⟨rfl, q1⟩
    go_wp2_with fail
    refine (cloneR ⟨b1, f1, none⟩ c1 B1 xs _ (Nat.le_trans hB1 q1.size) (h1.below q1 hB1) (by omega)).mono ?_
    rintro e w2 ⟨⟨v, rfl, o2⟩, q2⟩
    have q2 := q1.trans (q2.mono q1.size)
    rcases o2.cases_ with ⟨_, hnil⟩ | ⟨g, cap, rest, rfl, hlo, hhi, hR, hnc, hcm, hl⟩
    · rw [hnil] at hsz; simp at hsz
    have hlo' : w.heap.size ≤ g := Nat.le_trans q1.size hlo
    have hR := Lib.hid hR
    clear o2 q1
    obtain ⟨n, hn⟩ : ∃ n, xs.length = n := ⟨_, rfl⟩
    obtain ⟨N, hN⟩ : ∃ N, ms.length = N := ⟨_, rfl⟩
    have HNN := Lib.hid hN
    have Hn := Lib.hid hn
    rw [hn] at hsz hnc hl
    rw [hN] at hsz hml
    rw [hn, hN]
    clear hn hN
    go_wp2_with fail
    go_loopw [17] (fun s wr => ∃ k : Nat, k ≤ N ∧ s = .int .i64 (k : Int) ∧ Below w.heap.size w wr ∧ Hid (RowB wr g 33 ((allR xs (ms.take k)).flatMap enI2 ++ rest))) (fun s _ => N - (intOf s).toNat)
    case atStart => exact ⟨0, Nat.zero_le _, rfl, q2, hR⟩
    case round =>
      clear q2 hR hhi
      obtain ⟨k, hk, rfl, qb, hR⟩ := hrel
      have hgr := hR.out.lt
      by_cases hlt : k < N
      · obtain ⟨b, off, p, q, r, rfl, hbB, hx, d0, d1, d2⟩ := rdI3_at (h2.below qb hB2) (by rw [HNN.out]; exact hlt)
        have hm := (List.all_eq_true.1 HM.out) _ (List.mem_of_getElem? hx)
        unfold okM at hm
        have hm := of_decide_eq_true hm
        rw [Hn.out] at hm
        simp only at hm
        obtain ⟨i, rfl⟩ : ∃ i : Nat, p = i := ⟨p.toNat, by omega⟩
        obtain ⟨j, rfl⟩ : ∃ j : Nat, q = j := ⟨q.toNat, by omega⟩
        have hlen : (allR xs (ms.take k)).length = n := by rw [allR_len]; exact Hn.out
        have hS := Lib.hid (allR_succ xs ms k _ hx)
        have hokk := HOK.out k (by rw [HNN.out]; omega)
        have ha := (okR_iff _ _).1 (okR_at hokk (i := i) (by omega))
        have hbk := (okR_iff _ _).1 (okR_at hokk (i := j) (by omega))
        have hbw : b < wr.heap.size := by have := qb.size; omega
        have hstep : stepR (allR xs (ms.take k)) ((i : Int), (j : Int), r) = ((allR xs (ms.take k)).set i (up ((allR xs (ms.take k)).getD i (0, 0)).1 (chg r (rp ((allR xs (ms.take k)).getD i (0, 0)).1 ((allR xs (ms.take k)).getD j (0, 0)).1 r) ((allR xs (ms.take k)).getD i (0, 0)).2), more ((allR xs (ms.take k)).getD i (0, 0)).2 r)).set j (down ((allR xs (ms.take k)).getD j (0, 0)).1 (chg r (rp ((allR xs (ms.take k)).getD i (0, 0)).1 ((allR xs (ms.take k)).getD j (0, 0)).1 r) ((allR xs (ms.take k)).getD j (0, 0)).2), more ((allR xs (ms.take k)).getD j (0, 0)).2 r) := rfl
        have HST := Lib.hid (hS.out.trans hstep)
        have hNk : (allR xs (ms.take (k + 1))).length = n := by rw [allR_len]; exact Hn.out
        clear hstep hS hx hokk
        generalize hys : allR xs (ms.take k) = ys at *
        generalize hyn : allR xs (ms.take (k + 1)) = yn at *
        have HYN := Lib.hid hyn
        clear hys hyn hNk
        have CM := fun w0 x y => rmI (ys.getD i (0, 0)).1 (ys.getD i (0, 0)).2 (ys.getD j (0, 0)).1 (ys.getD j (0, 0)).2 r w0 ha.1 ha.2.1 ha.2.2.1 ha.2.2.2 hbk.1 hbk.2.1 hbk.2.2.1 hbk.2.2.2 (by omega) (by omega) x y
        have hi2 : (i : Int) < (n : Int) := hm.2.1
        have hj2 : (j : Int) < (n : Int) := hm.2.2.2.1
        have hi0 : (0 : Int) ≤ (i : Int) := hm.1
        have hj0 : (0 : Int) ≤ (j : Int) := hm.2.2.1
        have hij : i ≠ j := by omega
        clear ha hbk
        have hil : i < ys.length := by omega
        have hjl : j < ys.length := by omega
        have HIL := Lib.hid hil
        have HJL := Lib.hid hjl
        have CA := Lib.hid (fun (W : World) (hq : RowB W g 33 (ys.flatMap enI2 ++ rest)) => And.intro (rat_cells hq HIL.out) (rat_cells hq HJL.out))
        generalize hA1 : (ys.getD i (0, 0)).1 = a1 at *
        generalize hA2 : (ys.getD i (0, 0)).2 = a2 at *
        generalize hB1' : (ys.getD j (0, 0)).1 = b1' at *
        generalize hB2' : (ys.getD j (0, 0)).2 = b2' at *
        clear hA1 hA2 hB1' hB2' hlen hil hjl
        generalize hu1 : up a1 (chg r (rp a1 b1' r) a2) = u1 at *
        generalize hu2 : more a2 r = u2 at *
        generalize hu3 : down b1' (chg r (rp a1 b1' r) b2') = u3 at *
        generalize hu4 : more b2' r = u4 at *
        clear hu1 hu2 hu3 hu4
        have CM := Lib.hid CM
        go_upto_region 7 with (fail)
        refine wpS (fun W' => Below wr.heap.size wr W' ∧ RowB W' wr.heap.size 49 [.int .i64 (i : Int), .int .i64 (j : Int), .int .i64 r]) ⟨(Below.refl _ _).alloc (Nat.le_refl _) _, RowB.new _ _ _⟩ ?_
        clear d0 d1 d2
        rintro w3 ⟨t3, rb⟩
        have row3 := hR.out.below t3 hgr
        have q3 := qb.trans (t3.mono qb.size)
        have lb := rb.lt
        have lg := row3.lt
        have q3s := q3.size
        obtain ⟨⟨s3, s4⟩, s5, s6⟩ := CA.out w3 row3
        have hnb : wr.heap.size ≠ g := by omega
        have hlo9 := hlo'
        have HJL2 := Lib.hid (show j < (ys.set i (u1, u2)).length from by rw [List.length_set]; exact HJL.out)
        have CB := Lib.hid (fun (W : World) (hq : RowB W g 33 ((ys.set i (u1, u2)).flatMap enI2 ++ rest)) => rat_cells hq HJL2.out)
        refine region_inv (fun a0 L a w' => ∃ v21 v22 v23 v24 v25 v26 v27 v28 v29 v30 v31 v32 v33 v34 v35 v36 v37 v38 v39 v40 v41 v42 v43 v44 : Value, a = ((((((((((((((((((((((((a0.put (some 21) v21).put (some 22) v22).put (some 23) v23).put (some 24) v24).put (some 25) v25).put (some 26) v26).put (some 27) v27).put (some 28) v28).put (some 29) v29).put (some 30) v30).put (some 31) v31).put (some 32) v32).put (some 33) v33).put (some 34) v34).put (some 35) v35).put (some 36) v36).put (some 37) v37).put (some 38) v38).put (some 39) v39).put (some 40) v40).put (some 41) v41).put (some 42) v42).put (some 43) v43).put (some 44) v44) ∧ RaF w wr.heap.size g n cap i j r a1 a2 b1' b2' u1 u2 u3 u4 ys rest L v21 v22 v23 v24 v25 v26 v27 v28 v29 v30 v31 v32 v33 v34 v35 v36 v37 v38 v39 v40 v41 v42 v43 v44 w') (by kernel_rfl) (by kernel_rfl) ?h0 ?hst ?fin
        case h0 =>
          exact ⟨_, _, _, _, _, _, _, _, _, _, _, _, _, _, _, _, _, _, _, _, _, _, _, _, by simp only [Act.put, List.setIfInBounds_toArray, List.set_cons_zero, List.set_cons_succ]; exact rfl, ⟨q3.drew, rb.drew, fun _ _ => row3.drew, fun h => (h : False).elim, fun h => (h : False).elim, fun h => (h : False).elim, fun h => (h : False).elim, fun h => (h : False).elim, fun h => (h : False).elim, fun h => (h : False).elim, fun h => (h : False).elim, fun h => (h : False).elim, fun h => (h : False).elim, fun h => (h : False).elim, fun h => (h : False).elim, fun h => (h : False).elim, fun h => (h : False).elim, fun h => (h : False).elim, fun h => (h : False).elim, fun h => (h : False).elim, fun h => (h : False).elim, fun h => (h : False).elim, fun h => (h : False).elim, fun h => (h : False).elim, fun h => (h : False).elim, fun h => (h : False).elim, fun h => (h : False).elim, fun h => (h : False).elim, fun h => (h : False).elim⟩⟩
        case hst =>
          refine StepsFrom.cons rfl (fun L a w' hI hno hdep hcl K hK => ?_) ?_
          · obtain ⟨v21, v22, v23, v24, v25, v26, v27, v28, v29, v30, v31, v32, v33, v34, v35, v36, v37, v38, v39, v40, v41, v42, v43, v44, rfl, F⟩ := hI
            simp only [Act.put, List.setIfInBounds_toArray, List.set_cons_zero, List.set_cons_succ]
            go_simp
            exact hK.out _ _ ⟨v21, _, v23, v24, v25, v26, v27, v28, v29, v30, v31, v32, v33, v34, v35, v36, v37, v38, v39, v40, v41, v42, v43, v44, by simp only [Act.put, List.setIfInBounds_toArray, List.set_cons_zero, List.set_cons_succ], ⟨F.qb, F.rb, fun h1 h2 => F.r0 (fun x => h1 (Or.inr x)) (fun x => h2 (Or.inr x)), fun h1 h2 => F.r1 (h1.resolve_left (by decide)) (fun x => h2 (Or.inr x)), fun h => F.r2 (h.resolve_left (by decide)), fun _ => rfl, fun h => F.f1 (h.resolve_left (by decide)), fun h => F.f2 (h.resolve_left (by decide)), fun h => F.f3 (h.resolve_left (by decide)), fun h => F.f4 (h.resolve_left (by decide)), fun h => F.f5 (h.resolve_left (by decide)), fun h => F.f6 (h.resolve_left (by decide)), fun h => F.f7 (h.resolve_left (by decide)), fun h => F.f8 (h.resolve_left (by decide)), fun h => F.f9 (h.resolve_left (by decide)), fun h => F.f10 (h.resolve_left (by decide)), fun h => F.f11 (h.resolve_left (by decide)), fun h => F.f12 (h.resolve_left (by decide)), fun h => F.f13 (h.resolve_left (by decide)), fun h => F.f14 (h.resolve_left (by decide)), fun h => F.f15 (h.resolve_left (by decide)), fun h => F.f16 (h.resolve_left (by decide)), fun h => F.f17 (h.resolve_left (by decide)), fun h => F.f18 (h.resolve_left (by decide)), fun h => F.f19 (h.resolve_left (by decide)), fun h => F.f20 (h.resolve_left (by decide)), fun h => F.f21 (h.resolve_left (by decide)), fun h => F.f22 (h.resolve_left (by decide)), fun h => F.f24 (h.resolve_left (by decide))⟩⟩
          refine StepsFrom.cons rfl (fun L a w' hI hno hdep hcl K hK => ?_) ?_
          · obtain ⟨v21, v22, v23, v24, v25, v26, v27, v28, v29, v30, v31, v32, v33, v34, v35, v36, v37, v38, v39, v40, v41, v42, v43, v44, rfl, F⟩ := hI
            simp only [Act.put, List.setIfInBounds_toArray, List.set_cons_zero, List.set_cons_succ]
            go_simp
            exact hK.out _ _ ⟨v21, v22, _, v24, v25, v26, v27, v28, v29, v30, v31, v32, v33, v34, v35, v36, v37, v38, v39, v40, v41, v42, v43, v44, by simp only [Act.put, List.setIfInBounds_toArray, List.set_cons_zero, List.set_cons_succ], ⟨F.qb, F.rb, fun h1 h2 => F.r0 (fun x => h1 (Or.inr x)) (fun x => h2 (Or.inr x)), fun h1 h2 => F.r1 (h1.resolve_left (by decide)) (fun x => h2 (Or.inr x)), fun h => F.r2 (h.resolve_left (by decide)), fun h => F.f0 (h.resolve_left (by decide)), fun _ => rfl, fun h => F.f2 (h.resolve_left (by decide)), fun h => F.f3 (h.resolve_left (by decide)), fun h => F.f4 (h.resolve_left (by decide)), fun h => F.f5 (h.resolve_left (by decide)), fun h => F.f6 (h.resolve_left (by decide)), fun h => F.f7 (h.resolve_left (by decide)), fun h => F.f8 (h.resolve_left (by decide)), fun h => F.f9 (h.resolve_left (by decide)), fun h => F.f10 (h.resolve_left (by decide)), fun h => F.f11 (h.resolve_left (by decide)), fun h => F.f12 (h.resolve_left (by decide)), fun h => F.f13 (h.resolve_left (by decide)), fun h => F.f14 (h.resolve_left (by decide)), fun h => F.f15 (h.resolve_left (by decide)), fun h => F.f16 (h.resolve_left (by decide)), fun h => F.f17 (h.resolve_left (by decide)), fun h => F.f18 (h.resolve_left (by decide)), fun h => F.f19 (h.resolve_left (by decide)), fun h => F.f20 (h.resolve_left (by decide)), fun h => F.f21 (h.resolve_left (by decide)), fun h => F.f22 (h.resolve_left (by decide)), fun h => F.f24 (h.resolve_left (by decide))⟩⟩
          refine StepsFrom.cons rfl (fun L a w' hI hno hdep hcl K hK => ?_) ?_
          · obtain ⟨v21, v22, v23, v24, v25, v26, v27, v28, v29, v30, v31, v32, v33, v34, v35, v36, v37, v38, v39, v40, v41, v42, v43, v44, rfl, F⟩ := hI
            have e23 := F.f1 (hdep 1 (by kernel_rfl))
            have cc := F.rb.c3
            have d0 := cc.1
            have d1 := cc.2.1
            have d2 := cc.2.2
            clear cc
            simp only [Act.put, List.setIfInBounds_toArray, List.set_cons_zero, List.set_cons_succ, e23]
            go_simp
            exact hK.out _ _ ⟨v21, v22, v23, _, v25, v26, v27, v28, v29, v30, v31, v32, v33, v34, v35, v36, v37, v38, v39, v40, v41, v42, v43, v44, by simp only [Act.put, List.setIfInBounds_toArray, List.set_cons_zero, List.set_cons_succ, e23], ⟨F.qb, F.rb, fun h1 h2 => F.r0 (fun x => h1 (Or.inr x)) (fun x => h2 (Or.inr x)), fun h1 h2 => F.r1 (h1.resolve_left (by decide)) (fun x => h2 (Or.inr x)), fun h => F.r2 (h.resolve_left (by decide)), fun h => F.f0 (h.resolve_left (by decide)), fun h => F.f1 (h.resolve_left (by decide)), fun _ => rfl, fun h => F.f3 (h.resolve_left (by decide)), fun h => F.f4 (h.resolve_left (by decide)), fun h => F.f5 (h.resolve_left (by decide)), fun h => F.f6 (h.resolve_left (by decide)), fun h => F.f7 (h.resolve_left (by decide)), fun h => F.f8 (h.resolve_left (by decide)), fun h => F.f9 (h.resolve_left (by decide)), fun h => F.f10 (h.resolve_left (by decide)), fun h => F.f11 (h.resolve_left (by decide)), fun h => F.f12 (h.resolve_left (by decide)), fun h => F.f13 (h.resolve_left (by decide)), fun h => F.f14 (h.resolve_left (by decide)), fun h => F.f15 (h.resolve_left (by decide)), fun h => F.f16 (h.resolve_left (by decide)), fun h => F.f17 (h.resolve_left (by decide)), fun h => F.f18 (h.resolve_left (by decide)), fun h => F.f19 (h.resolve_left (by decide)), fun h => F.f20 (h.resolve_left (by decide)), fun h => F.f21 (h.resolve_left (by decide)), fun h => F.f22 (h.resolve_left (by decide)), fun h => F.f24 (h.resolve_left (by decide))⟩⟩
          refine StepsFrom.cons rfl (fun L a w' hI hno hdep hcl K hK => ?_) ?_
          · obtain ⟨v21, v22, v23, v24, v25, v26, v27, v28, v29, v30, v31, v32, v33, v34, v35, v36, v37, v38, v39, v40, v41, v42, v43, v44, rfl, F⟩ := hI
            simp only [Act.put, List.setIfInBounds_toArray, List.set_cons_zero, List.set_cons_succ]
            go_simp
            exact hK.out _ _ ⟨v21, v22, v23, v24, _, v26, v27, v28, v29, v30, v31, v32, v33, v34, v35, v36, v37, v38, v39, v40, v41, v42, v43, v44, by simp only [Act.put, List.setIfInBounds_toArray, List.set_cons_zero, List.set_cons_succ], ⟨F.qb, F.rb, fun h1 h2 => F.r0 (fun x => h1 (Or.inr x)) (fun x => h2 (Or.inr x)), fun h1 h2 => F.r1 (h1.resolve_left (by decide)) (fun x => h2 (Or.inr x)), fun h => F.r2 (h.resolve_left (by decide)), fun h => F.f0 (h.resolve_left (by decide)), fun h => F.f1 (h.resolve_left (by decide)), fun h => F.f2 (h.resolve_left (by decide)), fun _ => rfl, fun h => F.f4 (h.resolve_left (by decide)), fun h => F.f5 (h.resolve_left (by decide)), fun h => F.f6 (h.resolve_left (by decide)), fun h => F.f7 (h.resolve_left (by decide)), fun h => F.f8 (h.resolve_left (by decide)), fun h => F.f9 (h.resolve_left (by decide)), fun h => F.f10 (h.resolve_left (by decide)), fun h => F.f11 (h.resolve_left (by decide)), fun h => F.f12 (h.resolve_left (by decide)), fun h => F.f13 (h.resolve_left (by decide)), fun h => F.f14 (h.resolve_left (by decide)), fun h => F.f15 (h.resolve_left (by decide)), fun h => F.f16 (h.resolve_left (by decide)), fun h => F.f17 (h.resolve_left (by decide)), fun h => F.f18 (h.resolve_left (by decide)), fun h => F.f19 (h.resolve_left (by decide)), fun h => F.f20 (h.resolve_left (by decide)), fun h => F.f21 (h.resolve_left (by decide)), fun h => F.f22 (h.resolve_left (by decide)), fun h => F.f24 (h.resolve_left (by decide))⟩⟩
          refine StepsFrom.cons rfl (fun L a w' hI hno hdep hcl K hK => ?_) ?_
          · obtain ⟨v21, v22, v23, v24, v25, v26, v27, v28, v29, v30, v31, v32, v33, v34, v35, v36, v37, v38, v39, v40, v41, v42, v43, v44, rfl, F⟩ := hI
            simp only [Act.put, List.setIfInBounds_toArray, List.set_cons_zero, List.set_cons_succ]
            go_simp
            exact hK.out _ _ ⟨v21, v22, v23, v24, v25, _, v27, v28, v29, v30, v31, v32, v33, v34, v35, v36, v37, v38, v39, v40, v41, v42, v43, v44, by simp only [Act.put, List.setIfInBounds_toArray, List.set_cons_zero, List.set_cons_succ], ⟨F.qb, F.rb, fun h1 h2 => F.r0 (fun x => h1 (Or.inr x)) (fun x => h2 (Or.inr x)), fun h1 h2 => F.r1 (h1.resolve_left (by decide)) (fun x => h2 (Or.inr x)), fun h => F.r2 (h.resolve_left (by decide)), fun h => F.f0 (h.resolve_left (by decide)), fun h => F.f1 (h.resolve_left (by decide)), fun h => F.f2 (h.resolve_left (by decide)), fun h => F.f3 (h.resolve_left (by decide)), fun _ => rfl, fun h => F.f5 (h.resolve_left (by decide)), fun h => F.f6 (h.resolve_left (by decide)), fun h => F.f7 (h.resolve_left (by decide)), fun h => F.f8 (h.resolve_left (by decide)), fun h => F.f9 (h.resolve_left (by decide)), fun h => F.f10 (h.resolve_left (by decide)), fun h => F.f11 (h.resolve_left (by decide)), fun h => F.f12 (h.resolve_left (by decide)), fun h => F.f13 (h.resolve_left (by decide)), fun h => F.f14 (h.resolve_left (by decide)), fun h => F.f15 (h.resolve_left (by decide)), fun h => F.f16 (h.resolve_left (by decide)), fun h => F.f17 (h.resolve_left (by decide)), fun h => F.f18 (h.resolve_left (by decide)), fun h => F.f19 (h.resolve_left (by decide)), fun h => F.f20 (h.resolve_left (by decide)), fun h => F.f21 (h.resolve_left (by decide)), fun h => F.f22 (h.resolve_left (by decide)), fun h => F.f24 (h.resolve_left (by decide))⟩⟩
          refine StepsFrom.cons rfl (fun L a w' hI hno hdep hcl K hK => ?_) ?_
          · obtain ⟨v21, v22, v23, v24, v25, v26, v27, v28, v29, v30, v31, v32, v33, v34, v35, v36, v37, v38, v39, v40, v41, v42, v43, v44, rfl, F⟩ := hI
            have e26 := F.f4 (hdep 4 (by kernel_rfl))
            have cc := F.rb.c3
            have d0 := cc.1
            have d1 := cc.2.1
            have d2 := cc.2.2
            clear cc
            simp only [Act.put, List.setIfInBounds_toArray, List.set_cons_zero, List.set_cons_succ, e26]
            go_simp
            exact hK.out _ _ ⟨v21, v22, v23, v24, v25, v26, _, v28, v29, v30, v31, v32, v33, v34, v35, v36, v37, v38, v39, v40, v41, v42, v43, v44, by simp only [Act.put, List.setIfInBounds_toArray, List.set_cons_zero, List.set_cons_succ, e26], ⟨F.qb, F.rb, fun h1 h2 => F.r0 (fun x => h1 (Or.inr x)) (fun x => h2 (Or.inr x)), fun h1 h2 => F.r1 (h1.resolve_left (by decide)) (fun x => h2 (Or.inr x)), fun h => F.r2 (h.resolve_left (by decide)), fun h => F.f0 (h.resolve_left (by decide)), fun h => F.f1 (h.resolve_left (by decide)), fun h => F.f2 (h.resolve_left (by decide)), fun h => F.f3 (h.resolve_left (by decide)), fun h => F.f4 (h.resolve_left (by decide)), fun _ => rfl, fun h => F.f6 (h.resolve_left (by decide)), fun h => F.f7 (h.resolve_left (by decide)), fun h => F.f8 (h.resolve_left (by decide)), fun h => F.f9 (h.resolve_left (by decide)), fun h => F.f10 (h.resolve_left (by decide)), fun h => F.f11 (h.resolve_left (by decide)), fun h => F.f12 (h.resolve_left (by decide)), fun h => F.f13 (h.resolve_left (by decide)), fun h => F.f14 (h.resolve_left (by decide)), fun h => F.f15 (h.resolve_left (by decide)), fun h => F.f16 (h.resolve_left (by decide)), fun h => F.f17 (h.resolve_left (by decide)), fun h => F.f18 (h.resolve_left (by decide)), fun h => F.f19 (h.resolve_left (by decide)), fun h => F.f20 (h.resolve_left (by decide)), fun h => F.f21 (h.resolve_left (by decide)), fun h => F.f22 (h.resolve_left (by decide)), fun h => F.f24 (h.resolve_left (by decide))⟩⟩
          refine StepsFrom.cons rfl (fun L a w' hI hno hdep hcl K hK => ?_) ?_
          · obtain ⟨v21, v22, v23, v24, v25, v26, v27, v28, v29, v30, v31, v32, v33, v34, v35, v36, v37, v38, v39, v40, v41, v42, v43, v44, rfl, F⟩ := hI
            simp only [Act.put, List.setIfInBounds_toArray, List.set_cons_zero, List.set_cons_succ]
            go_simp
            exact hK.out _ _ ⟨v21, v22, v23, v24, v25, v26, v27, _, v29, v30, v31, v32, v33, v34, v35, v36, v37, v38, v39, v40, v41, v42, v43, v44, by simp only [Act.put, List.setIfInBounds_toArray, List.set_cons_zero, List.set_cons_succ], ⟨F.qb, F.rb, fun h1 h2 => F.r0 (fun x => h1 (Or.inr x)) (fun x => h2 (Or.inr x)), fun h1 h2 => F.r1 (h1.resolve_left (by decide)) (fun x => h2 (Or.inr x)), fun h => F.r2 (h.resolve_left (by decide)), fun h => F.f0 (h.resolve_left (by decide)), fun h => F.f1 (h.resolve_left (by decide)), fun h => F.f2 (h.resolve_left (by decide)), fun h => F.f3 (h.resolve_left (by decide)), fun h => F.f4 (h.resolve_left (by decide)), fun h => F.f5 (h.resolve_left (by decide)), fun _ => rfl, fun h => F.f7 (h.resolve_left (by decide)), fun h => F.f8 (h.resolve_left (by decide)), fun h => F.f9 (h.resolve_left (by decide)), fun h => F.f10 (h.resolve_left (by decide)), fun h => F.f11 (h.resolve_left (by decide)), fun h => F.f12 (h.resolve_left (by decide)), fun h => F.f13 (h.resolve_left (by decide)), fun h => F.f14 (h.resolve_left (by decide)), fun h => F.f15 (h.resolve_left (by decide)), fun h => F.f16 (h.resolve_left (by decide)), fun h => F.f17 (h.resolve_left (by decide)), fun h => F.f18 (h.resolve_left (by decide)), fun h => F.f19 (h.resolve_left (by decide)), fun h => F.f20 (h.resolve_left (by decide)), fun h => F.f21 (h.resolve_left (by decide)), fun h => F.f22 (h.resolve_left (by decide)), fun h => F.f24 (h.resolve_left (by decide))⟩⟩
          refine StepsFrom.cons rfl (fun L a w' hI hno hdep hcl K hK => ?_) ?_
          · obtain ⟨v21, v22, v23, v24, v25, v26, v27, v28, v29, v30, v31, v32, v33, v34, v35, v36, v37, v38, v39, v40, v41, v42, v43, v44, rfl, F⟩ := hI
            simp only [Act.put, List.setIfInBounds_toArray, List.set_cons_zero, List.set_cons_succ]
            go_simp
            exact hK.out _ _ ⟨v21, v22, v23, v24, v25, v26, v27, v28, _, v30, v31, v32, v33, v34, v35, v36, v37, v38, v39, v40, v41, v42, v43, v44, by simp only [Act.put, List.setIfInBounds_toArray, List.set_cons_zero, List.set_cons_succ], ⟨F.qb, F.rb, fun h1 h2 => F.r0 (fun x => h1 (Or.inr x)) (fun x => h2 (Or.inr x)), fun h1 h2 => F.r1 (h1.resolve_left (by decide)) (fun x => h2 (Or.inr x)), fun h => F.r2 (h.resolve_left (by decide)), fun h => F.f0 (h.resolve_left (by decide)), fun h => F.f1 (h.resolve_left (by decide)), fun h => F.f2 (h.resolve_left (by decide)), fun h => F.f3 (h.resolve_left (by decide)), fun h => F.f4 (h.resolve_left (by decide)), fun h => F.f5 (h.resolve_left (by decide)), fun h => F.f6 (h.resolve_left (by decide)), fun _ => rfl, fun h => F.f8 (h.resolve_left (by decide)), fun h => F.f9 (h.resolve_left (by decide)), fun h => F.f10 (h.resolve_left (by decide)), fun h => F.f11 (h.resolve_left (by decide)), fun h => F.f12 (h.resolve_left (by decide)), fun h => F.f13 (h.resolve_left (by decide)), fun h => F.f14 (h.resolve_left (by decide)), fun h => F.f15 (h.resolve_left (by decide)), fun h => F.f16 (h.resolve_left (by decide)), fun h => F.f17 (h.resolve_left (by decide)), fun h => F.f18 (h.resolve_left (by decide)), fun h => F.f19 (h.resolve_left (by decide)), fun h => F.f20 (h.resolve_left (by decide)), fun h => F.f21 (h.resolve_left (by decide)), fun h => F.f22 (h.resolve_left (by decide)), fun h => F.f24 (h.resolve_left (by decide))⟩⟩
          refine StepsFrom.cons rfl (fun L a w' hI hno hdep hcl K hK => ?_) ?_
          · obtain ⟨v21, v22, v23, v24, v25, v26, v27, v28, v29, v30, v31, v32, v33, v34, v35, v36, v37, v38, v39, v40, v41, v42, v43, v44, rfl, F⟩ := hI
            have e29 := F.f7 (hdep 7 (by kernel_rfl))
            have cc := F.rb.c3
            have d0 := cc.1
            have d1 := cc.2.1
            have d2 := cc.2.2
            clear cc
            simp only [Act.put, List.setIfInBounds_toArray, List.set_cons_zero, List.set_cons_succ, e29]
            go_simp
            exact hK.out _ _ ⟨v21, v22, v23, v24, v25, v26, v27, v28, v29, _, v31, v32, v33, v34, v35, v36, v37, v38, v39, v40, v41, v42, v43, v44, by simp only [Act.put, List.setIfInBounds_toArray, List.set_cons_zero, List.set_cons_succ, e29], ⟨F.qb, F.rb, fun h1 h2 => F.r0 (fun x => h1 (Or.inr x)) (fun x => h2 (Or.inr x)), fun h1 h2 => F.r1 (h1.resolve_left (by decide)) (fun x => h2 (Or.inr x)), fun h => F.r2 (h.resolve_left (by decide)), fun h => F.f0 (h.resolve_left (by decide)), fun h => F.f1 (h.resolve_left (by decide)), fun h => F.f2 (h.resolve_left (by decide)), fun h => F.f3 (h.resolve_left (by decide)), fun h => F.f4 (h.resolve_left (by decide)), fun h => F.f5 (h.resolve_left (by decide)), fun h => F.f6 (h.resolve_left (by decide)), fun h => F.f7 (h.resolve_left (by decide)), fun _ => rfl, fun h => F.f9 (h.resolve_left (by decide)), fun h => F.f10 (h.resolve_left (by decide)), fun h => F.f11 (h.resolve_left (by decide)), fun h => F.f12 (h.resolve_left (by decide)), fun h => F.f13 (h.resolve_left (by decide)), fun h => F.f14 (h.resolve_left (by decide)), fun h => F.f15 (h.resolve_left (by decide)), fun h => F.f16 (h.resolve_left (by decide)), fun h => F.f17 (h.resolve_left (by decide)), fun h => F.f18 (h.resolve_left (by decide)), fun h => F.f19 (h.resolve_left (by decide)), fun h => F.f20 (h.resolve_left (by decide)), fun h => F.f21 (h.resolve_left (by decide)), fun h => F.f22 (h.resolve_left (by decide)), fun h => F.f24 (h.resolve_left (by decide))⟩⟩
          refine StepsFrom.cons rfl (fun L a w' hI hno hdep hcl K hK => ?_) ?_
          · obtain ⟨v21, v22, v23, v24, v25, v26, v27, v28, v29, v30, v31, v32, v33, v34, v35, v36, v37, v38, v39, v40, v41, v42, v43, v44, rfl, F⟩ := hI
            have e28 := F.f6 (hdep 6 (by kernel_rfl))
            have e30 := F.f8 (hdep 8 (by kernel_rfl))
            simp only [Act.put, List.setIfInBounds_toArray, List.set_cons_zero, List.set_cons_succ, e28, e30]
            go_simp
            exact hK.out _ _ ⟨v21, v22, v23, v24, v25, v26, v27, v28, v29, v30, _, v32, v33, v34, v35, v36, v37, v38, v39, v40, v41, v42, v43, v44, by simp only [Act.put, List.setIfInBounds_toArray, List.set_cons_zero, List.set_cons_succ, e28, e30], ⟨F.qb, F.rb, fun h1 h2 => F.r0 (fun x => h1 (Or.inr x)) (fun x => h2 (Or.inr x)), fun h1 h2 => F.r1 (h1.resolve_left (by decide)) (fun x => h2 (Or.inr x)), fun h => F.r2 (h.resolve_left (by decide)), fun h => F.f0 (h.resolve_left (by decide)), fun h => F.f1 (h.resolve_left (by decide)), fun h => F.f2 (h.resolve_left (by decide)), fun h => F.f3 (h.resolve_left (by decide)), fun h => F.f4 (h.resolve_left (by decide)), fun h => F.f5 (h.resolve_left (by decide)), fun h => F.f6 (h.resolve_left (by decide)), fun h => F.f7 (h.resolve_left (by decide)), fun h => F.f8 (h.resolve_left (by decide)), fun _ => rfl, fun h => F.f10 (h.resolve_left (by decide)), fun h => F.f11 (h.resolve_left (by decide)), fun h => F.f12 (h.resolve_left (by decide)), fun h => F.f13 (h.resolve_left (by decide)), fun h => F.f14 (h.resolve_left (by decide)), fun h => F.f15 (h.resolve_left (by decide)), fun h => F.f16 (h.resolve_left (by decide)), fun h => F.f17 (h.resolve_left (by decide)), fun h => F.f18 (h.resolve_left (by decide)), fun h => F.f19 (h.resolve_left (by decide)), fun h => F.f20 (h.resolve_left (by decide)), fun h => F.f21 (h.resolve_left (by decide)), fun h => F.f22 (h.resolve_left (by decide)), fun h => F.f24 (h.resolve_left (by decide))⟩⟩
          refine StepsFrom.cons rfl (fun L a w' hI hno hdep hcl K hK => ?_) ?_
          · obtain ⟨v21, v22, v23, v24, v25, v26, v27, v28, v29, v30, v31, v32, v33, v34, v35, v36, v37, v38, v39, v40, v41, v42, v43, v44, rfl, F⟩ := hI
            have e31 := F.f9 (hdep 9 (by kernel_rfl))
            have n23 : ¬ L 23 := fun x => hno (hcl 23 10 (by kernel_rfl) x)
            have n25 : ¬ L 25 := fun x => hno (hcl 25 10 (by kernel_rfl) x)
            have cc := CA.out _ (F.r0 n23 n25)
            have d0 := cc.1.1
            have d1 := cc.1.2
            have d2 := cc.2.1
            have d3 := cc.2.2
            clear cc
            simp only [Act.put, List.setIfInBounds_toArray, List.set_cons_zero, List.set_cons_succ, e31]
            go_simp
            exact hK.out _ _ ⟨v21, v22, v23, v24, v25, v26, v27, v28, v29, v30, v31, _, v33, v34, v35, v36, v37, v38, v39, v40, v41, v42, v43, v44, by simp only [Act.put, List.setIfInBounds_toArray, List.set_cons_zero, List.set_cons_succ, e31], ⟨F.qb, F.rb, fun h1 h2 => F.r0 (fun x => h1 (Or.inr x)) (fun x => h2 (Or.inr x)), fun h1 h2 => F.r1 (h1.resolve_left (by decide)) (fun x => h2 (Or.inr x)), fun h => F.r2 (h.resolve_left (by decide)), fun h => F.f0 (h.resolve_left (by decide)), fun h => F.f1 (h.resolve_left (by decide)), fun h => F.f2 (h.resolve_left (by decide)), fun h => F.f3 (h.resolve_left (by decide)), fun h => F.f4 (h.resolve_left (by decide)), fun h => F.f5 (h.resolve_left (by decide)), fun h => F.f6 (h.resolve_left (by decide)), fun h => F.f7 (h.resolve_left (by decide)), fun h => F.f8 (h.resolve_left (by decide)), fun h => F.f9 (h.resolve_left (by decide)), fun _ => rfl, fun h => F.f11 (h.resolve_left (by decide)), fun h => F.f12 (h.resolve_left (by decide)), fun h => F.f13 (h.resolve_left (by decide)), fun h => F.f14 (h.resolve_left (by decide)), fun h => F.f15 (h.resolve_left (by decide)), fun h => F.f16 (h.resolve_left (by decide)), fun h => F.f17 (h.resolve_left (by decide)), fun h => F.f18 (h.resolve_left (by decide)), fun h => F.f19 (h.resolve_left (by decide)), fun h => F.f20 (h.resolve_left (by decide)), fun h => F.f21 (h.resolve_left (by decide)), fun h => F.f22 (h.resolve_left (by decide)), fun h => F.f24 (h.resolve_left (by decide))⟩⟩
          refine StepsFrom.cons rfl (fun L a w' hI hno hdep hcl K hK => ?_) ?_
          · obtain ⟨v21, v22, v23, v24, v25, v26, v27, v28, v29, v30, v31, v32, v33, v34, v35, v36, v37, v38, v39, v40, v41, v42, v43, v44, rfl, F⟩ := hI
            simp only [Act.put, List.setIfInBounds_toArray, List.set_cons_zero, List.set_cons_succ]
            go_simp
            exact hK.out _ _ ⟨v21, v22, v23, v24, v25, v26, v27, v28, v29, v30, v31, v32, _, v34, v35, v36, v37, v38, v39, v40, v41, v42, v43, v44, by simp only [Act.put, List.setIfInBounds_toArray, List.set_cons_zero, List.set_cons_succ], ⟨F.qb, F.rb, fun h1 h2 => F.r0 (fun x => h1 (Or.inr x)) (fun x => h2 (Or.inr x)), fun h1 h2 => F.r1 (h1.resolve_left (by decide)) (fun x => h2 (Or.inr x)), fun h => F.r2 (h.resolve_left (by decide)), fun h => F.f0 (h.resolve_left (by decide)), fun h => F.f1 (h.resolve_left (by decide)), fun h => F.f2 (h.resolve_left (by decide)), fun h => F.f3 (h.resolve_left (by decide)), fun h => F.f4 (h.resolve_left (by decide)), fun h => F.f5 (h.resolve_left (by decide)), fun h => F.f6 (h.resolve_left (by decide)), fun h => F.f7 (h.resolve_left (by decide)), fun h => F.f8 (h.resolve_left (by decide)), fun h => F.f9 (h.resolve_left (by decide)), fun h => F.f10 (h.resolve_left (by decide)), fun _ => rfl, fun h => F.f12 (h.resolve_left (by decide)), fun h => F.f13 (h.resolve_left (by decide)), fun h => F.f14 (h.resolve_left (by decide)), fun h => F.f15 (h.resolve_left (by decide)), fun h => F.f16 (h.resolve_left (by decide)), fun h => F.f17 (h.resolve_left (by decide)), fun h => F.f18 (h.resolve_left (by decide)), fun h => F.f19 (h.resolve_left (by decide)), fun h => F.f20 (h.resolve_left (by decide)), fun h => F.f21 (h.resolve_left (by decide)), fun h => F.f22 (h.resolve_left (by decide)), fun h => F.f24 (h.resolve_left (by decide))⟩⟩
          refine StepsFrom.cons rfl (fun L a w' hI hno hdep hcl K hK => ?_) ?_
          · obtain ⟨v21, v22, v23, v24, v25, v26, v27, v28, v29, v30, v31, v32, v33, v34, v35, v36, v37, v38, v39, v40, v41, v42, v43, v44, rfl, F⟩ := hI
            simp only [Act.put, List.setIfInBounds_toArray, List.set_cons_zero, List.set_cons_succ]
            go_simp
            exact hK.out _ _ ⟨v21, v22, v23, v24, v25, v26, v27, v28, v29, v30, v31, v32, v33, _, v35, v36, v37, v38, v39, v40, v41, v42, v43, v44, by simp only [Act.put, List.setIfInBounds_toArray, List.set_cons_zero, List.set_cons_succ], ⟨F.qb, F.rb, fun h1 h2 => F.r0 (fun x => h1 (Or.inr x)) (fun x => h2 (Or.inr x)), fun h1 h2 => F.r1 (h1.resolve_left (by decide)) (fun x => h2 (Or.inr x)), fun h => F.r2 (h.resolve_left (by decide)), fun h => F.f0 (h.resolve_left (by decide)), fun h => F.f1 (h.resolve_left (by decide)), fun h => F.f2 (h.resolve_left (by decide)), fun h => F.f3 (h.resolve_left (by decide)), fun h => F.f4 (h.resolve_left (by decide)), fun h => F.f5 (h.resolve_left (by decide)), fun h => F.f6 (h.resolve_left (by decide)), fun h => F.f7 (h.resolve_left (by decide)), fun h => F.f8 (h.resolve_left (by decide)), fun h => F.f9 (h.resolve_left (by decide)), fun h => F.f10 (h.resolve_left (by decide)), fun h => F.f11 (h.resolve_left (by decide)), fun _ => rfl, fun h => F.f13 (h.resolve_left (by decide)), fun h => F.f14 (h.resolve_left (by decide)), fun h => F.f15 (h.resolve_left (by decide)), fun h => F.f16 (h.resolve_left (by decide)), fun h => F.f17 (h.resolve_left (by decide)), fun h => F.f18 (h.resolve_left (by decide)), fun h => F.f19 (h.resolve_left (by decide)), fun h => F.f20 (h.resolve_left (by decide)), fun h => F.f21 (h.resolve_left (by decide)), fun h => F.f22 (h.resolve_left (by decide)), fun h => F.f24 (h.resolve_left (by decide))⟩⟩
          refine StepsFrom.cons rfl (fun L a w' hI hno hdep hcl K hK => ?_) ?_
          · obtain ⟨v21, v22, v23, v24, v25, v26, v27, v28, v29, v30, v31, v32, v33, v34, v35, v36, v37, v38, v39, v40, v41, v42, v43, v44, rfl, F⟩ := hI
            have e34 := F.f12 (hdep 12 (by kernel_rfl))
            have cc := F.rb.c3
            have d0 := cc.1
            have d1 := cc.2.1
            have d2 := cc.2.2
            clear cc
            simp only [Act.put, List.setIfInBounds_toArray, List.set_cons_zero, List.set_cons_succ, e34]
            go_simp
            exact hK.out _ _ ⟨v21, v22, v23, v24, v25, v26, v27, v28, v29, v30, v31, v32, v33, v34, _, v36, v37, v38, v39, v40, v41, v42, v43, v44, by simp only [Act.put, List.setIfInBounds_toArray, List.set_cons_zero, List.set_cons_succ, e34], ⟨F.qb, F.rb, fun h1 h2 => F.r0 (fun x => h1 (Or.inr x)) (fun x => h2 (Or.inr x)), fun h1 h2 => F.r1 (h1.resolve_left (by decide)) (fun x => h2 (Or.inr x)), fun h => F.r2 (h.resolve_left (by decide)), fun h => F.f0 (h.resolve_left (by decide)), fun h => F.f1 (h.resolve_left (by decide)), fun h => F.f2 (h.resolve_left (by decide)), fun h => F.f3 (h.resolve_left (by decide)), fun h => F.f4 (h.resolve_left (by decide)), fun h => F.f5 (h.resolve_left (by decide)), fun h => F.f6 (h.resolve_left (by decide)), fun h => F.f7 (h.resolve_left (by decide)), fun h => F.f8 (h.resolve_left (by decide)), fun h => F.f9 (h.resolve_left (by decide)), fun h => F.f10 (h.resolve_left (by decide)), fun h => F.f11 (h.resolve_left (by decide)), fun h => F.f12 (h.resolve_left (by decide)), fun _ => rfl, fun h => F.f14 (h.resolve_left (by decide)), fun h => F.f15 (h.resolve_left (by decide)), fun h => F.f16 (h.resolve_left (by decide)), fun h => F.f17 (h.resolve_left (by decide)), fun h => F.f18 (h.resolve_left (by decide)), fun h => F.f19 (h.resolve_left (by decide)), fun h => F.f20 (h.resolve_left (by decide)), fun h => F.f21 (h.resolve_left (by decide)), fun h => F.f22 (h.resolve_left (by decide)), fun h => F.f24 (h.resolve_left (by decide))⟩⟩
          refine StepsFrom.cons rfl (fun L a w' hI hno hdep hcl K hK => ?_) ?_
          · obtain ⟨v21, v22, v23, v24, v25, v26, v27, v28, v29, v30, v31, v32, v33, v34, v35, v36, v37, v38, v39, v40, v41, v42, v43, v44, rfl, F⟩ := hI
            have e33 := F.f11 (hdep 11 (by kernel_rfl))
            have e35 := F.f13 (hdep 13 (by kernel_rfl))
            simp only [Act.put, List.setIfInBounds_toArray, List.set_cons_zero, List.set_cons_succ, e33, e35]
            go_simp
            exact hK.out _ _ ⟨v21, v22, v23, v24, v25, v26, v27, v28, v29, v30, v31, v32, v33, v34, v35, _, v37, v38, v39, v40, v41, v42, v43, v44, by simp only [Act.put, List.setIfInBounds_toArray, List.set_cons_zero, List.set_cons_succ, e33, e35], ⟨F.qb, F.rb, fun h1 h2 => F.r0 (fun x => h1 (Or.inr x)) (fun x => h2 (Or.inr x)), fun h1 h2 => F.r1 (h1.resolve_left (by decide)) (fun x => h2 (Or.inr x)), fun h => F.r2 (h.resolve_left (by decide)), fun h => F.f0 (h.resolve_left (by decide)), fun h => F.f1 (h.resolve_left (by decide)), fun h => F.f2 (h.resolve_left (by decide)), fun h => F.f3 (h.resolve_left (by decide)), fun h => F.f4 (h.resolve_left (by decide)), fun h => F.f5 (h.resolve_left (by decide)), fun h => F.f6 (h.resolve_left (by decide)), fun h => F.f7 (h.resolve_left (by decide)), fun h => F.f8 (h.resolve_left (by decide)), fun h => F.f9 (h.resolve_left (by decide)), fun h => F.f10 (h.resolve_left (by decide)), fun h => F.f11 (h.resolve_left (by decide)), fun h => F.f12 (h.resolve_left (by decide)), fun h => F.f13 (h.resolve_left (by decide)), fun _ => rfl, fun h => F.f15 (h.resolve_left (by decide)), fun h => F.f16 (h.resolve_left (by decide)), fun h => F.f17 (h.resolve_left (by decide)), fun h => F.f18 (h.resolve_left (by decide)), fun h => F.f19 (h.resolve_left (by decide)), fun h => F.f20 (h.resolve_left (by decide)), fun h => F.f21 (h.resolve_left (by decide)), fun h => F.f22 (h.resolve_left (by decide)), fun h => F.f24 (h.resolve_left (by decide))⟩⟩
          refine StepsFrom.cons rfl (fun L a w' hI hno hdep hcl K hK => ?_) ?_
          · obtain ⟨v21, v22, v23, v24, v25, v26, v27, v28, v29, v30, v31, v32, v33, v34, v35, v36, v37, v38, v39, v40, v41, v42, v43, v44, rfl, F⟩ := hI
            have e36 := F.f14 (hdep 14 (by kernel_rfl))
            have n23 : ¬ L 23 := fun x => hno (hcl 23 15 (by kernel_rfl) x)
            have n25 : ¬ L 25 := fun x => hno (hcl 25 15 (by kernel_rfl) x)
            have cc := CA.out _ (F.r0 n23 n25)
            have d0 := cc.1.1
            have d1 := cc.1.2
            have d2 := cc.2.1
            have d3 := cc.2.2
            clear cc
            simp only [Act.put, List.setIfInBounds_toArray, List.set_cons_zero, List.set_cons_succ, e36]
            go_simp
            exact hK.out _ _ ⟨v21, v22, v23, v24, v25, v26, v27, v28, v29, v30, v31, v32, v33, v34, v35, v36, _, v38, v39, v40, v41, v42, v43, v44, by simp only [Act.put, List.setIfInBounds_toArray, List.set_cons_zero, List.set_cons_succ, e36], ⟨F.qb, F.rb, fun h1 h2 => F.r0 (fun x => h1 (Or.inr x)) (fun x => h2 (Or.inr x)), fun h1 h2 => F.r1 (h1.resolve_left (by decide)) (fun x => h2 (Or.inr x)), fun h => F.r2 (h.resolve_left (by decide)), fun h => F.f0 (h.resolve_left (by decide)), fun h => F.f1 (h.resolve_left (by decide)), fun h => F.f2 (h.resolve_left (by decide)), fun h => F.f3 (h.resolve_left (by decide)), fun h => F.f4 (h.resolve_left (by decide)), fun h => F.f5 (h.resolve_left (by decide)), fun h => F.f6 (h.resolve_left (by decide)), fun h => F.f7 (h.resolve_left (by decide)), fun h => F.f8 (h.resolve_left (by decide)), fun h => F.f9 (h.resolve_left (by decide)), fun h => F.f10 (h.resolve_left (by decide)), fun h => F.f11 (h.resolve_left (by decide)), fun h => F.f12 (h.resolve_left (by decide)), fun h => F.f13 (h.resolve_left (by decide)), fun h => F.f14 (h.resolve_left (by decide)), fun _ => rfl, fun h => F.f16 (h.resolve_left (by decide)), fun h => F.f17 (h.resolve_left (by decide)), fun h => F.f18 (h.resolve_left (by decide)), fun h => F.f19 (h.resolve_left (by decide)), fun h => F.f20 (h.resolve_left (by decide)), fun h => F.f21 (h.resolve_left (by decide)), fun h => F.f22 (h.resolve_left (by decide)), fun h => F.f24 (h.resolve_left (by decide))⟩⟩
          refine StepsFrom.cons rfl (fun L a w' hI hno hdep hcl K hK => ?_) ?_
          · obtain ⟨v21, v22, v23, v24, v25, v26, v27, v28, v29, v30, v31, v32, v33, v34, v35, v36, v37, v38, v39, v40, v41, v42, v43, v44, rfl, F⟩ := hI
            simp only [Act.put, List.setIfInBounds_toArray, List.set_cons_zero, List.set_cons_succ]
            go_simp
            exact hK.out _ _ ⟨v21, v22, v23, v24, v25, v26, v27, v28, v29, v30, v31, v32, v33, v34, v35, v36, v37, _, v39, v40, v41, v42, v43, v44, by simp only [Act.put, List.setIfInBounds_toArray, List.set_cons_zero, List.set_cons_succ], ⟨F.qb, F.rb, fun h1 h2 => F.r0 (fun x => h1 (Or.inr x)) (fun x => h2 (Or.inr x)), fun h1 h2 => F.r1 (h1.resolve_left (by decide)) (fun x => h2 (Or.inr x)), fun h => F.r2 (h.resolve_left (by decide)), fun h => F.f0 (h.resolve_left (by decide)), fun h => F.f1 (h.resolve_left (by decide)), fun h => F.f2 (h.resolve_left (by decide)), fun h => F.f3 (h.resolve_left (by decide)), fun h => F.f4 (h.resolve_left (by decide)), fun h => F.f5 (h.resolve_left (by decide)), fun h => F.f6 (h.resolve_left (by decide)), fun h => F.f7 (h.resolve_left (by decide)), fun h => F.f8 (h.resolve_left (by decide)), fun h => F.f9 (h.resolve_left (by decide)), fun h => F.f10 (h.resolve_left (by decide)), fun h => F.f11 (h.resolve_left (by decide)), fun h => F.f12 (h.resolve_left (by decide)), fun h => F.f13 (h.resolve_left (by decide)), fun h => F.f14 (h.resolve_left (by decide)), fun h => F.f15 (h.resolve_left (by decide)), fun _ => rfl, fun h => F.f17 (h.resolve_left (by decide)), fun h => F.f18 (h.resolve_left (by decide)), fun h => F.f19 (h.resolve_left (by decide)), fun h => F.f20 (h.resolve_left (by decide)), fun h => F.f21 (h.resolve_left (by decide)), fun h => F.f22 (h.resolve_left (by decide)), fun h => F.f24 (h.resolve_left (by decide))⟩⟩
          refine StepsFrom.cons rfl (fun L a w' hI hno hdep hcl K hK => ?_) ?_
          · obtain ⟨v21, v22, v23, v24, v25, v26, v27, v28, v29, v30, v31, v32, v33, v34, v35, v36, v37, v38, v39, v40, v41, v42, v43, v44, rfl, F⟩ := hI
            have e38 := F.f16 (hdep 16 (by kernel_rfl))
            have cc := F.rb.c3
            have d0 := cc.1
            have d1 := cc.2.1
            have d2 := cc.2.2
            clear cc
            simp only [Act.put, List.setIfInBounds_toArray, List.set_cons_zero, List.set_cons_succ, e38]
            go_simp
            exact hK.out _ _ ⟨v21, v22, v23, v24, v25, v26, v27, v28, v29, v30, v31, v32, v33, v34, v35, v36, v37, v38, _, v40, v41, v42, v43, v44, by simp only [Act.put, List.setIfInBounds_toArray, List.set_cons_zero, List.set_cons_succ, e38], ⟨F.qb, F.rb, fun h1 h2 => F.r0 (fun x => h1 (Or.inr x)) (fun x => h2 (Or.inr x)), fun h1 h2 => F.r1 (h1.resolve_left (by decide)) (fun x => h2 (Or.inr x)), fun h => F.r2 (h.resolve_left (by decide)), fun h => F.f0 (h.resolve_left (by decide)), fun h => F.f1 (h.resolve_left (by decide)), fun h => F.f2 (h.resolve_left (by decide)), fun h => F.f3 (h.resolve_left (by decide)), fun h => F.f4 (h.resolve_left (by decide)), fun h => F.f5 (h.resolve_left (by decide)), fun h => F.f6 (h.resolve_left (by decide)), fun h => F.f7 (h.resolve_left (by decide)), fun h => F.f8 (h.resolve_left (by decide)), fun h => F.f9 (h.resolve_left (by decide)), fun h => F.f10 (h.resolve_left (by decide)), fun h => F.f11 (h.resolve_left (by decide)), fun h => F.f12 (h.resolve_left (by decide)), fun h => F.f13 (h.resolve_left (by decide)), fun h => F.f14 (h.resolve_left (by decide)), fun h => F.f15 (h.resolve_left (by decide)), fun h => F.f16 (h.resolve_left (by decide)), fun _ => rfl, fun h => F.f18 (h.resolve_left (by decide)), fun h => F.f19 (h.resolve_left (by decide)), fun h => F.f20 (h.resolve_left (by decide)), fun h => F.f21 (h.resolve_left (by decide)), fun h => F.f22 (h.resolve_left (by decide)), fun h => F.f24 (h.resolve_left (by decide))⟩⟩
          refine StepsFrom.cons rfl (fun L a w' hI hno hdep hcl K hK => ?_) ?_
          · obtain ⟨v21, v22, v23, v24, v25, v26, v27, v28, v29, v30, v31, v32, v33, v34, v35, v36, v37, v38, v39, v40, v41, v42, v43, v44, rfl, F⟩ := hI
            have e32 := F.f10 (hdep 10 (by kernel_rfl))
            have e37 := F.f15 (hdep 15 (by kernel_rfl))
            have e39 := F.f17 (hdep 17 (by kernel_rfl))
            have n23 : ¬ L 23 := fun x => hno (hcl 23 18 (by kernel_rfl) x)
            have n25 : ¬ L 25 := fun x => hno (hcl 25 18 (by kernel_rfl) x)
            have q := F.qb.size
            simp only [Act.put, List.setIfInBounds_toArray, List.set_cons_zero, List.set_cons_succ, e32, e37, e39]
            go_simp
            refine (CM.out w' (T.out w' F.qb) (by omega)).mono ?_
            rintro e w4 ⟨rfl, hb4⟩
            exact hK.out _ _ ⟨v21, v22, v23, v24, v25, v26, v27, v28, v29, v30, v31, v32, v33, v34, v35, v36, v37, v38, v39, _, v41, v42, v43, v44, by simp only [Act.put, List.setIfInBounds_toArray, List.set_cons_zero, List.set_cons_succ, e32, e37, e39], ⟨F.qb.trans (hb4.mono F.qb.size), F.rb.below hb4 F.rb.lt, fun _ _ => (F.r0 n23 n25).below hb4 (F.r0 n23 n25).lt, fun h _ => absurd (h.resolve_left (by decide)) n23, fun h => absurd (h.resolve_left (by decide)) n25, fun h => F.f0 (h.resolve_left (by decide)), fun h => F.f1 (h.resolve_left (by decide)), fun h => F.f2 (h.resolve_left (by decide)), fun h => F.f3 (h.resolve_left (by decide)), fun h => F.f4 (h.resolve_left (by decide)), fun h => F.f5 (h.resolve_left (by decide)), fun h => F.f6 (h.resolve_left (by decide)), fun h => F.f7 (h.resolve_left (by decide)), fun h => F.f8 (h.resolve_left (by decide)), fun h => F.f9 (h.resolve_left (by decide)), fun h => F.f10 (h.resolve_left (by decide)), fun h => F.f11 (h.resolve_left (by decide)), fun h => F.f12 (h.resolve_left (by decide)), fun h => F.f13 (h.resolve_left (by decide)), fun h => F.f14 (h.resolve_left (by decide)), fun h => F.f15 (h.resolve_left (by decide)), fun h => F.f16 (h.resolve_left (by decide)), fun h => F.f17 (h.resolve_left (by decide)), fun _ => rfl, fun h => F.f19 (h.resolve_left (by decide)), fun h => F.f20 (h.resolve_left (by decide)), fun h => F.f21 (h.resolve_left (by decide)), fun h => F.f22 (h.resolve_left (by decide)), fun h => F.f24 (h.resolve_left (by decide))⟩⟩
          refine StepsFrom.cons rfl (fun L a w' hI hno hdep hcl K hK => ?_) ?_
          · obtain ⟨v21, v22, v23, v24, v25, v26, v27, v28, v29, v30, v31, v32, v33, v34, v35, v36, v37, v38, v39, v40, v41, v42, v43, v44, rfl, F⟩ := hI
            have e40 := F.f18 (hdep 18 (by kernel_rfl))
            simp only [Act.put, List.setIfInBounds_toArray, List.set_cons_zero, List.set_cons_succ, e40]
            go_simp
            exact hK.out _ _ ⟨_, v22, v23, v24, v25, v26, v27, v28, v29, v30, v31, v32, v33, v34, v35, v36, v37, v38, v39, v40, v41, v42, v43, v44, by simp only [Act.put, List.setIfInBounds_toArray, List.set_cons_zero, List.set_cons_succ, e40], ⟨F.qb, F.rb, fun h1 h2 => F.r0 (fun x => h1 (Or.inr x)) (fun x => h2 (Or.inr x)), fun h1 h2 => F.r1 (h1.resolve_left (by decide)) (fun x => h2 (Or.inr x)), fun h => F.r2 (h.resolve_left (by decide)), fun h => F.f0 (h.resolve_left (by decide)), fun h => F.f1 (h.resolve_left (by decide)), fun h => F.f2 (h.resolve_left (by decide)), fun h => F.f3 (h.resolve_left (by decide)), fun h => F.f4 (h.resolve_left (by decide)), fun h => F.f5 (h.resolve_left (by decide)), fun h => F.f6 (h.resolve_left (by decide)), fun h => F.f7 (h.resolve_left (by decide)), fun h => F.f8 (h.resolve_left (by decide)), fun h => F.f9 (h.resolve_left (by decide)), fun h => F.f10 (h.resolve_left (by decide)), fun h => F.f11 (h.resolve_left (by decide)), fun h => F.f12 (h.resolve_left (by decide)), fun h => F.f13 (h.resolve_left (by decide)), fun h => F.f14 (h.resolve_left (by decide)), fun h => F.f15 (h.resolve_left (by decide)), fun h => F.f16 (h.resolve_left (by decide)), fun h => F.f17 (h.resolve_left (by decide)), fun h => F.f18 (h.resolve_left (by decide)), fun _ => rfl, fun h => F.f20 (h.resolve_left (by decide)), fun h => F.f21 (h.resolve_left (by decide)), fun h => F.f22 (h.resolve_left (by decide)), fun h => F.f24 (h.resolve_left (by decide))⟩⟩
          refine StepsFrom.cons rfl (fun L a w' hI hno hdep hcl K hK => ?_) ?_
          · obtain ⟨v21, v22, v23, v24, v25, v26, v27, v28, v29, v30, v31, v32, v33, v34, v35, v36, v37, v38, v39, v40, v41, v42, v43, v44, rfl, F⟩ := hI
            have e21 := F.f19 (hdep 19 (by kernel_rfl))
            simp only [Act.put, List.setIfInBounds_toArray, List.set_cons_zero, List.set_cons_succ, e21]
            go_simp
            exact hK.out _ _ ⟨v21, v22, v23, v24, v25, v26, v27, v28, v29, v30, v31, v32, v33, v34, v35, v36, v37, v38, v39, v40, _, v42, v43, v44, by simp only [Act.put, List.setIfInBounds_toArray, List.set_cons_zero, List.set_cons_succ, e21], ⟨F.qb, F.rb, fun h1 h2 => F.r0 (fun x => h1 (Or.inr x)) (fun x => h2 (Or.inr x)), fun h1 h2 => F.r1 (h1.resolve_left (by decide)) (fun x => h2 (Or.inr x)), fun h => F.r2 (h.resolve_left (by decide)), fun h => F.f0 (h.resolve_left (by decide)), fun h => F.f1 (h.resolve_left (by decide)), fun h => F.f2 (h.resolve_left (by decide)), fun h => F.f3 (h.resolve_left (by decide)), fun h => F.f4 (h.resolve_left (by decide)), fun h => F.f5 (h.resolve_left (by decide)), fun h => F.f6 (h.resolve_left (by decide)), fun h => F.f7 (h.resolve_left (by decide)), fun h => F.f8 (h.resolve_left (by decide)), fun h => F.f9 (h.resolve_left (by decide)), fun h => F.f10 (h.resolve_left (by decide)), fun h => F.f11 (h.resolve_left (by decide)), fun h => F.f12 (h.resolve_left (by decide)), fun h => F.f13 (h.resolve_left (by decide)), fun h => F.f14 (h.resolve_left (by decide)), fun h => F.f15 (h.resolve_left (by decide)), fun h => F.f16 (h.resolve_left (by decide)), fun h => F.f17 (h.resolve_left (by decide)), fun h => F.f18 (h.resolve_left (by decide)), fun h => F.f19 (h.resolve_left (by decide)), fun _ => rfl, fun h => F.f21 (h.resolve_left (by decide)), fun h => F.f22 (h.resolve_left (by decide)), fun h => F.f24 (h.resolve_left (by decide))⟩⟩
          refine StepsFrom.cons rfl (fun L a w' hI hno hdep hcl K hK => ?_) ?_
          · obtain ⟨v21, v22, v23, v24, v25, v26, v27, v28, v29, v30, v31, v32, v33, v34, v35, v36, v37, v38, v39, v40, v41, v42, v43, v44, rfl, F⟩ := hI
            have e21 := F.f19 (hdep 19 (by kernel_rfl))
            simp only [Act.put, List.setIfInBounds_toArray, List.set_cons_zero, List.set_cons_succ, e21]
            go_simp
            exact hK.out _ _ ⟨v21, v22, v23, v24, v25, v26, v27, v28, v29, v30, v31, v32, v33, v34, v35, v36, v37, v38, v39, v40, v41, _, v43, v44, by simp only [Act.put, List.setIfInBounds_toArray, List.set_cons_zero, List.set_cons_succ, e21], ⟨F.qb, F.rb, fun h1 h2 => F.r0 (fun x => h1 (Or.inr x)) (fun x => h2 (Or.inr x)), fun h1 h2 => F.r1 (h1.resolve_left (by decide)) (fun x => h2 (Or.inr x)), fun h => F.r2 (h.resolve_left (by decide)), fun h => F.f0 (h.resolve_left (by decide)), fun h => F.f1 (h.resolve_left (by decide)), fun h => F.f2 (h.resolve_left (by decide)), fun h => F.f3 (h.resolve_left (by decide)), fun h => F.f4 (h.resolve_left (by decide)), fun h => F.f5 (h.resolve_left (by decide)), fun h => F.f6 (h.resolve_left (by decide)), fun h => F.f7 (h.resolve_left (by decide)), fun h => F.f8 (h.resolve_left (by decide)), fun h => F.f9 (h.resolve_left (by decide)), fun h => F.f10 (h.resolve_left (by decide)), fun h => F.f11 (h.resolve_left (by decide)), fun h => F.f12 (h.resolve_left (by decide)), fun h => F.f13 (h.resolve_left (by decide)), fun h => F.f14 (h.resolve_left (by decide)), fun h => F.f15 (h.resolve_left (by decide)), fun h => F.f16 (h.resolve_left (by decide)), fun h => F.f17 (h.resolve_left (by decide)), fun h => F.f18 (h.resolve_left (by decide)), fun h => F.f19 (h.resolve_left (by decide)), fun h => F.f20 (h.resolve_left (by decide)), fun _ => rfl, fun h => F.f22 (h.resolve_left (by decide)), fun h => F.f24 (h.resolve_left (by decide))⟩⟩
          refine StepsFrom.cons rfl (fun L a w' hI hno hdep hcl K hK => ?_) ?_
          · obtain ⟨v21, v22, v23, v24, v25, v26, v27, v28, v29, v30, v31, v32, v33, v34, v35, v36, v37, v38, v39, v40, v41, v42, v43, v44, rfl, F⟩ := hI
            have e22 := F.f0 (hdep 0 (by kernel_rfl))
            have e24 := F.f2 (hdep 2 (by kernel_rfl))
            simp only [Act.put, List.setIfInBounds_toArray, List.set_cons_zero, List.set_cons_succ, e22, e24]
            go_simp
            exact hK.out _ _ ⟨v21, v22, v23, v24, v25, v26, v27, v28, v29, v30, v31, v32, v33, v34, v35, v36, v37, v38, v39, v40, v41, v42, _, v44, by simp only [Act.put, List.setIfInBounds_toArray, List.set_cons_zero, List.set_cons_succ, e22, e24], ⟨F.qb, F.rb, fun h1 h2 => F.r0 (fun x => h1 (Or.inr x)) (fun x => h2 (Or.inr x)), fun h1 h2 => F.r1 (h1.resolve_left (by decide)) (fun x => h2 (Or.inr x)), fun h => F.r2 (h.resolve_left (by decide)), fun h => F.f0 (h.resolve_left (by decide)), fun h => F.f1 (h.resolve_left (by decide)), fun h => F.f2 (h.resolve_left (by decide)), fun h => F.f3 (h.resolve_left (by decide)), fun h => F.f4 (h.resolve_left (by decide)), fun h => F.f5 (h.resolve_left (by decide)), fun h => F.f6 (h.resolve_left (by decide)), fun h => F.f7 (h.resolve_left (by decide)), fun h => F.f8 (h.resolve_left (by decide)), fun h => F.f9 (h.resolve_left (by decide)), fun h => F.f10 (h.resolve_left (by decide)), fun h => F.f11 (h.resolve_left (by decide)), fun h => F.f12 (h.resolve_left (by decide)), fun h => F.f13 (h.resolve_left (by decide)), fun h => F.f14 (h.resolve_left (by decide)), fun h => F.f15 (h.resolve_left (by decide)), fun h => F.f16 (h.resolve_left (by decide)), fun h => F.f17 (h.resolve_left (by decide)), fun h => F.f18 (h.resolve_left (by decide)), fun h => F.f19 (h.resolve_left (by decide)), fun h => F.f20 (h.resolve_left (by decide)), fun h => F.f21 (h.resolve_left (by decide)), fun _ => rfl, fun h => F.f24 (h.resolve_left (by decide))⟩⟩
          refine StepsFrom.cons rfl (fun L a w' hI hno hdep hcl K hK => ?_) ?_
          · obtain ⟨v21, v22, v23, v24, v25, v26, v27, v28, v29, v30, v31, v32, v33, v34, v35, v36, v37, v38, v39, v40, v41, v42, v43, v44, rfl, F⟩ := hI
            have e41 := F.f20 (hdep 20 (by kernel_rfl))
            have e43 := F.f22 (hdep 22 (by kernel_rfl))
            have n25 : ¬ L 25 := fun x => hno (hcl 25 23 (by kernel_rfl) x)
            have hR := F.r0 hno n25
            have cc := CA.out _ hR
            have d0 := cc.1.1
            have d1 := cc.1.2
            clear cc
            have hf := hR.frozen
            simp only [Act.put, List.setIfInBounds_toArray, List.set_cons_zero, List.set_cons_succ, e41, e43]
            go_simp
            exact hK.out _ _ ⟨v21, v22, v23, v24, v25, v26, v27, v28, v29, v30, v31, v32, v33, v34, v35, v36, v37, v38, v39, v40, v41, v42, v43, v44, by simp only [Act.put, List.setIfInBounds_toArray, List.set_cons_zero, List.set_cons_succ, e41, e43], ⟨(F.qb.setCell (p := ⟨g, i * 2, none⟩) hlo' _).setCell (p := ⟨g, i * 2 + 1, none⟩) hlo' _, (F.rb.other hnb _).other hnb _, fun h => absurd (Or.inl rfl) h, fun _ _ => rat_set hR i HIL.out u1 u2, fun h => absurd (h.resolve_left (by decide)) n25, fun h => F.f0 (h.resolve_left (by decide)), fun h => F.f1 (h.resolve_left (by decide)), fun h => F.f2 (h.resolve_left (by decide)), fun h => F.f3 (h.resolve_left (by decide)), fun h => F.f4 (h.resolve_left (by decide)), fun h => F.f5 (h.resolve_left (by decide)), fun h => F.f6 (h.resolve_left (by decide)), fun h => F.f7 (h.resolve_left (by decide)), fun h => F.f8 (h.resolve_left (by decide)), fun h => F.f9 (h.resolve_left (by decide)), fun h => F.f10 (h.resolve_left (by decide)), fun h => F.f11 (h.resolve_left (by decide)), fun h => F.f12 (h.resolve_left (by decide)), fun h => F.f13 (h.resolve_left (by decide)), fun h => F.f14 (h.resolve_left (by decide)), fun h => F.f15 (h.resolve_left (by decide)), fun h => F.f16 (h.resolve_left (by decide)), fun h => F.f17 (h.resolve_left (by decide)), fun h => F.f18 (h.resolve_left (by decide)), fun h => F.f19 (h.resolve_left (by decide)), fun h => F.f20 (h.resolve_left (by decide)), fun h => F.f21 (h.resolve_left (by decide)), fun h => F.f22 (h.resolve_left (by decide)), fun h => F.f24 (h.resolve_left (by decide))⟩⟩
          refine StepsFrom.cons rfl (fun L a w' hI hno hdep hcl K hK => ?_) ?_
          · obtain ⟨v21, v22, v23, v24, v25, v26, v27, v28, v29, v30, v31, v32, v33, v34, v35, v36, v37, v38, v39, v40, v41, v42, v43, v44, rfl, F⟩ := hI
            have e25 := F.f3 (hdep 3 (by kernel_rfl))
            have e27 := F.f5 (hdep 5 (by kernel_rfl))
            simp only [Act.put, List.setIfInBounds_toArray, List.set_cons_zero, List.set_cons_succ, e25, e27]
            go_simp
            exact hK.out _ _ ⟨v21, v22, v23, v24, v25, v26, v27, v28, v29, v30, v31, v32, v33, v34, v35, v36, v37, v38, v39, v40, v41, v42, v43, _, by simp only [Act.put, List.setIfInBounds_toArray, List.set_cons_zero, List.set_cons_succ, e25, e27], ⟨F.qb, F.rb, fun h1 h2 => F.r0 (fun x => h1 (Or.inr x)) (fun x => h2 (Or.inr x)), fun h1 h2 => F.r1 (h1.resolve_left (by decide)) (fun x => h2 (Or.inr x)), fun h => F.r2 (h.resolve_left (by decide)), fun h => F.f0 (h.resolve_left (by decide)), fun h => F.f1 (h.resolve_left (by decide)), fun h => F.f2 (h.resolve_left (by decide)), fun h => F.f3 (h.resolve_left (by decide)), fun h => F.f4 (h.resolve_left (by decide)), fun h => F.f5 (h.resolve_left (by decide)), fun h => F.f6 (h.resolve_left (by decide)), fun h => F.f7 (h.resolve_left (by decide)), fun h => F.f8 (h.resolve_left (by decide)), fun h => F.f9 (h.resolve_left (by decide)), fun h => F.f10 (h.resolve_left (by decide)), fun h => F.f11 (h.resolve_left (by decide)), fun h => F.f12 (h.resolve_left (by decide)), fun h => F.f13 (h.resolve_left (by decide)), fun h => F.f14 (h.resolve_left (by decide)), fun h => F.f15 (h.resolve_left (by decide)), fun h => F.f16 (h.resolve_left (by decide)), fun h => F.f17 (h.resolve_left (by decide)), fun h => F.f18 (h.resolve_left (by decide)), fun h => F.f19 (h.resolve_left (by decide)), fun h => F.f20 (h.resolve_left (by decide)), fun h => F.f21 (h.resolve_left (by decide)), fun h => F.f22 (h.resolve_left (by decide)), fun _ => rfl⟩⟩
          refine StepsFrom.cons rfl (fun L a w' hI hno hdep hcl K hK => ?_) ?_
          · obtain ⟨v21, v22, v23, v24, v25, v26, v27, v28, v29, v30, v31, v32, v33, v34, v35, v36, v37, v38, v39, v40, v41, v42, v43, v44, rfl, F⟩ := hI
            have e42 := F.f21 (hdep 21 (by kernel_rfl))
            have e44 := F.f24 (hdep 24 (by kernel_rfl))
            have hR := F.r1 (hdep 23 (by kernel_rfl)) hno
            have cc := CB.out _ hR
            have d2 := cc.1
            have d3 := cc.2
            clear cc
            have hf := hR.frozen
            simp only [Act.put, List.setIfInBounds_toArray, List.set_cons_zero, List.set_cons_succ, e42, e44]
            go_simp
            exact hK.out _ _ ⟨v21, v22, v23, v24, v25, v26, v27, v28, v29, v30, v31, v32, v33, v34, v35, v36, v37, v38, v39, v40, v41, v42, v43, v44, by simp only [Act.put, List.setIfInBounds_toArray, List.set_cons_zero, List.set_cons_succ, e42, e44], ⟨(F.qb.setCell (p := ⟨g, j * 2, none⟩) hlo' _).setCell (p := ⟨g, j * 2 + 1, none⟩) hlo' _, (F.rb.other hnb _).other hnb _, fun _ h => absurd (Or.inl rfl) h, fun _ h => absurd (Or.inl rfl) h, fun _ => rat_set hR j HJL2.out u3 u4, fun h => F.f0 (h.resolve_left (by decide)), fun h => F.f1 (h.resolve_left (by decide)), fun h => F.f2 (h.resolve_left (by decide)), fun h => F.f3 (h.resolve_left (by decide)), fun h => F.f4 (h.resolve_left (by decide)), fun h => F.f5 (h.resolve_left (by decide)), fun h => F.f6 (h.resolve_left (by decide)), fun h => F.f7 (h.resolve_left (by decide)), fun h => F.f8 (h.resolve_left (by decide)), fun h => F.f9 (h.resolve_left (by decide)), fun h => F.f10 (h.resolve_left (by decide)), fun h => F.f11 (h.resolve_left (by decide)), fun h => F.f12 (h.resolve_left (by decide)), fun h => F.f13 (h.resolve_left (by decide)), fun h => F.f14 (h.resolve_left (by decide)), fun h => F.f15 (h.resolve_left (by decide)), fun h => F.f16 (h.resolve_left (by decide)), fun h => F.f17 (h.resolve_left (by decide)), fun h => F.f18 (h.resolve_left (by decide)), fun h => F.f19 (h.resolve_left (by decide)), fun h => F.f20 (h.resolve_left (by decide)), fun h => F.f21 (h.resolve_left (by decide)), fun h => F.f22 (h.resolve_left (by decide)), fun h => F.f24 (h.resolve_left (by decide))⟩⟩
          exact StepsFrom.nil (by decide)
        case fin =>
          rintro L a' w' ⟨v21, v22, v23, v24, v25, v26, v27, v28, v29, v30, v31, v32, v33, v34, v35, v36, v37, v38, v39, v40, v41, v42, v43, v44, rfl, F⟩ hL
          have row9 := Lib.hid (show RowB w' g 33 (yn.flatMap enI2 ++ rest) from by rw [HST.out]; exact F.r2 (hL 25 (by decide)))
          have q9 := F.qb
          clear F hL
          go_wp2_with fail
          go_roundw
          case rel => exact ⟨k + 1, by omega, by go_num, q9, by rw [HYN.out]; exact row9⟩
          case measure => simp [intOf]; omega
      · obtain rfl : k = N := by omega
        have HF : Hid (OwnS wr w.heap.size wr.heap.size 33 2 enI2 (.slice (some ⟨g, 0, none⟩) n cap) (allR xs ms)) := by
          have h := hR.out
          rw [List.take_of_length_le (by rw [HNN.out]; exact Nat.le_refl _)] at h
          have hlen : (allR xs ms).length = n := by rw [allR_len]; exact Hn.out
          have := OwnS.mk_ (lo := w.heap.size) (hi := wr.heap.size) (cap := cap) enI2_len h hlo' hgr (by rw [hlen]; exact hnc) hcm (by rw [hlen]; exact hl)
          rw [hlen] at this
          exact this
        go_wp2_with fail
        go_ret2
        exact ⟨⟨_, ra_eq HC.out, by rw [HV.out]; exact HF.out⟩, qb⟩
end Go.Proofs.YtjmckpaemmjcmaaDoor.RateAll2
