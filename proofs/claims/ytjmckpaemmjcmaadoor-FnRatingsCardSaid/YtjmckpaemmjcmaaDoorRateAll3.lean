/-
  RateAll of the reference. Conditions: each theorem's own.
-/
import Derived.Test.YtjmckpaemmjcmaaDoorRateAll
import Derived.Deep.DeepCutAuto
import Derived.Test.YtjmckpaemmjcmaaDoorInv
set_option linter.unusedVariables false
namespace Go.Proofs.YtjmckpaemmjcmaaDoor.RateAll3
open Go.ChangeShapes Go.WideShapes Go.ChangeAt Go.RowKit Base Base2 Own Rating Chance RMatch RMatch2 RMatch3 RatList RateAll RegInv

theorem wpS {P : Program} {c : Code} {Q : Exit → Act → World → Prop} {a : Act} {W : World} (R : World → Prop) (h : R W) (k : ∀ W', R W' → c.wp P Q a W') : c.wp P Q a W := k W h
theorem ra_eq {v : Value} {c c' : Int} (h : c = c') : Ending.returned (.tuple #[v, .int .i64 c]) = Ending.returned (.tuple #[v, .int .i64 c']) := by rw [h]

structure RsF (w : World) (B0 g n cap i j : Nat) (r a1 a2 b1 b2 u1 u2 u3 u4 : Int) (ys : List (Int × Int)) (rest : List Value) (L : Nat → Prop) (v9 v10 v28 v29 v30 v31 v32 v33 v34 v35 v36 v37 v38 v39 v40 v41 v42 v43 : Value) (w' : World) : Prop where
  qb : Below w.heap.size w w'
  rb : RowB w' B0 49 [.int .i64 (i : Int), .int .i64 (j : Int), .int .i64 r]
  r0 : RowB w' g 33 (ys.flatMap enI2 ++ rest)
  ap : L 16 → L 17 → v9 ≠ v10
  f0 : L 0 → v29 = .slice (some ⟨g, 0, none⟩) n cap
  f1 : L 1 → v30 = .pointer (some ⟨B0, 0, none⟩)
  f2 : L 2 → v31 = .int .i64 (i : Int)
  f3 : L 3 → v32 = .pointer (some ⟨g, i * 2, none⟩)
  f4 : L 4 → v33 = .agg #[.int .i64 a1, .int .i64 a2]
  f5 : L 5 → v34 = .slice (some ⟨g, 0, none⟩) n cap
  f6 : L 6 → v35 = .pointer (some ⟨B0, 1, none⟩)
  f7 : L 7 → v36 = .int .i64 (j : Int)
  f8 : L 8 → v37 = .pointer (some ⟨g, j * 2, none⟩)
  f9 : L 9 → v38 = .agg #[.int .i64 b1, .int .i64 b2]
  f10 : L 10 → v39 = .pointer (some ⟨B0, 2, none⟩)
  f11 : L 11 → v40 = .int .i64 r
  f12 : L 12 → v41 = .tuple #[.agg #[.int .i64 u1, .int .i64 u2], .agg #[.int .i64 u3, .int .i64 u4]]
  f13 : L 13 → v28 = .tuple #[.agg #[.int .i64 u1, .int .i64 u2], .agg #[.int .i64 u3, .int .i64 u4]]
  f14 : L 14 → v42 = .agg #[.int .i64 u1, .int .i64 u2]
  f15 : L 15 → v43 = .agg #[.int .i64 u3, .int .i64 u4]
  f16 : L 16 → ∃ p x y, v9 = .pointer (some ⟨p, 0, none⟩) ∧ B0 < p ∧ RowB w' p 33 [.int .i64 x, .int .i64 y]
  f17 : L 17 → ∃ q x y, v10 = .pointer (some ⟨q, 0, none⟩) ∧ B0 < q ∧ RowB w' q 33 [.int .i64 x, .int .i64 y]
  f18 : L 18 → ∃ p, v9 = .pointer (some ⟨p, 0, none⟩) ∧ B0 < p ∧ RowB w' p 33 [.int .i64 u1, .int .i64 u2]
  f19 : L 19 → ∃ q, v10 = .pointer (some ⟨q, 0, none⟩) ∧ B0 < q ∧ RowB w' q 33 [.int .i64 u3, .int .i64 u4]

set_option maxHeartbeats 8000000 in
set_option maxRecDepth 100000 in
theorem raS (A1 A2 : Option Addr) (c1 c2 B1 B2 : Nat) (xs : List (Int × Int)) (ms : List (Int × Int × Int)) (w : World) (h1 : RdS w B1 2 enI2 A1 xs) (h2 : RdS w B2 3 enI3 A2 ms) (hB1 : B1 ≤ w.heap.size) (hB2 : B2 ≤ w.heap.size) :
    Calls Tryd.prog 29 #[.slice A1 xs.length c1, .slice A2 ms.length c2] w fun e w' => (∃ v, e = .returned (.tuple #[v, .int .i64 (raC xs ms)]) ∧ OwnS w' w.heap.size w'.heap.size 33 2 enI2 v (raL xs ms)) ∧ Below w.heap.size w w' := by
  have CR := Lib.hid (fun w0 a b => rl_spec B1 B2 A1 A2 c1 c2 xs ms w0 (h1.below a hB1) (h2.below a hB2) (Nat.le_trans hB1 b) (Nat.le_trans hB2 b))
  have hml := h2.len
  cases hok : okRL xs ms
  · have HC : Hid (1 = raC xs ms) := by unfold raC; rw [hok]; rfl
    have HV : Hid (raL xs ms = []) := by unfold raL; rw [hok]; rfl
    rw [hok] at CR
    go_enter Tryd.func29, Tryd.ntmps29
    go_wp2_with fail
    refine (CR.out _ (Below.refl _ _) (Nat.le_refl _)).mono ?_
    rintro e w1 ⟨rfl, hb1⟩
    go_wp2_with fail
    go_ret2
    exact ⟨⟨_, ra_eq HC.out, by rw [HV.out]; exact OwnS.nil_ _ _ _ _ _ _⟩, hb1⟩
  · have HC : Hid (0 = raC xs ms) := by unfold raC; rw [hok]; rfl
    have HV : Hid (raL xs ms = allR xs ms) := by unfold raL; rw [hok]; rfl
    have HOK := Lib.hid (fun k hk => allR_ok hok (k := k) hk)
    have hk := hok
    unfold okRL at hk
    simp only [Bool.and_eq_true] at hk
    have hsz := of_decide_eq_true hk.1
    have HM := Lib.hid hk.2.2
    rw [hok] at CR
    clear hk hok
    obtain ⟨b1, f1, rfl, hb1, _⟩ := h1.2 (by omega)
    go_enter Tryd.func29, Tryd.ntmps29
    go_wp2_with fail
    refine (CR.out _ (Below.refl _ _) (Nat.le_refl _)).mono ?_
    rintro e w1 ⟨rfl, q1⟩
    obtain ⟨i0, hi0, hz0, hz1, hz2⟩ := info_parts infoR
    have s1 := q1.size
    go_wp2_with (at_builtin; refine wpList_append_own _ rfl _ _ _ rfl w1.heap.size 33 i0 (.agg #[.int .i64 0, .int .i64 0]) 2 16 Tryd.underlying41 hi0 hz0 hz1 hz2 rfl (by decide) _ 0 [] rfl ((RowB.new w1 33 []).own (xs := ([] : List (Int × Int))) (en := enI2) enI2_len (Nat.le_refl _) (by simp) (by decide) : OwnS _ w1.heap.size (w1.alloc (.cells #[] 33)).heap.size 33 2 enI2 _ []).1 ⟨b1, f1, none⟩ xs.length c1 (xs.flatMap enI2) rfl (by rw [flatMap_len enI2_len]) (news_rd2 ((h1.below q1 hB1).below (show Below w1.heap.size w1 _ from by go_grown) (Nat.le_trans hB1 s1))) (one_R xs) ?c1 ?c2 ?c3 ?_)
    case c1 => unfold maxLen; omega
    case c2 => omega
    case c3 => go_size
    intro v w2 hown hgr _
    have hown : w2.ownsRow w1.heap.size 33 2 v xs.length (xs.flatMap enI2) := by simpa using hown
    have o2 : OwnS w2 w1.heap.size w2.heap.size 33 2 enI2 v xs := ⟨hown, fun g hg => (hown.lt g hg).2⟩
    have q2 : Below w1.heap.size w1 w2 := ((Below.refl w1.heap.size w1).alloc (Nat.le_refl _) _).grown hgr (by go_size) (fun g hg => by simp [Value.ownBlock] at hg; omega)
    clear hown hgr hi0 hz0 hz1 hz2
    have q2 := q1.trans (q2.mono q1.size)
    rcases o2.cases_ with ⟨_, hnil⟩ | ⟨g, cap, rest, rfl, hlo, hhi, hR, hnc, hcm, hl⟩
    · rw [hnil] at hsz; simp at hsz
    have hlo' : w.heap.size ≤ g := Nat.le_trans q1.size hlo
    have hR := Lib.hid hR
    clear o2 q1
    obtain ⟨n, hn⟩ : ∃ n, xs.length = n := ⟨_, rfl⟩
    obtain ⟨N, hN⟩ : ∃ N, ms.length = N := ⟨_, rfl⟩
    have HNN := Lib.hid hN
    have Hn := Lib.hid hn
    rw [hn] at hsz hnc hl
    rw [hN] at hsz hml
    rw [hn, hN]
    clear hn hN
    go_wp2_with fail
    go_loopw [7] (fun s wr => ∃ k : Nat, k ≤ N ∧ s = .int .i64 (k : Int) ∧ Below w.heap.size w wr ∧ Hid (RowB wr g 33 ((allR xs (ms.take k)).flatMap enI2 ++ rest))) (fun s _ => N - (intOf s).toNat)
    case atStart => exact ⟨0, Nat.zero_le _, rfl, q2, hR⟩
    case round =>
      clear q2 hR hhi
      obtain ⟨k, hk, rfl, qb, hR⟩ := hrel
      have hgr := hR.out.lt
      by_cases hlt : k < N
      · obtain ⟨b, off, p, q, r, rfl, hbB, hx, d0, d1, d2⟩ := rdI3_at (h2.below qb hB2) (by rw [HNN.out]; exact hlt)
        have hm := (List.all_eq_true.1 HM.out) _ (List.mem_of_getElem? hx)
        unfold okM at hm
        have hm := of_decide_eq_true hm
        rw [Hn.out] at hm
        simp only at hm
        obtain ⟨i, rfl⟩ : ∃ i : Nat, p = i := ⟨p.toNat, by omega⟩
        obtain ⟨j, rfl⟩ : ∃ j : Nat, q = j := ⟨q.toNat, by omega⟩
        have hlen : (allR xs (ms.take k)).length = n := by rw [allR_len]; exact Hn.out
        have hS := Lib.hid (allR_succ xs ms k _ hx)
        have hokk := HOK.out k (by rw [HNN.out]; omega)
        have ha := (okR_iff _ _).1 (okR_at hokk (i := i) (by omega))
        have hbk := (okR_iff _ _).1 (okR_at hokk (i := j) (by omega))
        have hbw : b < wr.heap.size := by have := qb.size; omega
        have hstep : stepR (allR xs (ms.take k)) ((i : Int), (j : Int), r) = ((allR xs (ms.take k)).set i (up ((allR xs (ms.take k)).getD i (0, 0)).1 (chg r (rp ((allR xs (ms.take k)).getD i (0, 0)).1 ((allR xs (ms.take k)).getD j (0, 0)).1 r) ((allR xs (ms.take k)).getD i (0, 0)).2), more ((allR xs (ms.take k)).getD i (0, 0)).2 r)).set j (down ((allR xs (ms.take k)).getD j (0, 0)).1 (chg r (rp ((allR xs (ms.take k)).getD i (0, 0)).1 ((allR xs (ms.take k)).getD j (0, 0)).1 r) ((allR xs (ms.take k)).getD j (0, 0)).2), more ((allR xs (ms.take k)).getD j (0, 0)).2 r) := rfl
        have HST := Lib.hid (hS.out.trans hstep)
        have hNk : (allR xs (ms.take (k + 1))).length = n := by rw [allR_len]; exact Hn.out
        clear hstep hS hx hokk
        generalize hys : allR xs (ms.take k) = ys at *
        generalize hyn : allR xs (ms.take (k + 1)) = yn at *
        have HYN := Lib.hid hyn
        clear hys hyn hNk
        have CM := fun w0 => mS (ys.getD i (0, 0)).1 (ys.getD i (0, 0)).2 (ys.getD j (0, 0)).1 (ys.getD j (0, 0)).2 r w0 ha.1 ha.2.1 ha.2.2.1 ha.2.2.2 hbk.1 hbk.2.1 hbk.2.2.1 hbk.2.2.2 (by omega) (by omega)
        have hi2 : (i : Int) < (n : Int) := hm.2.1
        have hj2 : (j : Int) < (n : Int) := hm.2.2.2.1
        have hi0 : (0 : Int) ≤ (i : Int) := hm.1
        have hj0 : (0 : Int) ≤ (j : Int) := hm.2.2.1
        have hij : i ≠ j := by omega
        clear ha hbk
        have hil : i < ys.length := by omega
        have hjl : j < ys.length := by omega
        have HIL := Lib.hid hil
        have HJL := Lib.hid hjl
        have CA := Lib.hid (fun (W : World) (hq : RowB W g 33 (ys.flatMap enI2 ++ rest)) => And.intro (rat_cells hq HIL.out) (rat_cells hq HJL.out))
        generalize hA1 : (ys.getD i (0, 0)).1 = a1 at *
        generalize hA2 : (ys.getD i (0, 0)).2 = a2 at *
        generalize hB1' : (ys.getD j (0, 0)).1 = b1' at *
        generalize hB2' : (ys.getD j (0, 0)).2 = b2' at *
        clear hA1 hA2 hB1' hB2' hlen hil hjl
        generalize hu1 : up a1 (chg r (rp a1 b1' r) a2) = u1 at *
        generalize hu2 : more a2 r = u2 at *
        generalize hu3 : down b1' (chg r (rp a1 b1' r) b2') = u3 at *
        generalize hu4 : more b2' r = u4 at *
        clear hu1 hu2 hu3 hu4
        have CM := Lib.hid CM
        go_upto_region 8 with (fail)
        refine wpS (fun W' => Below wr.heap.size wr W' ∧ RowB W' wr.heap.size 49 [.int .i64 (i : Int), .int .i64 (j : Int), .int .i64 r]) ⟨(Below.refl _ _).alloc (Nat.le_refl _) _, RowB.new _ _ _⟩ ?_
        clear d0 d1 d2
        rintro w3 ⟨t3, rb⟩
        have row3 := hR.out.below t3 hgr
        have q3 := qb.trans (t3.mono qb.size)
        have lb := rb.lt
        have lg := row3.lt
        have q3s := q3.size
        obtain ⟨⟨s3, s4⟩, s5, s6⟩ := CA.out w3 row3
        have hnb : wr.heap.size ≠ g := by omega
        have hlo9 := hlo'
        have HJL2 := Lib.hid (show j < (ys.set i (u1, u2)).length from by rw [List.length_set]; exact HJL.out)
        have CB := Lib.hid (fun (W : World) (hq : RowB W g 33 ((ys.set i (u1, u2)).flatMap enI2 ++ rest)) => rat_cells hq HJL2.out)
        refine region_inv (fun a0 L a w' => ∃ v9 v10 v28 v29 v30 v31 v32 v33 v34 v35 v36 v37 v38 v39 v40 v41 v42 v43 : Value, a = ((((((((((((((((((a0.put (some 9) v9).put (some 10) v10).put (some 28) v28).put (some 29) v29).put (some 30) v30).put (some 31) v31).put (some 32) v32).put (some 33) v33).put (some 34) v34).put (some 35) v35).put (some 36) v36).put (some 37) v37).put (some 38) v38).put (some 39) v39).put (some 40) v40).put (some 41) v41).put (some 42) v42).put (some 43) v43) ∧ RsF w wr.heap.size g n cap i j r a1 a2 b1' b2' u1 u2 u3 u4 ys rest L v9 v10 v28 v29 v30 v31 v32 v33 v34 v35 v36 v37 v38 v39 v40 v41 v42 v43 w') (by kernel_rfl) (by kernel_rfl) ?h0 ?hst ?fin
        case h0 =>
          exact ⟨_, _, _, _, _, _, _, _, _, _, _, _, _, _, _, _, _, _, by simp only [Act.put, List.setIfInBounds_toArray, List.set_cons_zero, List.set_cons_succ]; exact rfl, ⟨q3.drew, rb.drew, row3.drew, fun h => (h : False).elim, fun h => (h : False).elim, fun h => (h : False).elim, fun h => (h : False).elim, fun h => (h : False).elim, fun h => (h : False).elim, fun h => (h : False).elim, fun h => (h : False).elim, fun h => (h : False).elim, fun h => (h : False).elim, fun h => (h : False).elim, fun h => (h : False).elim, fun h => (h : False).elim, fun h => (h : False).elim, fun h => (h : False).elim, fun h => (h : False).elim, fun h => (h : False).elim, fun h => (h : False).elim, fun h => (h : False).elim, fun h => (h : False).elim, fun h => (h : False).elim⟩⟩
        case hst =>
          refine StepsFrom.cons rfl (fun L a w' hI hno hdep hcl K hK => ?_) ?_
          · obtain ⟨v9, v10, v28, v29, v30, v31, v32, v33, v34, v35, v36, v37, v38, v39, v40, v41, v42, v43, ha, F⟩ := hI
            subst ha
            simp only [Act.put, List.setIfInBounds_toArray, List.set_cons_zero, List.set_cons_succ]
            go_simp
            exact hK.out _ _ ⟨v9, v10, v28, _, v30, v31, v32, v33, v34, v35, v36, v37, v38, v39, v40, v41, v42, v43, by simp only [Act.put, List.setIfInBounds_toArray, List.set_cons_zero, List.set_cons_succ], ⟨F.qb, F.rb, F.r0, fun h1 h2 => F.ap (h1.resolve_left (by decide)) (h2.resolve_left (by decide)), fun _ => rfl, fun h => F.f1 (h.resolve_left (by decide)), fun h => F.f2 (h.resolve_left (by decide)), fun h => F.f3 (h.resolve_left (by decide)), fun h => F.f4 (h.resolve_left (by decide)), fun h => F.f5 (h.resolve_left (by decide)), fun h => F.f6 (h.resolve_left (by decide)), fun h => F.f7 (h.resolve_left (by decide)), fun h => F.f8 (h.resolve_left (by decide)), fun h => F.f9 (h.resolve_left (by decide)), fun h => F.f10 (h.resolve_left (by decide)), fun h => F.f11 (h.resolve_left (by decide)), fun h => F.f12 (h.resolve_left (by decide)), fun h => F.f13 (h.resolve_left (by decide)), fun h => F.f14 (h.resolve_left (by decide)), fun h => F.f15 (h.resolve_left (by decide)), fun h => F.f16 (h.resolve_left (by decide)), fun h => F.f17 (h.resolve_left (by decide)), fun h => F.f18 (h.resolve_left (by decide)), fun h => F.f19 (h.resolve_left (by decide))⟩⟩
          refine StepsFrom.cons rfl (fun L a w' hI hno hdep hcl K hK => ?_) ?_
          · obtain ⟨v9, v10, v28, v29, v30, v31, v32, v33, v34, v35, v36, v37, v38, v39, v40, v41, v42, v43, ha, F⟩ := hI
            subst ha
            simp only [Act.put, List.setIfInBounds_toArray, List.set_cons_zero, List.set_cons_succ]
            go_simp
            exact hK.out _ _ ⟨v9, v10, v28, v29, _, v31, v32, v33, v34, v35, v36, v37, v38, v39, v40, v41, v42, v43, by simp only [Act.put, List.setIfInBounds_toArray, List.set_cons_zero, List.set_cons_succ], ⟨F.qb, F.rb, F.r0, fun h1 h2 => F.ap (h1.resolve_left (by decide)) (h2.resolve_left (by decide)), fun h => F.f0 (h.resolve_left (by decide)), fun _ => rfl, fun h => F.f2 (h.resolve_left (by decide)), fun h => F.f3 (h.resolve_left (by decide)), fun h => F.f4 (h.resolve_left (by decide)), fun h => F.f5 (h.resolve_left (by decide)), fun h => F.f6 (h.resolve_left (by decide)), fun h => F.f7 (h.resolve_left (by decide)), fun h => F.f8 (h.resolve_left (by decide)), fun h => F.f9 (h.resolve_left (by decide)), fun h => F.f10 (h.resolve_left (by decide)), fun h => F.f11 (h.resolve_left (by decide)), fun h => F.f12 (h.resolve_left (by decide)), fun h => F.f13 (h.resolve_left (by decide)), fun h => F.f14 (h.resolve_left (by decide)), fun h => F.f15 (h.resolve_left (by decide)), fun h => F.f16 (h.resolve_left (by decide)), fun h => F.f17 (h.resolve_left (by decide)), fun h => F.f18 (h.resolve_left (by decide)), fun h => F.f19 (h.resolve_left (by decide))⟩⟩
          refine StepsFrom.cons rfl (fun L a w' hI hno hdep hcl K hK => ?_) ?_
          · obtain ⟨v9, v10, v28, v29, v30, v31, v32, v33, v34, v35, v36, v37, v38, v39, v40, v41, v42, v43, ha, F⟩ := hI
            have e30 := F.f1 (hdep 1 (by kernel_rfl))
            have cc := F.rb.c3
            have d0 := cc.1
            have d1 := cc.2.1
            have d2 := cc.2.2
            clear cc
            subst ha
            simp only [Act.put, List.setIfInBounds_toArray, List.set_cons_zero, List.set_cons_succ, e30]
            go_simp
            exact hK.out _ _ ⟨v9, v10, v28, v29, v30, _, v32, v33, v34, v35, v36, v37, v38, v39, v40, v41, v42, v43, by simp only [Act.put, List.setIfInBounds_toArray, List.set_cons_zero, List.set_cons_succ, e30], ⟨F.qb, F.rb, F.r0, fun h1 h2 => F.ap (h1.resolve_left (by decide)) (h2.resolve_left (by decide)), fun h => F.f0 (h.resolve_left (by decide)), fun h => F.f1 (h.resolve_left (by decide)), fun _ => rfl, fun h => F.f3 (h.resolve_left (by decide)), fun h => F.f4 (h.resolve_left (by decide)), fun h => F.f5 (h.resolve_left (by decide)), fun h => F.f6 (h.resolve_left (by decide)), fun h => F.f7 (h.resolve_left (by decide)), fun h => F.f8 (h.resolve_left (by decide)), fun h => F.f9 (h.resolve_left (by decide)), fun h => F.f10 (h.resolve_left (by decide)), fun h => F.f11 (h.resolve_left (by decide)), fun h => F.f12 (h.resolve_left (by decide)), fun h => F.f13 (h.resolve_left (by decide)), fun h => F.f14 (h.resolve_left (by decide)), fun h => F.f15 (h.resolve_left (by decide)), fun h => F.f16 (h.resolve_left (by decide)), fun h => F.f17 (h.resolve_left (by decide)), fun h => F.f18 (h.resolve_left (by decide)), fun h => F.f19 (h.resolve_left (by decide))⟩⟩
          refine StepsFrom.cons rfl (fun L a w' hI hno hdep hcl K hK => ?_) ?_
          · obtain ⟨v9, v10, v28, v29, v30, v31, v32, v33, v34, v35, v36, v37, v38, v39, v40, v41, v42, v43, ha, F⟩ := hI
            have e29 := F.f0 (hdep 0 (by kernel_rfl))
            have e31 := F.f2 (hdep 2 (by kernel_rfl))
            subst ha
            simp only [Act.put, List.setIfInBounds_toArray, List.set_cons_zero, List.set_cons_succ, e29, e31]
            go_simp
            exact hK.out _ _ ⟨v9, v10, v28, v29, v30, v31, _, v33, v34, v35, v36, v37, v38, v39, v40, v41, v42, v43, by simp only [Act.put, List.setIfInBounds_toArray, List.set_cons_zero, List.set_cons_succ, e29, e31], ⟨F.qb, F.rb, F.r0, fun h1 h2 => F.ap (h1.resolve_left (by decide)) (h2.resolve_left (by decide)), fun h => F.f0 (h.resolve_left (by decide)), fun h => F.f1 (h.resolve_left (by decide)), fun h => F.f2 (h.resolve_left (by decide)), fun _ => rfl, fun h => F.f4 (h.resolve_left (by decide)), fun h => F.f5 (h.resolve_left (by decide)), fun h => F.f6 (h.resolve_left (by decide)), fun h => F.f7 (h.resolve_left (by decide)), fun h => F.f8 (h.resolve_left (by decide)), fun h => F.f9 (h.resolve_left (by decide)), fun h => F.f10 (h.resolve_left (by decide)), fun h => F.f11 (h.resolve_left (by decide)), fun h => F.f12 (h.resolve_left (by decide)), fun h => F.f13 (h.resolve_left (by decide)), fun h => F.f14 (h.resolve_left (by decide)), fun h => F.f15 (h.resolve_left (by decide)), fun h => F.f16 (h.resolve_left (by decide)), fun h => F.f17 (h.resolve_left (by decide)), fun h => F.f18 (h.resolve_left (by decide)), fun h => F.f19 (h.resolve_left (by decide))⟩⟩
          refine StepsFrom.cons rfl (fun L a w' hI hno hdep hcl K hK => ?_) ?_
          · obtain ⟨v9, v10, v28, v29, v30, v31, v32, v33, v34, v35, v36, v37, v38, v39, v40, v41, v42, v43, ha, F⟩ := hI
            have e32 := F.f3 (hdep 3 (by kernel_rfl))
            have cc := CA.out _ F.r0
            have d0 := cc.1.1
            have d1 := cc.1.2
            have d2 := cc.2.1
            have d3 := cc.2.2
            clear cc
            subst ha
            simp only [Act.put, List.setIfInBounds_toArray, List.set_cons_zero, List.set_cons_succ, e32]
            go_simp
            exact hK.out _ _ ⟨v9, v10, v28, v29, v30, v31, v32, _, v34, v35, v36, v37, v38, v39, v40, v41, v42, v43, by simp only [Act.put, List.setIfInBounds_toArray, List.set_cons_zero, List.set_cons_succ, e32], ⟨F.qb, F.rb, F.r0, fun h1 h2 => F.ap (h1.resolve_left (by decide)) (h2.resolve_left (by decide)), fun h => F.f0 (h.resolve_left (by decide)), fun h => F.f1 (h.resolve_left (by decide)), fun h => F.f2 (h.resolve_left (by decide)), fun h => F.f3 (h.resolve_left (by decide)), fun _ => rfl, fun h => F.f5 (h.resolve_left (by decide)), fun h => F.f6 (h.resolve_left (by decide)), fun h => F.f7 (h.resolve_left (by decide)), fun h => F.f8 (h.resolve_left (by decide)), fun h => F.f9 (h.resolve_left (by decide)), fun h => F.f10 (h.resolve_left (by decide)), fun h => F.f11 (h.resolve_left (by decide)), fun h => F.f12 (h.resolve_left (by decide)), fun h => F.f13 (h.resolve_left (by decide)), fun h => F.f14 (h.resolve_left (by decide)), fun h => F.f15 (h.resolve_left (by decide)), fun h => F.f16 (h.resolve_left (by decide)), fun h => F.f17 (h.resolve_left (by decide)), fun h => F.f18 (h.resolve_left (by decide)), fun h => F.f19 (h.resolve_left (by decide))⟩⟩
          refine StepsFrom.cons rfl (fun L a w' hI hno hdep hcl K hK => ?_) ?_
          · obtain ⟨v9, v10, v28, v29, v30, v31, v32, v33, v34, v35, v36, v37, v38, v39, v40, v41, v42, v43, ha, F⟩ := hI
            subst ha
            simp only [Act.put, List.setIfInBounds_toArray, List.set_cons_zero, List.set_cons_succ]
            go_simp
            exact hK.out _ _ ⟨v9, v10, v28, v29, v30, v31, v32, v33, _, v35, v36, v37, v38, v39, v40, v41, v42, v43, by simp only [Act.put, List.setIfInBounds_toArray, List.set_cons_zero, List.set_cons_succ], ⟨F.qb, F.rb, F.r0, fun h1 h2 => F.ap (h1.resolve_left (by decide)) (h2.resolve_left (by decide)), fun h => F.f0 (h.resolve_left (by decide)), fun h => F.f1 (h.resolve_left (by decide)), fun h => F.f2 (h.resolve_left (by decide)), fun h => F.f3 (h.resolve_left (by decide)), fun h => F.f4 (h.resolve_left (by decide)), fun _ => rfl, fun h => F.f6 (h.resolve_left (by decide)), fun h => F.f7 (h.resolve_left (by decide)), fun h => F.f8 (h.resolve_left (by decide)), fun h => F.f9 (h.resolve_left (by decide)), fun h => F.f10 (h.resolve_left (by decide)), fun h => F.f11 (h.resolve_left (by decide)), fun h => F.f12 (h.resolve_left (by decide)), fun h => F.f13 (h.resolve_left (by decide)), fun h => F.f14 (h.resolve_left (by decide)), fun h => F.f15 (h.resolve_left (by decide)), fun h => F.f16 (h.resolve_left (by decide)), fun h => F.f17 (h.resolve_left (by decide)), fun h => F.f18 (h.resolve_left (by decide)), fun h => F.f19 (h.resolve_left (by decide))⟩⟩
          refine StepsFrom.cons rfl (fun L a w' hI hno hdep hcl K hK => ?_) ?_
          · obtain ⟨v9, v10, v28, v29, v30, v31, v32, v33, v34, v35, v36, v37, v38, v39, v40, v41, v42, v43, ha, F⟩ := hI
            subst ha
            simp only [Act.put, List.setIfInBounds_toArray, List.set_cons_zero, List.set_cons_succ]
            go_simp
            exact hK.out _ _ ⟨v9, v10, v28, v29, v30, v31, v32, v33, v34, _, v36, v37, v38, v39, v40, v41, v42, v43, by simp only [Act.put, List.setIfInBounds_toArray, List.set_cons_zero, List.set_cons_succ], ⟨F.qb, F.rb, F.r0, fun h1 h2 => F.ap (h1.resolve_left (by decide)) (h2.resolve_left (by decide)), fun h => F.f0 (h.resolve_left (by decide)), fun h => F.f1 (h.resolve_left (by decide)), fun h => F.f2 (h.resolve_left (by decide)), fun h => F.f3 (h.resolve_left (by decide)), fun h => F.f4 (h.resolve_left (by decide)), fun h => F.f5 (h.resolve_left (by decide)), fun _ => rfl, fun h => F.f7 (h.resolve_left (by decide)), fun h => F.f8 (h.resolve_left (by decide)), fun h => F.f9 (h.resolve_left (by decide)), fun h => F.f10 (h.resolve_left (by decide)), fun h => F.f11 (h.resolve_left (by decide)), fun h => F.f12 (h.resolve_left (by decide)), fun h => F.f13 (h.resolve_left (by decide)), fun h => F.f14 (h.resolve_left (by decide)), fun h => F.f15 (h.resolve_left (by decide)), fun h => F.f16 (h.resolve_left (by decide)), fun h => F.f17 (h.resolve_left (by decide)), fun h => F.f18 (h.resolve_left (by decide)), fun h => F.f19 (h.resolve_left (by decide))⟩⟩
          refine StepsFrom.cons rfl (fun L a w' hI hno hdep hcl K hK => ?_) ?_
          · obtain ⟨v9, v10, v28, v29, v30, v31, v32, v33, v34, v35, v36, v37, v38, v39, v40, v41, v42, v43, ha, F⟩ := hI
            have e35 := F.f6 (hdep 6 (by kernel_rfl))
            have cc := F.rb.c3
            have d0 := cc.1
            have d1 := cc.2.1
            have d2 := cc.2.2
            clear cc
            subst ha
            simp only [Act.put, List.setIfInBounds_toArray, List.set_cons_zero, List.set_cons_succ, e35]
            go_simp
            exact hK.out _ _ ⟨v9, v10, v28, v29, v30, v31, v32, v33, v34, v35, _, v37, v38, v39, v40, v41, v42, v43, by simp only [Act.put, List.setIfInBounds_toArray, List.set_cons_zero, List.set_cons_succ, e35], ⟨F.qb, F.rb, F.r0, fun h1 h2 => F.ap (h1.resolve_left (by decide)) (h2.resolve_left (by decide)), fun h => F.f0 (h.resolve_left (by decide)), fun h => F.f1 (h.resolve_left (by decide)), fun h => F.f2 (h.resolve_left (by decide)), fun h => F.f3 (h.resolve_left (by decide)), fun h => F.f4 (h.resolve_left (by decide)), fun h => F.f5 (h.resolve_left (by decide)), fun h => F.f6 (h.resolve_left (by decide)), fun _ => rfl, fun h => F.f8 (h.resolve_left (by decide)), fun h => F.f9 (h.resolve_left (by decide)), fun h => F.f10 (h.resolve_left (by decide)), fun h => F.f11 (h.resolve_left (by decide)), fun h => F.f12 (h.resolve_left (by decide)), fun h => F.f13 (h.resolve_left (by decide)), fun h => F.f14 (h.resolve_left (by decide)), fun h => F.f15 (h.resolve_left (by decide)), fun h => F.f16 (h.resolve_left (by decide)), fun h => F.f17 (h.resolve_left (by decide)), fun h => F.f18 (h.resolve_left (by decide)), fun h => F.f19 (h.resolve_left (by decide))⟩⟩
          refine StepsFrom.cons rfl (fun L a w' hI hno hdep hcl K hK => ?_) ?_
          · obtain ⟨v9, v10, v28, v29, v30, v31, v32, v33, v34, v35, v36, v37, v38, v39, v40, v41, v42, v43, ha, F⟩ := hI
            have e34 := F.f5 (hdep 5 (by kernel_rfl))
            have e36 := F.f7 (hdep 7 (by kernel_rfl))
            subst ha
            simp only [Act.put, List.setIfInBounds_toArray, List.set_cons_zero, List.set_cons_succ, e34, e36]
            go_simp
            exact hK.out _ _ ⟨v9, v10, v28, v29, v30, v31, v32, v33, v34, v35, v36, _, v38, v39, v40, v41, v42, v43, by simp only [Act.put, List.setIfInBounds_toArray, List.set_cons_zero, List.set_cons_succ, e34, e36], ⟨F.qb, F.rb, F.r0, fun h1 h2 => F.ap (h1.resolve_left (by decide)) (h2.resolve_left (by decide)), fun h => F.f0 (h.resolve_left (by decide)), fun h => F.f1 (h.resolve_left (by decide)), fun h => F.f2 (h.resolve_left (by decide)), fun h => F.f3 (h.resolve_left (by decide)), fun h => F.f4 (h.resolve_left (by decide)), fun h => F.f5 (h.resolve_left (by decide)), fun h => F.f6 (h.resolve_left (by decide)), fun h => F.f7 (h.resolve_left (by decide)), fun _ => rfl, fun h => F.f9 (h.resolve_left (by decide)), fun h => F.f10 (h.resolve_left (by decide)), fun h => F.f11 (h.resolve_left (by decide)), fun h => F.f12 (h.resolve_left (by decide)), fun h => F.f13 (h.resolve_left (by decide)), fun h => F.f14 (h.resolve_left (by decide)), fun h => F.f15 (h.resolve_left (by decide)), fun h => F.f16 (h.resolve_left (by decide)), fun h => F.f17 (h.resolve_left (by decide)), fun h => F.f18 (h.resolve_left (by decide)), fun h => F.f19 (h.resolve_left (by decide))⟩⟩
          refine StepsFrom.cons rfl (fun L a w' hI hno hdep hcl K hK => ?_) ?_
          · obtain ⟨v9, v10, v28, v29, v30, v31, v32, v33, v34, v35, v36, v37, v38, v39, v40, v41, v42, v43, ha, F⟩ := hI
            have e37 := F.f8 (hdep 8 (by kernel_rfl))
            have cc := CA.out _ F.r0
            have d0 := cc.1.1
            have d1 := cc.1.2
            have d2 := cc.2.1
            have d3 := cc.2.2
            clear cc
            subst ha
            simp only [Act.put, List.setIfInBounds_toArray, List.set_cons_zero, List.set_cons_succ, e37]
            go_simp
            exact hK.out _ _ ⟨v9, v10, v28, v29, v30, v31, v32, v33, v34, v35, v36, v37, _, v39, v40, v41, v42, v43, by simp only [Act.put, List.setIfInBounds_toArray, List.set_cons_zero, List.set_cons_succ, e37], ⟨F.qb, F.rb, F.r0, fun h1 h2 => F.ap (h1.resolve_left (by decide)) (h2.resolve_left (by decide)), fun h => F.f0 (h.resolve_left (by decide)), fun h => F.f1 (h.resolve_left (by decide)), fun h => F.f2 (h.resolve_left (by decide)), fun h => F.f3 (h.resolve_left (by decide)), fun h => F.f4 (h.resolve_left (by decide)), fun h => F.f5 (h.resolve_left (by decide)), fun h => F.f6 (h.resolve_left (by decide)), fun h => F.f7 (h.resolve_left (by decide)), fun h => F.f8 (h.resolve_left (by decide)), fun _ => rfl, fun h => F.f10 (h.resolve_left (by decide)), fun h => F.f11 (h.resolve_left (by decide)), fun h => F.f12 (h.resolve_left (by decide)), fun h => F.f13 (h.resolve_left (by decide)), fun h => F.f14 (h.resolve_left (by decide)), fun h => F.f15 (h.resolve_left (by decide)), fun h => F.f16 (h.resolve_left (by decide)), fun h => F.f17 (h.resolve_left (by decide)), fun h => F.f18 (h.resolve_left (by decide)), fun h => F.f19 (h.resolve_left (by decide))⟩⟩
          refine StepsFrom.cons rfl (fun L a w' hI hno hdep hcl K hK => ?_) ?_
          · obtain ⟨v9, v10, v28, v29, v30, v31, v32, v33, v34, v35, v36, v37, v38, v39, v40, v41, v42, v43, ha, F⟩ := hI
            subst ha
            simp only [Act.put, List.setIfInBounds_toArray, List.set_cons_zero, List.set_cons_succ]
            go_simp
            exact hK.out _ _ ⟨v9, v10, v28, v29, v30, v31, v32, v33, v34, v35, v36, v37, v38, _, v40, v41, v42, v43, by simp only [Act.put, List.setIfInBounds_toArray, List.set_cons_zero, List.set_cons_succ], ⟨F.qb, F.rb, F.r0, fun h1 h2 => F.ap (h1.resolve_left (by decide)) (h2.resolve_left (by decide)), fun h => F.f0 (h.resolve_left (by decide)), fun h => F.f1 (h.resolve_left (by decide)), fun h => F.f2 (h.resolve_left (by decide)), fun h => F.f3 (h.resolve_left (by decide)), fun h => F.f4 (h.resolve_left (by decide)), fun h => F.f5 (h.resolve_left (by decide)), fun h => F.f6 (h.resolve_left (by decide)), fun h => F.f7 (h.resolve_left (by decide)), fun h => F.f8 (h.resolve_left (by decide)), fun h => F.f9 (h.resolve_left (by decide)), fun _ => rfl, fun h => F.f11 (h.resolve_left (by decide)), fun h => F.f12 (h.resolve_left (by decide)), fun h => F.f13 (h.resolve_left (by decide)), fun h => F.f14 (h.resolve_left (by decide)), fun h => F.f15 (h.resolve_left (by decide)), fun h => F.f16 (h.resolve_left (by decide)), fun h => F.f17 (h.resolve_left (by decide)), fun h => F.f18 (h.resolve_left (by decide)), fun h => F.f19 (h.resolve_left (by decide))⟩⟩
          refine StepsFrom.cons rfl (fun L a w' hI hno hdep hcl K hK => ?_) ?_
          · obtain ⟨v9, v10, v28, v29, v30, v31, v32, v33, v34, v35, v36, v37, v38, v39, v40, v41, v42, v43, ha, F⟩ := hI
            have e39 := F.f10 (hdep 10 (by kernel_rfl))
            have cc := F.rb.c3
            have d0 := cc.1
            have d1 := cc.2.1
            have d2 := cc.2.2
            clear cc
            subst ha
            simp only [Act.put, List.setIfInBounds_toArray, List.set_cons_zero, List.set_cons_succ, e39]
            go_simp
            exact hK.out _ _ ⟨v9, v10, v28, v29, v30, v31, v32, v33, v34, v35, v36, v37, v38, v39, _, v41, v42, v43, by simp only [Act.put, List.setIfInBounds_toArray, List.set_cons_zero, List.set_cons_succ, e39], ⟨F.qb, F.rb, F.r0, fun h1 h2 => F.ap (h1.resolve_left (by decide)) (h2.resolve_left (by decide)), fun h => F.f0 (h.resolve_left (by decide)), fun h => F.f1 (h.resolve_left (by decide)), fun h => F.f2 (h.resolve_left (by decide)), fun h => F.f3 (h.resolve_left (by decide)), fun h => F.f4 (h.resolve_left (by decide)), fun h => F.f5 (h.resolve_left (by decide)), fun h => F.f6 (h.resolve_left (by decide)), fun h => F.f7 (h.resolve_left (by decide)), fun h => F.f8 (h.resolve_left (by decide)), fun h => F.f9 (h.resolve_left (by decide)), fun h => F.f10 (h.resolve_left (by decide)), fun _ => rfl, fun h => F.f12 (h.resolve_left (by decide)), fun h => F.f13 (h.resolve_left (by decide)), fun h => F.f14 (h.resolve_left (by decide)), fun h => F.f15 (h.resolve_left (by decide)), fun h => F.f16 (h.resolve_left (by decide)), fun h => F.f17 (h.resolve_left (by decide)), fun h => F.f18 (h.resolve_left (by decide)), fun h => F.f19 (h.resolve_left (by decide))⟩⟩
          refine StepsFrom.cons rfl (fun L a w' hI hno hdep hcl K hK => ?_) ?_
          · obtain ⟨v9, v10, v28, v29, v30, v31, v32, v33, v34, v35, v36, v37, v38, v39, v40, v41, v42, v43, ha, F⟩ := hI
            have e33 := F.f4 (hdep 4 (by kernel_rfl))
            have e38 := F.f9 (hdep 9 (by kernel_rfl))
            have e40 := F.f11 (hdep 11 (by kernel_rfl))
            have q := F.qb.size
            subst ha
            simp only [Act.put, List.setIfInBounds_toArray, List.set_cons_zero, List.set_cons_succ, e33, e38, e40]
            go_simp
            refine (CM.out w').mono ?_
            rintro e w4 ⟨rfl, hb4⟩
            exact hK.out _ _ ⟨v9, v10, v28, v29, v30, v31, v32, v33, v34, v35, v36, v37, v38, v39, v40, _, v42, v43, by simp only [Act.put, List.setIfInBounds_toArray, List.set_cons_zero, List.set_cons_succ, e33, e38, e40], ⟨F.qb.trans (hb4.mono F.qb.size), F.rb.below hb4 F.rb.lt, F.r0.below hb4 F.r0.lt, fun h1 h2 => F.ap (h1.resolve_left (by decide)) (h2.resolve_left (by decide)), fun h => F.f0 (h.resolve_left (by decide)), fun h => F.f1 (h.resolve_left (by decide)), fun h => F.f2 (h.resolve_left (by decide)), fun h => F.f3 (h.resolve_left (by decide)), fun h => F.f4 (h.resolve_left (by decide)), fun h => F.f5 (h.resolve_left (by decide)), fun h => F.f6 (h.resolve_left (by decide)), fun h => F.f7 (h.resolve_left (by decide)), fun h => F.f8 (h.resolve_left (by decide)), fun h => F.f9 (h.resolve_left (by decide)), fun h => F.f10 (h.resolve_left (by decide)), fun h => F.f11 (h.resolve_left (by decide)), fun _ => rfl, fun h => F.f13 (h.resolve_left (by decide)), fun h => F.f14 (h.resolve_left (by decide)), fun h => F.f15 (h.resolve_left (by decide)), fun h => by obtain ⟨z, x, y, e, h1, h2⟩ := F.f16 (h.resolve_left (by decide)); exact ⟨z, x, y, e, h1, h2.below hb4 h2.lt⟩, fun h => by obtain ⟨z, x, y, e, h1, h2⟩ := F.f17 (h.resolve_left (by decide)); exact ⟨z, x, y, e, h1, h2.below hb4 h2.lt⟩, fun h => by obtain ⟨z, e, h1, h2⟩ := F.f18 (h.resolve_left (by decide)); exact ⟨z, e, h1, h2.below hb4 h2.lt⟩, fun h => by obtain ⟨z, e, h1, h2⟩ := F.f19 (h.resolve_left (by decide)); exact ⟨z, e, h1, h2.below hb4 h2.lt⟩⟩⟩
          refine StepsFrom.cons rfl (fun L a w' hI hno hdep hcl K hK => ?_) ?_
          · obtain ⟨v9, v10, v28, v29, v30, v31, v32, v33, v34, v35, v36, v37, v38, v39, v40, v41, v42, v43, ha, F⟩ := hI
            have e41 := F.f12 (hdep 12 (by kernel_rfl))
            subst ha
            simp only [Act.put, List.setIfInBounds_toArray, List.set_cons_zero, List.set_cons_succ, e41]
            go_simp
            exact hK.out _ _ ⟨v9, v10, _, v29, v30, v31, v32, v33, v34, v35, v36, v37, v38, v39, v40, v41, v42, v43, by simp only [Act.put, List.setIfInBounds_toArray, List.set_cons_zero, List.set_cons_succ, e41], ⟨F.qb, F.rb, F.r0, fun h1 h2 => F.ap (h1.resolve_left (by decide)) (h2.resolve_left (by decide)), fun h => F.f0 (h.resolve_left (by decide)), fun h => F.f1 (h.resolve_left (by decide)), fun h => F.f2 (h.resolve_left (by decide)), fun h => F.f3 (h.resolve_left (by decide)), fun h => F.f4 (h.resolve_left (by decide)), fun h => F.f5 (h.resolve_left (by decide)), fun h => F.f6 (h.resolve_left (by decide)), fun h => F.f7 (h.resolve_left (by decide)), fun h => F.f8 (h.resolve_left (by decide)), fun h => F.f9 (h.resolve_left (by decide)), fun h => F.f10 (h.resolve_left (by decide)), fun h => F.f11 (h.resolve_left (by decide)), fun h => F.f12 (h.resolve_left (by decide)), fun _ => rfl, fun h => F.f14 (h.resolve_left (by decide)), fun h => F.f15 (h.resolve_left (by decide)), fun h => F.f16 (h.resolve_left (by decide)), fun h => F.f17 (h.resolve_left (by decide)), fun h => F.f18 (h.resolve_left (by decide)), fun h => F.f19 (h.resolve_left (by decide))⟩⟩
          refine StepsFrom.cons rfl (fun L a w' hI hno hdep hcl K hK => ?_) ?_
          · obtain ⟨v9, v10, v28, v29, v30, v31, v32, v33, v34, v35, v36, v37, v38, v39, v40, v41, v42, v43, ha, F⟩ := hI
            have e28 := F.f13 (hdep 13 (by kernel_rfl))
            subst ha
            simp only [Act.put, List.setIfInBounds_toArray, List.set_cons_zero, List.set_cons_succ, e28]
            go_simp
            exact hK.out _ _ ⟨v9, v10, v28, v29, v30, v31, v32, v33, v34, v35, v36, v37, v38, v39, v40, v41, _, v43, by simp only [Act.put, List.setIfInBounds_toArray, List.set_cons_zero, List.set_cons_succ, e28], ⟨F.qb, F.rb, F.r0, fun h1 h2 => F.ap (h1.resolve_left (by decide)) (h2.resolve_left (by decide)), fun h => F.f0 (h.resolve_left (by decide)), fun h => F.f1 (h.resolve_left (by decide)), fun h => F.f2 (h.resolve_left (by decide)), fun h => F.f3 (h.resolve_left (by decide)), fun h => F.f4 (h.resolve_left (by decide)), fun h => F.f5 (h.resolve_left (by decide)), fun h => F.f6 (h.resolve_left (by decide)), fun h => F.f7 (h.resolve_left (by decide)), fun h => F.f8 (h.resolve_left (by decide)), fun h => F.f9 (h.resolve_left (by decide)), fun h => F.f10 (h.resolve_left (by decide)), fun h => F.f11 (h.resolve_left (by decide)), fun h => F.f12 (h.resolve_left (by decide)), fun h => F.f13 (h.resolve_left (by decide)), fun _ => rfl, fun h => F.f15 (h.resolve_left (by decide)), fun h => F.f16 (h.resolve_left (by decide)), fun h => F.f17 (h.resolve_left (by decide)), fun h => F.f18 (h.resolve_left (by decide)), fun h => F.f19 (h.resolve_left (by decide))⟩⟩
          refine StepsFrom.cons rfl (fun L a w' hI hno hdep hcl K hK => ?_) ?_
          · obtain ⟨v9, v10, v28, v29, v30, v31, v32, v33, v34, v35, v36, v37, v38, v39, v40, v41, v42, v43, ha, F⟩ := hI
            have e28 := F.f13 (hdep 13 (by kernel_rfl))
            subst ha
            simp only [Act.put, List.setIfInBounds_toArray, List.set_cons_zero, List.set_cons_succ, e28]
            go_simp
            exact hK.out _ _ ⟨v9, v10, v28, v29, v30, v31, v32, v33, v34, v35, v36, v37, v38, v39, v40, v41, v42, _, by simp only [Act.put, List.setIfInBounds_toArray, List.set_cons_zero, List.set_cons_succ, e28], ⟨F.qb, F.rb, F.r0, fun h1 h2 => F.ap (h1.resolve_left (by decide)) (h2.resolve_left (by decide)), fun h => F.f0 (h.resolve_left (by decide)), fun h => F.f1 (h.resolve_left (by decide)), fun h => F.f2 (h.resolve_left (by decide)), fun h => F.f3 (h.resolve_left (by decide)), fun h => F.f4 (h.resolve_left (by decide)), fun h => F.f5 (h.resolve_left (by decide)), fun h => F.f6 (h.resolve_left (by decide)), fun h => F.f7 (h.resolve_left (by decide)), fun h => F.f8 (h.resolve_left (by decide)), fun h => F.f9 (h.resolve_left (by decide)), fun h => F.f10 (h.resolve_left (by decide)), fun h => F.f11 (h.resolve_left (by decide)), fun h => F.f12 (h.resolve_left (by decide)), fun h => F.f13 (h.resolve_left (by decide)), fun h => F.f14 (h.resolve_left (by decide)), fun _ => rfl, fun h => F.f16 (h.resolve_left (by decide)), fun h => F.f17 (h.resolve_left (by decide)), fun h => F.f18 (h.resolve_left (by decide)), fun h => F.f19 (h.resolve_left (by decide))⟩⟩
          refine StepsFrom.cons rfl (fun L a w' hI hno hdep hcl K hK => ?_) ?_
          · obtain ⟨v9, v10, v28, v29, v30, v31, v32, v33, v34, v35, v36, v37, v38, v39, v40, v41, v42, v43, ha, F⟩ := hI
            have hrl := F.rb.lt
            subst ha
            simp only [Act.put, List.setIfInBounds_toArray, List.set_cons_zero, List.set_cons_succ]
            go_simp
            exact hK.out _ _ ⟨_, v10, v28, v29, v30, v31, v32, v33, v34, v35, v36, v37, v38, v39, v40, v41, v42, v43, by simp only [Act.put, List.setIfInBounds_toArray, List.set_cons_zero, List.set_cons_succ], ⟨F.qb.alloc F.qb.size _, F.rb.alloc _, F.r0.alloc _, fun _ h => by obtain ⟨z, x, y, e, h1, h2⟩ := F.f17 (h.resolve_left (by decide)); have := h2.lt; rw [e]; intro h; simp only [Value.pointer.injEq, Option.some.injEq, Addr.mk.injEq] at h; omega, fun h => F.f0 (h.resolve_left (by decide)), fun h => F.f1 (h.resolve_left (by decide)), fun h => F.f2 (h.resolve_left (by decide)), fun h => F.f3 (h.resolve_left (by decide)), fun h => F.f4 (h.resolve_left (by decide)), fun h => F.f5 (h.resolve_left (by decide)), fun h => F.f6 (h.resolve_left (by decide)), fun h => F.f7 (h.resolve_left (by decide)), fun h => F.f8 (h.resolve_left (by decide)), fun h => F.f9 (h.resolve_left (by decide)), fun h => F.f10 (h.resolve_left (by decide)), fun h => F.f11 (h.resolve_left (by decide)), fun h => F.f12 (h.resolve_left (by decide)), fun h => F.f13 (h.resolve_left (by decide)), fun h => F.f14 (h.resolve_left (by decide)), fun h => F.f15 (h.resolve_left (by decide)), fun _ => ⟨_, 0, 0, rfl, hrl, RowB.new _ _ _⟩, fun h => by obtain ⟨z, x, y, e, h1, h2⟩ := F.f17 (h.resolve_left (by decide)); exact ⟨z, x, y, e, h1, h2.alloc _⟩, fun h => absurd (hcl 18 16 (by kernel_rfl) (h.resolve_left (by decide))) hno, fun h => by obtain ⟨z, e, h1, h2⟩ := F.f19 (h.resolve_left (by decide)); exact ⟨z, e, h1, h2.alloc _⟩⟩⟩
          refine StepsFrom.cons rfl (fun L a w' hI hno hdep hcl K hK => ?_) ?_
          · obtain ⟨v9, v10, v28, v29, v30, v31, v32, v33, v34, v35, v36, v37, v38, v39, v40, v41, v42, v43, ha, F⟩ := hI
            have hrl := F.rb.lt
            subst ha
            simp only [Act.put, List.setIfInBounds_toArray, List.set_cons_zero, List.set_cons_succ]
            go_simp
            exact hK.out _ _ ⟨v9, _, v28, v29, v30, v31, v32, v33, v34, v35, v36, v37, v38, v39, v40, v41, v42, v43, by simp only [Act.put, List.setIfInBounds_toArray, List.set_cons_zero, List.set_cons_succ], ⟨F.qb.alloc F.qb.size _, F.rb.alloc _, F.r0.alloc _, fun h _ => by obtain ⟨z, x, y, e, h1, h2⟩ := F.f16 (h.resolve_left (by decide)); have := h2.lt; rw [e]; intro h; simp only [Value.pointer.injEq, Option.some.injEq, Addr.mk.injEq] at h; omega, fun h => F.f0 (h.resolve_left (by decide)), fun h => F.f1 (h.resolve_left (by decide)), fun h => F.f2 (h.resolve_left (by decide)), fun h => F.f3 (h.resolve_left (by decide)), fun h => F.f4 (h.resolve_left (by decide)), fun h => F.f5 (h.resolve_left (by decide)), fun h => F.f6 (h.resolve_left (by decide)), fun h => F.f7 (h.resolve_left (by decide)), fun h => F.f8 (h.resolve_left (by decide)), fun h => F.f9 (h.resolve_left (by decide)), fun h => F.f10 (h.resolve_left (by decide)), fun h => F.f11 (h.resolve_left (by decide)), fun h => F.f12 (h.resolve_left (by decide)), fun h => F.f13 (h.resolve_left (by decide)), fun h => F.f14 (h.resolve_left (by decide)), fun h => F.f15 (h.resolve_left (by decide)), fun h => by obtain ⟨z, x, y, e, h1, h2⟩ := F.f16 (h.resolve_left (by decide)); exact ⟨z, x, y, e, h1, h2.alloc _⟩, fun _ => ⟨_, 0, 0, rfl, hrl, RowB.new _ _ _⟩, fun h => by obtain ⟨z, e, h1, h2⟩ := F.f18 (h.resolve_left (by decide)); exact ⟨z, e, h1, h2.alloc _⟩, fun h => absurd (hcl 19 17 (by kernel_rfl) (h.resolve_left (by decide))) hno⟩⟩
          refine StepsFrom.cons rfl (fun L a w' hI hno hdep hcl K hK => ?_) ?_
          · obtain ⟨v9, v10, v28, v29, v30, v31, v32, v33, v34, v35, v36, v37, v38, v39, v40, v41, v42, v43, ha, F⟩ := hI
            have e42 := F.f14 (hdep 14 (by kernel_rfl))
            refine (F.f16 (hdep 16 (by kernel_rfl))).elim fun p hp => ?_
            refine hp.elim fun x hp => ?_
            refine hp.elim fun y hp => ?_
            have ep := hp.1
            have hp1 := hp.2.1
            have hp2 := hp.2.2
            clear hp
            have NE : ∀ z, v10 = .pointer (some ⟨z, 0, none⟩) → L 17 → z ≠ p := fun z hz hl hp => F.ap (hdep 16 (by kernel_rfl)) hl (by rw [ep, hz, hp])
            have hrl := F.r0.lt
            have cc := hp2.c2
            have d0 := cc.1
            have d1 := cc.2
            clear cc
            have hf := hp2.frozen
            have hpg : g ≠ p := by omega
            have hpb : wr.heap.size ≠ p := by omega
            subst ha
            simp only [Act.put, List.setIfInBounds_toArray, List.set_cons_zero, List.set_cons_succ, ep, e42]
            go_simp
            exact hK.out _ _ ⟨v9, v10, v28, v29, v30, v31, v32, v33, v34, v35, v36, v37, v38, v39, v40, v41, v42, v43, by simp only [Act.put, List.setIfInBounds_toArray, List.set_cons_zero, List.set_cons_succ, ep, e42], ⟨(F.qb.setCell (p := ⟨p, 0, none⟩) (by show _ ≤ p; omega) _).setCell (p := ⟨p, 1, none⟩) (by show _ ≤ p; omega) _, (F.rb.other hpb _).other hpb _, (F.r0.other hpg _).other hpg _, fun h1 h2 => F.ap (h1.resolve_left (by decide)) (h2.resolve_left (by decide)), fun h => F.f0 (h.resolve_left (by decide)), fun h => F.f1 (h.resolve_left (by decide)), fun h => F.f2 (h.resolve_left (by decide)), fun h => F.f3 (h.resolve_left (by decide)), fun h => F.f4 (h.resolve_left (by decide)), fun h => F.f5 (h.resolve_left (by decide)), fun h => F.f6 (h.resolve_left (by decide)), fun h => F.f7 (h.resolve_left (by decide)), fun h => F.f8 (h.resolve_left (by decide)), fun h => F.f9 (h.resolve_left (by decide)), fun h => F.f10 (h.resolve_left (by decide)), fun h => F.f11 (h.resolve_left (by decide)), fun h => F.f12 (h.resolve_left (by decide)), fun h => F.f13 (h.resolve_left (by decide)), fun h => F.f14 (h.resolve_left (by decide)), fun h => F.f15 (h.resolve_left (by decide)), fun _ => ⟨p, _, _, ep, hp1, (hp2.set 0 _).set 1 _⟩, fun h => by obtain ⟨z, x, y, e, h1, h2⟩ := F.f17 (h.resolve_left (by decide)); exact ⟨z, x, y, e, h1, (h2.other (NE _ e (h.resolve_left (by decide))) _).other (NE _ e (h.resolve_left (by decide))) _⟩, fun _ => ⟨p, ep, hp1, (hp2.set 0 _).set 1 _⟩, fun h => by obtain ⟨z, e, h1, h2⟩ := F.f19 (h.resolve_left (by decide)); exact ⟨z, e, h1, (h2.other (NE _ e (hcl 19 17 (by kernel_rfl) (h.resolve_left (by decide)))) _).other (NE _ e (hcl 19 17 (by kernel_rfl) (h.resolve_left (by decide)))) _⟩⟩⟩
          refine StepsFrom.cons rfl (fun L a w' hI hno hdep hcl K hK => ?_) ?_
          · obtain ⟨v9, v10, v28, v29, v30, v31, v32, v33, v34, v35, v36, v37, v38, v39, v40, v41, v42, v43, ha, F⟩ := hI
            have e43 := F.f15 (hdep 15 (by kernel_rfl))
            refine (F.f17 (hdep 17 (by kernel_rfl))).elim fun p hp => ?_
            refine hp.elim fun x hp => ?_
            refine hp.elim fun y hp => ?_
            have ep := hp.1
            have hp1 := hp.2.1
            have hp2 := hp.2.2
            clear hp
            have NE : ∀ z, v9 = .pointer (some ⟨z, 0, none⟩) → L 16 → z ≠ p := fun z hz hl hp => F.ap hl (hdep 17 (by kernel_rfl)) (by rw [ep, hz, hp])
            have hrl := F.r0.lt
            have cc := hp2.c2
            have d0 := cc.1
            have d1 := cc.2
            clear cc
            have hf := hp2.frozen
            have hpg : g ≠ p := by omega
            have hpb : wr.heap.size ≠ p := by omega
            subst ha
            simp only [Act.put, List.setIfInBounds_toArray, List.set_cons_zero, List.set_cons_succ, ep, e43]
            go_simp
            exact hK.out _ _ ⟨v9, v10, v28, v29, v30, v31, v32, v33, v34, v35, v36, v37, v38, v39, v40, v41, v42, v43, by simp only [Act.put, List.setIfInBounds_toArray, List.set_cons_zero, List.set_cons_succ, ep, e43], ⟨(F.qb.setCell (p := ⟨p, 0, none⟩) (by show _ ≤ p; omega) _).setCell (p := ⟨p, 1, none⟩) (by show _ ≤ p; omega) _, (F.rb.other hpb _).other hpb _, (F.r0.other hpg _).other hpg _, fun h1 h2 => F.ap (h1.resolve_left (by decide)) (h2.resolve_left (by decide)), fun h => F.f0 (h.resolve_left (by decide)), fun h => F.f1 (h.resolve_left (by decide)), fun h => F.f2 (h.resolve_left (by decide)), fun h => F.f3 (h.resolve_left (by decide)), fun h => F.f4 (h.resolve_left (by decide)), fun h => F.f5 (h.resolve_left (by decide)), fun h => F.f6 (h.resolve_left (by decide)), fun h => F.f7 (h.resolve_left (by decide)), fun h => F.f8 (h.resolve_left (by decide)), fun h => F.f9 (h.resolve_left (by decide)), fun h => F.f10 (h.resolve_left (by decide)), fun h => F.f11 (h.resolve_left (by decide)), fun h => F.f12 (h.resolve_left (by decide)), fun h => F.f13 (h.resolve_left (by decide)), fun h => F.f14 (h.resolve_left (by decide)), fun h => F.f15 (h.resolve_left (by decide)), fun h => by obtain ⟨z, x, y, e, h1, h2⟩ := F.f16 (h.resolve_left (by decide)); exact ⟨z, x, y, e, h1, (h2.other (NE _ e (h.resolve_left (by decide))) _).other (NE _ e (h.resolve_left (by decide))) _⟩, fun _ => ⟨p, _, _, ep, hp1, (hp2.set 0 _).set 1 _⟩, fun h => by obtain ⟨z, e, h1, h2⟩ := F.f18 (h.resolve_left (by decide)); exact ⟨z, e, h1, (h2.other (NE _ e (hcl 18 16 (by kernel_rfl) (h.resolve_left (by decide)))) _).other (NE _ e (hcl 18 16 (by kernel_rfl) (h.resolve_left (by decide)))) _⟩, fun _ => ⟨p, ep, hp1, (hp2.set 0 _).set 1 _⟩⟩⟩
          exact StepsFrom.nil (by decide)
        case fin =>
          rintro L a' w' ⟨v9, v10, v28, v29, v30, v31, v32, v33, v34, v35, v36, v37, v38, v39, v40, v41, v42, v43, rfl, F⟩ hL
          obtain ⟨p, e9, hp1, hp2⟩ := F.f18 (hL 18 (by decide))
          obtain ⟨q, e10, hq1, hq2⟩ := F.f19 (hL 19 (by decide))
          have hpq : p ≠ q := fun h => F.ap (hL 16 (by decide)) (hL 17 (by decide)) (by rw [e9, e10, h])
          have q9 := F.qb
          have rb9 := F.rb
          have row9 := F.r0
          clear F hL
          have cb := rb9.c3
          have b0 := cb.1
          have b1 := cb.2.1
          have b2 := cb.2.2
          have cp := hp2.c2
          have p0 := cp.1
          have p1 := cp.2
          have cg := CA.out _ row9
          have g0 := cg.1.1
          have g1 := cg.1.2
          have hf := row9.frozen
          have hrl := row9.lt
          have hpg : p ≠ g := by omega
          have hqg : q ≠ g := by omega
          have hqg' := hqg.symm
          clear cb cp cg
          subst e9 e10
          simp only [Act.put, List.setIfInBounds_toArray, List.set_cons_zero, List.set_cons_succ]
          go_upto_region 10 with (fail)
          refine wpS (fun W' => Below w.heap.size w W' ∧ RowB W' wr.heap.size 49 [.int .i64 (i : Int), .int .i64 (j : Int), .int .i64 r] ∧ RowB W' q 33 [.int .i64 u3, .int .i64 u4] ∧ RowB W' g 33 ((ys.set i (u1, u2)).flatMap enI2 ++ rest)) ⟨(q9.setCell (p := ⟨g, i * 2, none⟩) hlo' _).setCell (p := ⟨g, i * 2 + 1, none⟩) hlo' _, (rb9.other hnb _).other hnb _, (hq2.other hqg _).other hqg _, rat_set row9 i HIL.out u1 u2⟩ ?_
          clear b0 b1 b2 p0 p1 g0 g1 hf hrl q9 rb9 hp2 hq2 row9
          rintro w5 ⟨q5, rb5, rq5, row5⟩
          obtain ⟨b0, b1, b2⟩ := rb5.c3
          obtain ⟨p0, p1⟩ := rq5.c2
          obtain ⟨g0, g1⟩ := CB.out _ row5
          have hf := row5.frozen
          have row9 := Lib.hid (show RowB ((w5.setCell ⟨g, j * 2, none⟩ (.int .i64 u3)).setCell ⟨g, j * 2 + 1, none⟩ (.int .i64 u4)) g 33 (yn.flatMap enI2 ++ rest) from by rw [HST.out]; exact rat_set row5 j HJL2.out u3 u4)
          go_wp2_with fail
          go_roundw
          case rel => exact ⟨k + 1, by omega, by go_num, (q5.setCell (p := ⟨g, j * 2, none⟩) hlo' _).setCell (p := ⟨g, j * 2 + 1, none⟩) hlo' _, by rw [HYN.out]; exact row9⟩
          case measure => simp [intOf]; omega
      · obtain rfl : k = N := by omega
        have HF : Hid (OwnS wr w.heap.size wr.heap.size 33 2 enI2 (.slice (some ⟨g, 0, none⟩) n cap) (allR xs ms)) := by
          have h := hR.out
          rw [List.take_of_length_le (by rw [HNN.out]; exact Nat.le_refl _)] at h
          have hlen : (allR xs ms).length = n := by rw [allR_len]; exact Hn.out
          have := OwnS.mk_ (lo := w.heap.size) (hi := wr.heap.size) (cap := cap) enI2_len h hlo' hgr (by rw [hlen]; exact hnc) hcm (by rw [hlen]; exact hl)
          rw [hlen] at this
          exact this
        go_wp2_with fail
        go_ret2
        exact ⟨⟨_, ra_eq HC.out, by rw [HV.out]; exact HF.out⟩, qb⟩
end Go.Proofs.YtjmckpaemmjcmaaDoor.RateAll3
