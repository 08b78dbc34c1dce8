/-
  IsBoard of the program and of the reference. Conditions: each theorem's own.
-/
import Derived.Test.YtfgkkmhafdbicaaBd1
import Derived.Test.YtfgkkmhafdbicaaRegG
import Derived.Deep.RegionHeld3
import Derived.Deep.DeepCutAuto
set_option linter.unusedVariables false
set_option linter.unusedSimpArgs false
namespace Go.Proofs.Ytfgkkmhafdbicaa.Bd3I
open Go.ChangeShapes Go.WideShapes Go.ChangeAt Go.RowKit Base Ints Own Clone RelG PlP Bd1 Bd2 RegInv RegF

theorem apart_no {v : Vr} {b : Bd} {n k : Nat} (hk : k < n) (h : 0 < at_ b.1 k ∧ 0 < at_ b.2 (v.p.toNat - 1 - k)) : apart v b n = false := by
  cases hc : apart v b n with
  | false => rfl
  | true => exact absurd h ((apart_iff n).1 hc k hk)
theorem apart_step {v : Vr} {b : Bd} {k : Nat} (h : apart v b k = true) (hn : ¬ (0 < at_ b.1 k ∧ 0 < at_ b.2 (v.p.toNat - 1 - k))) : apart v b (k + 1) = true := by
  refine (apart_iff (k + 1)).2 fun i hi => ?_
  by_cases e : i = k
  · subst e; exact hn
  · exact (apart_iff k).1 h i (by omega)
theorem okB_eq (v : Vr) (b : Bd) : okB v b = (okV v && okS v b.1 && okS v b.2 && !(decide (b.1.sum = 0) && decide (b.2.sum = 0)) && apart v b v.p.toNat) := rfl

set_option maxHeartbeats 4000000 in
set_option maxRecDepth 100000 in
theorem isB_i (v : Vr) (b : Bd) (Ao At : Option Addr) (co ct B : Nat) (w : World) (hB : B ≤ w.heap.size) (ho : RdS w B 1 enI Ao b.1) (ht : RdS w B 1 enI At b.2) (x : Bool) (hx : okB v b = x) :
    Calls Try.prog 26 #[.agg #[.int .i64 v.p, .int .i64 v.c, .int .i64 v.h, .int .i64 v.s], .agg #[.slice Ao b.1.length co, .slice At b.2.length ct]] w fun e w' => e = .returned (.bool x) ∧ Below w.heap.size w w' := by
  rw [okB_eq] at hx
  obtain ⟨a, ha⟩ : ∃ a, okV v = a := ⟨_, rfl⟩
  obtain ⟨s1, hs1⟩ : ∃ a, okS v b.1 = a := ⟨_, rfl⟩
  obtain ⟨s2, hs2⟩ : ∃ a, okS v b.2 = a := ⟨_, rfl⟩
  rw [ha, hs1, hs2] at hx
  have HX := Lib.hid hx
  have HA := Lib.hid ha
  have H1 := Lib.hid hs1
  have H2 := Lib.hid hs2
  have HO := Lib.hid ho
  have HT := Lib.hid ht
  have CV := Lib.hid (fun w => var_i v a ha w)
  clear hx ha hs1 hs2 ho ht
  go_enter Try.func26, Try.ntmps26
  go_upto_region 1 with (fail)
  refine wp_gen (fun W' => Below w.heap.size w W' ∧ RowB W' w.heap.size 32 [.int .i64 v.p, .int .i64 v.c, .int .i64 v.h, .int .i64 v.s] ∧ RowB W' (w.heap.size + 1) 34 [.slice Ao b.1.length co, .slice At b.2.length ct]) ⟨by go_grown, (RowB.new _ _ _).alloc _, RowB.new' _ _ _ (by simp)⟩ ?_
  rintro w1 ⟨hb1, rv, rb⟩
  obtain ⟨q0, q1, q2, q3⟩ := rv.c4
  obtain ⟨r0, r1⟩ := rb.c2
  have hl1 := rv.lt
  have hl2 := rb.lt
  go_wp2_with fail
  refine (CV.out _).mono ?_
  rintro e w2 ⟨rfl, hb2⟩
  have rv := rv.below hb2 rv.lt
  have rb := rb.below hb2 rb.lt
  have hb2 := hb1.trans (hb2.mono hb1.size)
  clear q0 q1 q2 q3 r0 r1 hl1 hl2 hb1
  obtain ⟨q0, q1, q2, q3⟩ := rv.c4
  obtain ⟨r0, r1⟩ := rb.c2
  have hl1 := rv.lt
  have hl2 := rb.lt
  cases a
  case false =>
    obtain rfl : x = false := by rw [← HX.out]; rfl
    go_wp2_with fail
    go_ret
    exact ⟨rfl, hb2⟩
  have hvv := okV_iff.1 HA.out
  go_wp2_with fail
  refine (side_i v HA.out Ao co B b.1 s1 H1.out w2 (Nat.le_trans hB hb2.size) (HO.out.below hb2 hB)).mono ?_
  rintro e w3 ⟨rfl, hb3⟩
  have rv := rv.below hb3 rv.lt
  have rb := rb.below hb3 rb.lt
  have hb3 := hb2.trans (hb3.mono hb2.size)
  clear q0 q1 q2 q3 r0 r1 hl1 hl2 hb2
  obtain ⟨q0, q1, q2, q3⟩ := rv.c4
  obtain ⟨r0, r1⟩ := rb.c2
  have hl1 := rv.lt
  have hl2 := rb.lt
  cases s1
  case false =>
    obtain rfl : x = false := by rw [← HX.out]; rfl
    go_wp2_with fail
    go_ret
    exact ⟨rfl, hb3⟩
  have d1 := okS_iff.1 H1.out
  go_wp2_with fail
  refine (side_i v HA.out At ct B b.2 s2 H2.out w3 (Nat.le_trans hB hb3.size) (HT.out.below hb3 hB)).mono ?_
  rintro e w4 ⟨rfl, hb4⟩
  have rv := rv.below hb4 rv.lt
  have rb := rb.below hb4 rb.lt
  have hb4 := hb3.trans (hb4.mono hb3.size)
  clear q0 q1 q2 q3 r0 r1 hl1 hl2 hb3
  obtain ⟨q0, q1, q2, q3⟩ := rv.c4
  obtain ⟨r0, r1⟩ := rb.c2
  have hl1 := rv.lt
  have hl2 := rb.lt
  cases s2
  case false =>
    obtain rfl : x = false := by rw [← HX.out]; rfl
    go_wp2_with fail
    go_ret
    exact ⟨rfl, hb4⟩
  have d2 := okS_iff.1 H2.out
  have D1 := Lib.hid d1
  have D2 := Lib.hid d2
  have N1 := d1.len
  have N2 := d2.len
  have S1 := Lib.hid (fun w (h : RdS w B 1 enI Ao b.1) => sum_i Ao co B b.1 w h (fun i => ⟨d1.nn i, by have := d1.top i; omega⟩) (by omega))
  have S2 := Lib.hid (fun w (h : RdS w B 1 enI At b.2) => sum_i At ct B b.2 w h (fun i => ⟨d2.nn i, by have := d2.top i; omega⟩) (by omega))
  clear d1 d2
  go_wp2_with fail
  refine (S1.out _ (HO.out.below hb4 hB)).mono ?_
  rintro e w5 ⟨rfl, rfl⟩
  have CONT : Hid (¬ (b.1.sum = 0 ∧ b.2.sum = 0) → apart v b v.p.toNat = x) := Lib.hid (fun h => by
    rw [← HX.out]
    have : (decide (b.1.sum = 0) && decide (b.2.sum = 0)) = false := by
      cases e : (decide (b.1.sum = 0) && decide (b.2.sum = 0)) with
      | false => rfl
      | true => exact absurd (by simpa using e) h
    rw [this]; rfl)
  obtain ⟨z1, hz1⟩ : ∃ z, b.1.sum = z := ⟨_, rfl⟩
  obtain ⟨z2, hz2⟩ : ∃ z, b.2.sum = z := ⟨_, rfl⟩
  have S2' := Lib.hid S2.out
  rw [hz1] at CONT HX ⊢
  rw [hz2] at CONT HX S2'
  clear S2 S1
  by_cases hzz : z1 = 0 ∧ z2 = 0
  case pos =>
    obtain rfl : x = false := by rw [← HX.out]; simp [hzz]
    obtain ⟨rfl, rfl⟩ := hzz
    clear hz1 hz2
    go_wp2_with fail
    refine (S2'.out _ (HT.out.below hb4 hB)).mono ?_
    rintro e w5 ⟨rfl, rfl⟩
    go_wp2_with fail
    go_ret
    exact ⟨rfl, hb4⟩
  have HAP := Lib.hid (CONT.out hzz)
  clear CONT
  have hp0 : 0 ≤ v.p := by omega
  have go : ∀ (K : World → Prop), K w4 → True := fun _ _ => trivial
  clear go
  have e5 : (z2 == 0) = decide (z2 = 0) := by first | rfl | simp
  by_cases hz10 : z1 = 0
  · have hz20 : ¬ z2 = 0 := fun h => hzz ⟨hz10, h⟩
    have g1 : (z1 == 0) = true := by simp [hz10]
    have g2 : (z2 == 0) = false := by simp [hz20]
    clear hzz hz10 hz20 hz1 hz2 e5
    go_wp2_with fail
    refine (S2'.out _ (HT.out.below hb4 hB)).mono ?_
    rintro e w5 ⟨rfl, rfl⟩
    go_wp2_with fail
    go_loopw [37] (fun i wr => ∃ (k : Nat), (k : Int) ≤ v.p ∧ i = .int .i64 (k : Int) ∧ Hid (Below w.heap.size w wr) ∧ RowB wr w.heap.size 32 [.int .i64 v.p, .int .i64 v.c, .int .i64 v.h, .int .i64 v.s] ∧ RowB wr (w.heap.size + 1) 34 [.slice Ao b.1.length co, .slice At b.2.length ct] ∧ Hid (apart v b k = true)) (fun i _ => v.p.toNat - (intOf i).toNat)
    case atStart => exact ⟨0, by omega, by first | rfl | trivial, Lib.hid hb4, rv, rb, rfl⟩
    case round =>
      obtain ⟨k, hk, rfl, hb, rv, rb, hap⟩ := hrel
      clear q0 q1 q2 q3 r0 r1 hl1 hl2
      obtain ⟨q0, q1, q2, q3⟩ := rv.c4
      obtain ⟨r0, r1⟩ := rb.c2
      by_cases hlt : (k : Int) < v.p
      · obtain ⟨b1, o1, rfl, hb1', hc1⟩ := at_rd (HO.out.below hb.out hB) (i := k) (by omega)
        have ei : (v.p - 1 - (k : Int)).toNat = v.p.toNat - 1 - k := by omega
        obtain ⟨j, hj⟩ : ∃ j : Nat, v.p - 1 - (k : Int) = (j : Int) := ⟨(v.p - 1 - (k : Int)).toNat, by omega⟩
        have hj2 : v.p.toNat - 1 - k = j := by omega
        obtain ⟨b2, o2, rfl, hb2', hc2⟩ := at_rd (HT.out.below hb.out hB) (i := j) (by omega)
        have e1 : IntKind.i64.wrap (v.p - 1) = v.p - 1 := IntWalk.i64_in _ (by omega)
        have e2 : IntKind.i64.wrap (v.p - 1 - (k : Int)) = (j : Int) := by rw [hj]; exact IntWalk.i64_in _ (by omega)
        by_cases g1 : 0 < at_ b.1 k
        · by_cases g2 : 0 < at_ b.2 j
          · obtain rfl : x = false := by rw [← HAP.out]; exact apart_no (k := k) (by omega) ⟨g1, by rw [hj2]; exact g2⟩
            clear ei hj2
            go_wp2_with fail
            go_ret
            exact ⟨rfl, hb.out⟩
          · have HP : Hid (apart v b (k + 1) = true) := Lib.hid (apart_step hap.out (fun h => g2 (by rw [← hj2]; exact h.2)))
            clear ei hj2
            go_wp2_with fail
            go_roundw
            case rel => exact ⟨k + 1, by omega, by go_num, hb, rv, rb, HP⟩
            case measure => simp [intOf]; omega
        · have HP : Hid (apart v b (k + 1) = true) := Lib.hid (apart_step hap.out (fun h => g1 h.1))
          clear ei hj2
          go_wp2_with fail
          go_roundw
          case rel => exact ⟨k + 1, by omega, by go_num, hb, rv, rb, HP⟩
          case measure => simp [intOf]; omega
      · obtain rfl : x = true := by rw [← HAP.out, ← hap.out]; congr 1; omega
        go_wp2_with fail
        go_ret
        exact ⟨rfl, hb.out⟩
  · have g1 : (z1 == 0) = false := by simp [hz10]
    clear hzz hz10 hz1 hz2 e5
    go_wp2_with fail
    go_loopw [37] (fun i wr => ∃ (k : Nat), (k : Int) ≤ v.p ∧ i = .int .i64 (k : Int) ∧ Hid (Below w.heap.size w wr) ∧ RowB wr w.heap.size 32 [.int .i64 v.p, .int .i64 v.c, .int .i64 v.h, .int .i64 v.s] ∧ RowB wr (w.heap.size + 1) 34 [.slice Ao b.1.length co, .slice At b.2.length ct] ∧ Hid (apart v b k = true)) (fun i _ => v.p.toNat - (intOf i).toNat)
    case atStart => exact ⟨0, by omega, by first | rfl | trivial, Lib.hid hb4, rv, rb, rfl⟩
    case round =>
      obtain ⟨k, hk, rfl, hb, rv, rb, hap⟩ := hrel
      clear q0 q1 q2 q3 r0 r1 hl1 hl2
      obtain ⟨q0, q1, q2, q3⟩ := rv.c4
      obtain ⟨r0, r1⟩ := rb.c2
      by_cases hlt : (k : Int) < v.p
      · obtain ⟨b1, o1, rfl, hb1', hc1⟩ := at_rd (HO.out.below hb.out hB) (i := k) (by omega)
        have ei : (v.p - 1 - (k : Int)).toNat = v.p.toNat - 1 - k := by omega
        obtain ⟨j, hj⟩ : ∃ j : Nat, v.p - 1 - (k : Int) = (j : Int) := ⟨(v.p - 1 - (k : Int)).toNat, by omega⟩
        have hj2 : v.p.toNat - 1 - k = j := by omega
        obtain ⟨b2, o2, rfl, hb2', hc2⟩ := at_rd (HT.out.below hb.out hB) (i := j) (by omega)
        have e1 : IntKind.i64.wrap (v.p - 1) = v.p - 1 := IntWalk.i64_in _ (by omega)
        have e2 : IntKind.i64.wrap (v.p - 1 - (k : Int)) = (j : Int) := by rw [hj]; exact IntWalk.i64_in _ (by omega)
        by_cases g1 : 0 < at_ b.1 k
        · by_cases g2 : 0 < at_ b.2 j
          · obtain rfl : x = false := by rw [← HAP.out]; exact apart_no (k := k) (by omega) ⟨g1, by rw [hj2]; exact g2⟩
            clear ei hj2
            go_wp2_with fail
            go_ret
            exact ⟨rfl, hb.out⟩
          · have HP : Hid (apart v b (k + 1) = true) := Lib.hid (apart_step hap.out (fun h => g2 (by rw [← hj2]; exact h.2)))
            clear ei hj2
            go_wp2_with fail
            go_roundw
            case rel => exact ⟨k + 1, by omega, by go_num, hb, rv, rb, HP⟩
            case measure => simp [intOf]; omega
        · have HP : Hid (apart v b (k + 1) = true) := Lib.hid (apart_step hap.out (fun h => g1 h.1))
          clear ei hj2
          go_wp2_with fail
          go_roundw
          case rel => exact ⟨k + 1, by omega, by go_num, hb, rv, rb, HP⟩
          case measure => simp [intOf]; omega
      · obtain rfl : x = true := by rw [← HAP.out, ← hap.out]; congr 1; omega
        go_wp2_with fail
        go_ret
        exact ⟨rfl, hb.out⟩
end Go.Proofs.Ytfgkkmhafdbicaa.Bd3I
