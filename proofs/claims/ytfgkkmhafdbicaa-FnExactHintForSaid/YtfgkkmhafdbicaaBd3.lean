/-
  IsBoard of the program and of the reference. Conditions: each theorem's own.
-/
import Derived.Test.YtfgkkmhafdbicaaBd1
import Derived.Test.YtfgkkmhafdbicaaRegG
import Derived.Deep.RegionHeld3
import Derived.Deep.DeepCutAuto
set_option linter.unusedVariables false
set_option linter.unusedSimpArgs false
namespace Go.Proofs.Ytfgkkmhafdbicaa.Bd3
open Go.ChangeShapes Go.WideShapes Go.ChangeAt Go.RowKit Base Ints Own Clone RelG PlP Bd1 Bd2 RegInv RegF

theorem apart_no {v : Vr} {b : Bd} {n k : Nat} (hk : k < n) (h : 0 < at_ b.1 k ∧ 0 < at_ b.2 (v.p.toNat - 1 - k)) : apart v b n = false := by
  cases hc : apart v b n with
  | false => rfl
  | true => exact absurd h ((apart_iff n).1 hc k hk)
theorem apart_step {v : Vr} {b : Bd} {k : Nat} (h : apart v b k = true) (hn : ¬ (0 < at_ b.1 k ∧ 0 < at_ b.2 (v.p.toNat - 1 - k))) : apart v b (k + 1) = true := by
  refine (apart_iff (k + 1)).2 fun i hi => ?_
  by_cases e : i = k
  · subst e; exact hn
  · exact (apart_iff k).1 h i (by omega)
theorem okB_eq (v : Vr) (b : Bd) : okB v b = (okV v && okS v b.1 && okS v b.2 && !(decide (b.1.sum = 0) && decide (b.2.sum = 0)) && apart v b v.p.toNat) := rfl

set_option maxHeartbeats 4000000 in
set_option maxRecDepth 100000 in
theorem isB_s (v : Vr) (b : Bd) (Ao At : Option Addr) (co ct B : Nat) (w : World) (hB : B ≤ w.heap.size) (ho : RdS w B 1 enI Ao b.1) (ht : RdS w B 1 enI At b.2) (x : Bool) (hx : okB v b = x) :
    Calls Try.prog 30 #[.agg #[.int .i64 v.p, .int .i64 v.c, .int .i64 v.h, .int .i64 v.s], .agg #[.slice Ao b.1.length co, .slice At b.2.length ct]] w fun e w' => e = .returned (.bool x) ∧ Below w.heap.size w w' := by
  rw [okB_eq] at hx
  obtain ⟨a, ha⟩ : ∃ a, okV v = a := ⟨_, rfl⟩
  obtain ⟨s1, hs1⟩ : ∃ a, okS v b.1 = a := ⟨_, rfl⟩
  obtain ⟨s2, hs2⟩ : ∃ a, okS v b.2 = a := ⟨_, rfl⟩
  rw [ha, hs1, hs2] at hx
  have HX := Lib.hid hx
  have HA := Lib.hid ha
  have H1 := Lib.hid hs1
  have H2 := Lib.hid hs2
  have HO := Lib.hid ho
  have HT := Lib.hid ht
  have CV := Lib.hid (fun w => var_s v a ha w)
  clear hx ha hs1 hs2 ho ht
  go_enter Try.func30, Try.ntmps30
  go_upto_region 1 with (fail)
  refine wp_gen (fun W' => Below w.heap.size w W' ∧ RowB W' w.heap.size 32 [.int .i64 v.p, .int .i64 v.c, .int .i64 v.h, .int .i64 v.s] ∧ RowB W' (w.heap.size + 1) 34 [.slice Ao b.1.length co, .slice At b.2.length ct]) ⟨by go_grown, (RowB.new _ _ _).alloc _, RowB.new' _ _ _ (by simp)⟩ ?_
  rintro w1 ⟨hb1, rv, rb⟩
  obtain ⟨q0, q1, q2, q3⟩ := rv.c4
  obtain ⟨r0, r1⟩ := rb.c2
  have hl1 := rv.lt
  have hl2 := rb.lt
  clear q0 q1 q2 q3 r0 r1 hl1 hl2
  cases a
  case false =>
    obtain rfl : x = false := by rw [← HX.out]; rfl
    go_upto_region 1 with (fail)
    refine region_fix [some 6, some 7, some 8, some 9, some 10, some 11, some 12, some 13, some 14, some 15, some 16, some 17, some 18, some 19, some 20, some 21, some 22, some 23, some 24, some 25, some 26, some 27, some 28, some 29, some 30, some 31, some 32] (fun j_ => ([.agg #[.int .i64 v.p, .int .i64 v.c, .int .i64 v.h, .int .i64 v.s], .bool false, .bool true, .bool true, undef, undef, undef, undef, undef, .bool true, .bool true, undef, undef, undef, undef, undef, .bool true, .bool true, undef, undef, undef, undef, undef, undef, undef, undef, .bool true] : List Value).getD j_ undef) (fun L w' => Below w.heap.size w w' ∧ RowB w' w.heap.size 32 [.int .i64 v.p, .int .i64 v.c, .int .i64 v.h, .int .i64 v.s] ∧ RowB w' (w.heap.size + 1) 34 [.slice Ao b.1.length co, .slice At b.2.length ct]) (by kernel_rfl) (by kernel_rfl) (by kernel_rfl) (by kernel_rfl) (by first | kernel_rfl | rfl) (by first | kernel_rfl | rfl) ?hB1 ?hBL1 ?hst1 ?fin1
    case hB1 => exact ⟨hb1.drew, rv.drew, rb.drew⟩
    case hBL1 => exact fun _ _ _ _ h => h
    case hst1 =>
      refine FixFrom.run rfl rfl (fun L A w9 hno hu h0 hb9 K hK => ?_) ?_
      · have e2 : A.tmps[2]?.getD undef = .pointer (some ⟨w.heap.size, 0, none⟩) := h0 2 (by decide)
        clear hu h0
        have rv := hb9.2.1
        have rb := hb9.2.2
        replace hb9 := hb9.1
        have q0 := rv.c4.1
        have q1 := rv.c4.2.1
        have q2 := rv.c4.2.2.1
        have q3 := rv.c4.2.2.2
        have r0 := rb.c2.1
        have r1 := rb.c2.2
        have hl1 := rv.lt
        have hl2 := rb.lt
        go_simp
        exact hK.out w9 ⟨hb9, rv, rb⟩
      refine FixFrom.run rfl rfl (fun L A w9 hno hu h0 hb9 K hK => ?_) ?_
      · have e6 : A.tmps[6]?.getD undef = .agg #[.int .i64 v.p, .int .i64 v.c, .int .i64 v.h, .int .i64 v.s] := hu 0 6 (by kernel_rfl) rfl
        clear hu h0
        have rv := hb9.2.1
        have rb := hb9.2.2
        replace hb9 := hb9.1
        have q0 := rv.c4.1
        have q1 := rv.c4.2.1
        have q2 := rv.c4.2.2.1
        have q3 := rv.c4.2.2.2
        have r0 := rb.c2.1
        have r1 := rb.c2.2
        have hl1 := rv.lt
        have hl2 := rb.lt
        go_simp
        refine (CV.out w9).mono ?_
        rintro e w2 ⟨rfl, hv2⟩
        exact hK.out w2 ⟨hb9.trans (hv2.mono hb9.size), rv.below hv2 rv.lt, rb.below hv2 rb.lt⟩
      refine FixFrom.run rfl rfl (fun L A w9 hno hu h0 hb9 K hK => ?_) ?_
      · have e7 : A.tmps[7]?.getD undef = .bool false := hu 1 7 (by kernel_rfl) rfl
        clear hu h0
        have rv := hb9.2.1
        have rb := hb9.2.2
        replace hb9 := hb9.1
        have q0 := rv.c4.1
        have q1 := rv.c4.2.1
        have q2 := rv.c4.2.2.1
        have q3 := rv.c4.2.2.2
        have r0 := rb.c2.1
        have r1 := rb.c2.2
        have hl1 := rv.lt
        have hl2 := rb.lt
        go_simp
        exact hK.out w9 ⟨hb9, rv, rb⟩
      refine FixFrom.run rfl rfl (fun L A w9 hno hu h0 hb9 K hK => ?_) ?_
      · have e8 : A.tmps[8]?.getD undef = .bool true := hu 2 8 (by kernel_rfl) rfl
        clear hu h0
        have rv := hb9.2.1
        have rb := hb9.2.2
        replace hb9 := hb9.1
        have q0 := rv.c4.1
        have q1 := rv.c4.2.1
        have q2 := rv.c4.2.2.1
        have q3 := rv.c4.2.2.2
        have r0 := rb.c2.1
        have r1 := rb.c2.2
        have hl1 := rv.lt
        have hl2 := rb.lt
        go_simp
        exact hK.out w9 ⟨hb9, rv, rb⟩
      refine FixFrom.skip rfl rfl rfl (fun _ _ h => h) ?_
      refine FixFrom.skip rfl rfl rfl (fun _ _ h => h) ?_
      refine FixFrom.skip rfl rfl rfl (fun _ _ h => h) ?_
      refine FixFrom.skip rfl rfl rfl (fun _ _ h => h) ?_
      refine FixFrom.skip rfl rfl rfl (fun _ _ h => h) ?_
      refine FixFrom.run rfl rfl (fun L A w9 hno hu h0 hb9 K hK => ?_) ?_
      · have e9 : A.tmps[9]?.getD undef = .bool true := hu 3 9 (by kernel_rfl) rfl
        have e14 : A.tmps[14]?.getD undef = undef := hu 8 14 (by kernel_rfl) rfl
        clear hu h0
        have rv := hb9.2.1
        have rb := hb9.2.2
        replace hb9 := hb9.1
        have q0 := rv.c4.1
        have q1 := rv.c4.2.1
        have q2 := rv.c4.2.2.1
        have q3 := rv.c4.2.2.2
        have r0 := rb.c2.1
        have r1 := rb.c2.2
        have hl1 := rv.lt
        have hl2 := rb.lt
        go_simp
        exact hK.out w9 ⟨hb9, rv, rb⟩
      refine FixFrom.run rfl rfl (fun L A w9 hno hu h0 hb9 K hK => ?_) ?_
      · have e15 : A.tmps[15]?.getD undef = .bool true := hu 9 15 (by kernel_rfl) rfl
        clear hu h0
        have rv := hb9.2.1
        have rb := hb9.2.2
        replace hb9 := hb9.1
        have q0 := rv.c4.1
        have q1 := rv.c4.2.1
        have q2 := rv.c4.2.2.1
        have q3 := rv.c4.2.2.2
        have r0 := rb.c2.1
        have r1 := rb.c2.2
        have hl1 := rv.lt
        have hl2 := rb.lt
        go_simp
        exact hK.out w9 ⟨hb9, rv, rb⟩
      refine FixFrom.skip rfl rfl rfl (fun _ _ h => h) ?_
      refine FixFrom.skip rfl rfl rfl (fun _ _ h => h) ?_
      refine FixFrom.skip rfl rfl rfl (fun _ _ h => h) ?_
      refine FixFrom.skip rfl rfl rfl (fun _ _ h => h) ?_
      refine FixFrom.skip rfl rfl rfl (fun _ _ h => h) ?_
      refine FixFrom.run rfl rfl (fun L A w9 hno hu h0 hb9 K hK => ?_) ?_
      · have e16 : A.tmps[16]?.getD undef = .bool true := hu 10 16 (by kernel_rfl) rfl
        have e21 : A.tmps[21]?.getD undef = undef := hu 15 21 (by kernel_rfl) rfl
        clear hu h0
        have rv := hb9.2.1
        have rb := hb9.2.2
        replace hb9 := hb9.1
        have q0 := rv.c4.1
        have q1 := rv.c4.2.1
        have q2 := rv.c4.2.2.1
        have q3 := rv.c4.2.2.2
        have r0 := rb.c2.1
        have r1 := rb.c2.2
        have hl1 := rv.lt
        have hl2 := rb.lt
        go_simp
        exact hK.out w9 ⟨hb9, rv, rb⟩
      refine FixFrom.run rfl rfl (fun L A w9 hno hu h0 hb9 K hK => ?_) ?_
      · have e22 : A.tmps[22]?.getD undef = .bool true := hu 16 22 (by kernel_rfl) rfl
        clear hu h0
        have rv := hb9.2.1
        have rb := hb9.2.2
        replace hb9 := hb9.1
        have q0 := rv.c4.1
        have q1 := rv.c4.2.1
        have q2 := rv.c4.2.2.1
        have q3 := rv.c4.2.2.2
        have r0 := rb.c2.1
        have r1 := rb.c2.2
        have hl1 := rv.lt
        have hl2 := rb.lt
        go_simp
        exact hK.out w9 ⟨hb9, rv, rb⟩
      refine FixFrom.skip rfl rfl rfl (fun _ _ h => h) ?_
      refine FixFrom.skip rfl rfl rfl (fun _ _ h => h) ?_
      refine FixFrom.skip rfl rfl rfl (fun _ _ h => h) ?_
      refine FixFrom.skip rfl rfl rfl (fun _ _ h => h) ?_
      refine FixFrom.skip rfl rfl rfl (fun _ _ h => h) ?_
      refine FixFrom.skip rfl rfl rfl (fun _ _ h => h) ?_
      refine FixFrom.skip rfl rfl rfl (fun _ _ h => h) ?_
      refine FixFrom.skip rfl rfl rfl (fun _ _ h => h) ?_
      refine FixFrom.run rfl rfl (fun L A w9 hno hu h0 hb9 K hK => ?_) ?_
      · have e23 : A.tmps[23]?.getD undef = .bool true := hu 17 23 (by kernel_rfl) rfl
        have e31 : A.tmps[31]?.getD undef = undef := hu 25 31 (by kernel_rfl) rfl
        clear hu h0
        have rv := hb9.2.1
        have rb := hb9.2.2
        replace hb9 := hb9.1
        have q0 := rv.c4.1
        have q1 := rv.c4.2.1
        have q2 := rv.c4.2.2.1
        have q3 := rv.c4.2.2.2
        have r0 := rb.c2.1
        have r1 := rb.c2.2
        have hl1 := rv.lt
        have hl2 := rb.lt
        go_simp
        exact hK.out w9 ⟨hb9, rv, rb⟩
      exact FixFrom.nil (by decide)
    case fin1 =>
      intro w9 hb9
      simp only [Fr, Act.put, List.setIfInBounds_toArray, List.set_cons_zero, List.set_cons_succ, Nat.reduceAdd, List.getD_cons_zero, List.getD_cons_succ]
      go_wp2_with fail
      go_ret
      exact ⟨rfl, hb9.1⟩
  have hvv := okV_iff.1 HA.out
  have C1 := Lib.hid (fun w9 (h : Below w.heap.size w w9) => side_s v HA.out Ao co B b.1 s1 H1.out w9 (Nat.le_trans hB h.size) (HO.out.below h hB))
  have C2 := Lib.hid (fun w9 (h : Below w.heap.size w w9) => side_s v HA.out At ct B b.2 s2 H2.out w9 (Nat.le_trans hB h.size) (HT.out.below h hB))
  cases s1
  case false =>
    obtain rfl : x = false := by rw [← HX.out]; rfl
    go_upto_region 1 with (fail)
    refine region_fix [some 6, some 7, some 8, some 9, some 10, some 11, some 12, some 13, some 14, some 15, some 16, some 17, some 18, some 19, some 20, some 21, some 22, some 23, some 24, some 25, some 26, some 27, some 28, some 29, some 30, some 31, some 32] (fun j_ => ([.agg #[.int .i64 v.p, .int .i64 v.c, .int .i64 v.h, .int .i64 v.s], .bool true, .bool false, .bool false, .agg #[.int .i64 v.p, .int .i64 v.c, .int .i64 v.h, .int .i64 v.s], .pointer (some ⟨w.heap.size + 1, 0, none⟩), .slice Ao b.1.length co, .bool false, .bool true, .bool true, .bool true, undef, undef, undef, undef, undef, .bool true, .bool true, undef, undef, undef, undef, undef, undef, undef, undef, .bool true] : List Value).getD j_ undef) (fun L w' => Below w.heap.size w w' ∧ RowB w' w.heap.size 32 [.int .i64 v.p, .int .i64 v.c, .int .i64 v.h, .int .i64 v.s] ∧ RowB w' (w.heap.size + 1) 34 [.slice Ao b.1.length co, .slice At b.2.length ct]) (by kernel_rfl) (by kernel_rfl) (by kernel_rfl) (by kernel_rfl) (by first | kernel_rfl | rfl) (by first | kernel_rfl | rfl) ?hB2 ?hBL2 ?hst2 ?fin2
    case hB2 => exact ⟨hb1.drew, rv.drew, rb.drew⟩
    case hBL2 => exact fun _ _ _ _ h => h
    case hst2 =>
      refine FixFrom.run rfl rfl (fun L A w9 hno hu h0 hb9 K hK => ?_) ?_
      · have e2 : A.tmps[2]?.getD undef = .pointer (some ⟨w.heap.size, 0, none⟩) := h0 2 (by decide)
        clear hu h0
        have rv := hb9.2.1
        have rb := hb9.2.2
        replace hb9 := hb9.1
        have q0 := rv.c4.1
        have q1 := rv.c4.2.1
        have q2 := rv.c4.2.2.1
        have q3 := rv.c4.2.2.2
        have r0 := rb.c2.1
        have r1 := rb.c2.2
        have hl1 := rv.lt
        have hl2 := rb.lt
        go_simp
        exact hK.out w9 ⟨hb9, rv, rb⟩
      refine FixFrom.run rfl rfl (fun L A w9 hno hu h0 hb9 K hK => ?_) ?_
      · have e6 : A.tmps[6]?.getD undef = .agg #[.int .i64 v.p, .int .i64 v.c, .int .i64 v.h, .int .i64 v.s] := hu 0 6 (by kernel_rfl) rfl
        clear hu h0
        have rv := hb9.2.1
        have rb := hb9.2.2
        replace hb9 := hb9.1
        have q0 := rv.c4.1
        have q1 := rv.c4.2.1
        have q2 := rv.c4.2.2.1
        have q3 := rv.c4.2.2.2
        have r0 := rb.c2.1
        have r1 := rb.c2.2
        have hl1 := rv.lt
        have hl2 := rb.lt
        go_simp
        refine (CV.out w9).mono ?_
        rintro e w2 ⟨rfl, hv2⟩
        exact hK.out w2 ⟨hb9.trans (hv2.mono hb9.size), rv.below hv2 rv.lt, rb.below hv2 rb.lt⟩
      refine FixFrom.run rfl rfl (fun L A w9 hno hu h0 hb9 K hK => ?_) ?_
      · have e7 : A.tmps[7]?.getD undef = .bool true := hu 1 7 (by kernel_rfl) rfl
        clear hu h0
        have rv := hb9.2.1
        have rb := hb9.2.2
        replace hb9 := hb9.1
        have q0 := rv.c4.1
        have q1 := rv.c4.2.1
        have q2 := rv.c4.2.2.1
        have q3 := rv.c4.2.2.2
        have r0 := rb.c2.1
        have r1 := rb.c2.2
        have hl1 := rv.lt
        have hl2 := rb.lt
        go_simp
        exact hK.out w9 ⟨hb9, rv, rb⟩
      refine FixFrom.run rfl rfl (fun L A w9 hno hu h0 hb9 K hK => ?_) ?_
      · have e8 : A.tmps[8]?.getD undef = .bool false := hu 2 8 (by kernel_rfl) rfl
        clear hu h0
        have rv := hb9.2.1
        have rb := hb9.2.2
        replace hb9 := hb9.1
        have q0 := rv.c4.1
        have q1 := rv.c4.2.1
        have q2 := rv.c4.2.2.1
        have q3 := rv.c4.2.2.2
        have r0 := rb.c2.1
        have r1 := rb.c2.2
        have hl1 := rv.lt
        have hl2 := rb.lt
        go_simp
        exact hK.out w9 ⟨hb9, rv, rb⟩
      refine FixFrom.run rfl rfl (fun L A w9 hno hu h0 hb9 K hK => ?_) ?_
      · have e2 : A.tmps[2]?.getD undef = .pointer (some ⟨w.heap.size, 0, none⟩) := h0 2 (by decide)
        clear hu h0
        have rv := hb9.2.1
        have rb := hb9.2.2
        replace hb9 := hb9.1
        have q0 := rv.c4.1
        have q1 := rv.c4.2.1
        have q2 := rv.c4.2.2.1
        have q3 := rv.c4.2.2.2
        have r0 := rb.c2.1
        have r1 := rb.c2.2
        have hl1 := rv.lt
        have hl2 := rb.lt
        go_simp
        exact hK.out w9 ⟨hb9, rv, rb⟩
      refine FixFrom.run rfl rfl (fun L A w9 hno hu h0 hb9 K hK => ?_) ?_
      · have e3 : A.tmps[3]?.getD undef = .pointer (some ⟨w.heap.size + 1, 0, none⟩) := h0 3 (by decide)
        clear hu h0
        have rv := hb9.2.1
        have rb := hb9.2.2
        replace hb9 := hb9.1
        have q0 := rv.c4.1
        have q1 := rv.c4.2.1
        have q2 := rv.c4.2.2.1
        have q3 := rv.c4.2.2.2
        have r0 := rb.c2.1
        have r1 := rb.c2.2
        have hl1 := rv.lt
        have hl2 := rb.lt
        go_simp
        exact hK.out w9 ⟨hb9, rv, rb⟩
      refine FixFrom.run rfl rfl (fun L A w9 hno hu h0 hb9 K hK => ?_) ?_
      · have e11 : A.tmps[11]?.getD undef = .pointer (some ⟨w.heap.size + 1, 0, none⟩) := hu 5 11 (by kernel_rfl) rfl
        clear hu h0
        have rv := hb9.2.1
        have rb := hb9.2.2
        replace hb9 := hb9.1
        have q0 := rv.c4.1
        have q1 := rv.c4.2.1
        have q2 := rv.c4.2.2.1
        have q3 := rv.c4.2.2.2
        have r0 := rb.c2.1
        have r1 := rb.c2.2
        have hl1 := rv.lt
        have hl2 := rb.lt
        go_simp
        exact hK.out w9 ⟨hb9, rv, rb⟩
      refine FixFrom.run rfl rfl (fun L A w9 hno hu h0 hb9 K hK => ?_) ?_
      · have e10 : A.tmps[10]?.getD undef = .agg #[.int .i64 v.p, .int .i64 v.c, .int .i64 v.h, .int .i64 v.s] := hu 4 10 (by kernel_rfl) rfl
        have e12 : A.tmps[12]?.getD undef = .slice Ao b.1.length co := hu 6 12 (by kernel_rfl) rfl
        clear hu h0
        have rv := hb9.2.1
        have rb := hb9.2.2
        replace hb9 := hb9.1
        have q0 := rv.c4.1
        have q1 := rv.c4.2.1
        have q2 := rv.c4.2.2.1
        have q3 := rv.c4.2.2.2
        have r0 := rb.c2.1
        have r1 := rb.c2.2
        have hl1 := rv.lt
        have hl2 := rb.lt
        go_simp
        refine (C1.out w9 hb9).mono ?_
        rintro e w2 ⟨rfl, hv2⟩
        exact hK.out w2 ⟨hb9.trans (hv2.mono hb9.size), rv.below hv2 rv.lt, rb.below hv2 rb.lt⟩
      refine FixFrom.run rfl rfl (fun L A w9 hno hu h0 hb9 K hK => ?_) ?_
      · have e13 : A.tmps[13]?.getD undef = .bool false := hu 7 13 (by kernel_rfl) rfl
        clear hu h0
        have rv := hb9.2.1
        have rb := hb9.2.2
        replace hb9 := hb9.1
        have q0 := rv.c4.1
        have q1 := rv.c4.2.1
        have q2 := rv.c4.2.2.1
        have q3 := rv.c4.2.2.2
        have r0 := rb.c2.1
        have r1 := rb.c2.2
        have hl1 := rv.lt
        have hl2 := rb.lt
        go_simp
        exact hK.out w9 ⟨hb9, rv, rb⟩
      refine FixFrom.run rfl rfl (fun L A w9 hno hu h0 hb9 K hK => ?_) ?_
      · have e9 : A.tmps[9]?.getD undef = .bool false := hu 3 9 (by kernel_rfl) rfl
        have e14 : A.tmps[14]?.getD undef = .bool true := hu 8 14 (by kernel_rfl) rfl
        clear hu h0
        have rv := hb9.2.1
        have rb := hb9.2.2
        replace hb9 := hb9.1
        have q0 := rv.c4.1
        have q1 := rv.c4.2.1
        have q2 := rv.c4.2.2.1
        have q3 := rv.c4.2.2.2
        have r0 := rb.c2.1
        have r1 := rb.c2.2
        have hl1 := rv.lt
        have hl2 := rb.lt
        go_simp
        exact hK.out w9 ⟨hb9, rv, rb⟩
      refine FixFrom.run rfl rfl (fun L A w9 hno hu h0 hb9 K hK => ?_) ?_
      · have e15 : A.tmps[15]?.getD undef = .bool true := hu 9 15 (by kernel_rfl) rfl
        clear hu h0
        have rv := hb9.2.1
        have rb := hb9.2.2
        replace hb9 := hb9.1
        have q0 := rv.c4.1
        have q1 := rv.c4.2.1
        have q2 := rv.c4.2.2.1
        have q3 := rv.c4.2.2.2
        have r0 := rb.c2.1
        have r1 := rb.c2.2
        have hl1 := rv.lt
        have hl2 := rb.lt
        go_simp
        exact hK.out w9 ⟨hb9, rv, rb⟩
      refine FixFrom.skip rfl rfl rfl (fun _ _ h => h) ?_
      refine FixFrom.skip rfl rfl rfl (fun _ _ h => h) ?_
      refine FixFrom.skip rfl rfl rfl (fun _ _ h => h) ?_
      refine FixFrom.skip rfl rfl rfl (fun _ _ h => h) ?_
      refine FixFrom.skip rfl rfl rfl (fun _ _ h => h) ?_
      refine FixFrom.run rfl rfl (fun L A w9 hno hu h0 hb9 K hK => ?_) ?_
      · have e16 : A.tmps[16]?.getD undef = .bool true := hu 10 16 (by kernel_rfl) rfl
        have e21 : A.tmps[21]?.getD undef = undef := hu 15 21 (by kernel_rfl) rfl
        clear hu h0
        have rv := hb9.2.1
        have rb := hb9.2.2
        replace hb9 := hb9.1
        have q0 := rv.c4.1
        have q1 := rv.c4.2.1
        have q2 := rv.c4.2.2.1
        have q3 := rv.c4.2.2.2
        have r0 := rb.c2.1
        have r1 := rb.c2.2
        have hl1 := rv.lt
        have hl2 := rb.lt
        go_simp
        exact hK.out w9 ⟨hb9, rv, rb⟩
      refine FixFrom.run rfl rfl (fun L A w9 hno hu h0 hb9 K hK => ?_) ?_
      · have e22 : A.tmps[22]?.getD undef = .bool true := hu 16 22 (by kernel_rfl) rfl
        clear hu h0
        have rv := hb9.2.1
        have rb := hb9.2.2
        replace hb9 := hb9.1
        have q0 := rv.c4.1
        have q1 := rv.c4.2.1
        have q2 := rv.c4.2.2.1
        have q3 := rv.c4.2.2.2
        have r0 := rb.c2.1
        have r1 := rb.c2.2
        have hl1 := rv.lt
        have hl2 := rb.lt
        go_simp
        exact hK.out w9 ⟨hb9, rv, rb⟩
      refine FixFrom.skip rfl rfl rfl (fun _ _ h => h) ?_
      refine FixFrom.skip rfl rfl rfl (fun _ _ h => h) ?_
      refine FixFrom.skip rfl rfl rfl (fun _ _ h => h) ?_
      refine FixFrom.skip rfl rfl rfl (fun _ _ h => h) ?_
      refine FixFrom.skip rfl rfl rfl (fun _ _ h => h) ?_
      refine FixFrom.skip rfl rfl rfl (fun _ _ h => h) ?_
      refine FixFrom.skip rfl rfl rfl (fun _ _ h => h) ?_
      refine FixFrom.skip rfl rfl rfl (fun _ _ h => h) ?_
      refine FixFrom.run rfl rfl (fun L A w9 hno hu h0 hb9 K hK => ?_) ?_
      · have e23 : A.tmps[23]?.getD undef = .bool true := hu 17 23 (by kernel_rfl) rfl
        have e31 : A.tmps[31]?.getD undef = undef := hu 25 31 (by kernel_rfl) rfl
        clear hu h0
        have rv := hb9.2.1
        have rb := hb9.2.2
        replace hb9 := hb9.1
        have q0 := rv.c4.1
        have q1 := rv.c4.2.1
        have q2 := rv.c4.2.2.1
        have q3 := rv.c4.2.2.2
        have r0 := rb.c2.1
        have r1 := rb.c2.2
        have hl1 := rv.lt
        have hl2 := rb.lt
        go_simp
        exact hK.out w9 ⟨hb9, rv, rb⟩
      exact FixFrom.nil (by decide)
    case fin2 =>
      intro w9 hb9
      simp only [Fr, Act.put, List.setIfInBounds_toArray, List.set_cons_zero, List.set_cons_succ, Nat.reduceAdd, List.getD_cons_zero, List.getD_cons_succ]
      go_wp2_with fail
      go_ret
      exact ⟨rfl, hb9.1⟩
  cases s2
  case false =>
    obtain rfl : x = false := by rw [← HX.out]; rfl
    go_upto_region 1 with (fail)
    refine region_fix [some 6, some 7, some 8, some 9, some 10, some 11, some 12, some 13, some 14, some 15, some 16, some 17, some 18, some 19, some 20, some 21, some 22, some 23, some 24, some 25, some 26, some 27, some 28, some 29, some 30, some 31, some 32] (fun j_ => ([.agg #[.int .i64 v.p, .int .i64 v.c, .int .i64 v.h, .int .i64 v.s], .bool true, .bool false, .bool false, .agg #[.int .i64 v.p, .int .i64 v.c, .int .i64 v.h, .int .i64 v.s], .pointer (some ⟨w.heap.size + 1, 0, none⟩), .slice Ao b.1.length co, .bool true, .bool false, .bool false, .bool false, .agg #[.int .i64 v.p, .int .i64 v.c, .int .i64 v.h, .int .i64 v.s], .pointer (some ⟨w.heap.size + 1, 1, none⟩), .slice At b.2.length ct, .bool false, .bool true, .bool true, .bool true, undef, undef, undef, undef, undef, undef, undef, undef, .bool true] : List Value).getD j_ undef) (fun L w' => Below w.heap.size w w' ∧ RowB w' w.heap.size 32 [.int .i64 v.p, .int .i64 v.c, .int .i64 v.h, .int .i64 v.s] ∧ RowB w' (w.heap.size + 1) 34 [.slice Ao b.1.length co, .slice At b.2.length ct]) (by kernel_rfl) (by kernel_rfl) (by kernel_rfl) (by kernel_rfl) (by first | kernel_rfl | rfl) (by first | kernel_rfl | rfl) ?hB3 ?hBL3 ?hst3 ?fin3
    case hB3 => exact ⟨hb1.drew, rv.drew, rb.drew⟩
    case hBL3 => exact fun _ _ _ _ h => h
    case hst3 =>
      refine FixFrom.run rfl rfl (fun L A w9 hno hu h0 hb9 K hK => ?_) ?_
      · have e2 : A.tmps[2]?.getD undef = .pointer (some ⟨w.heap.size, 0, none⟩) := h0 2 (by decide)
        clear hu h0
        have rv := hb9.2.1
        have rb := hb9.2.2
        replace hb9 := hb9.1
        have q0 := rv.c4.1
        have q1 := rv.c4.2.1
        have q2 := rv.c4.2.2.1
        have q3 := rv.c4.2.2.2
        have r0 := rb.c2.1
        have r1 := rb.c2.2
        have hl1 := rv.lt
        have hl2 := rb.lt
        go_simp
        exact hK.out w9 ⟨hb9, rv, rb⟩
      refine FixFrom.run rfl rfl (fun L A w9 hno hu h0 hb9 K hK => ?_) ?_
      · have e6 : A.tmps[6]?.getD undef = .agg #[.int .i64 v.p, .int .i64 v.c, .int .i64 v.h, .int .i64 v.s] := hu 0 6 (by kernel_rfl) rfl
        clear hu h0
        have rv := hb9.2.1
        have rb := hb9.2.2
        replace hb9 := hb9.1
        have q0 := rv.c4.1
        have q1 := rv.c4.2.1
        have q2 := rv.c4.2.2.1
        have q3 := rv.c4.2.2.2
        have r0 := rb.c2.1
        have r1 := rb.c2.2
        have hl1 := rv.lt
        have hl2 := rb.lt
        go_simp
        refine (CV.out w9).mono ?_
        rintro e w2 ⟨rfl, hv2⟩
        exact hK.out w2 ⟨hb9.trans (hv2.mono hb9.size), rv.below hv2 rv.lt, rb.below hv2 rb.lt⟩
      refine FixFrom.run rfl rfl (fun L A w9 hno hu h0 hb9 K hK => ?_) ?_
      · have e7 : A.tmps[7]?.getD undef = .bool true := hu 1 7 (by kernel_rfl) rfl
        clear hu h0
        have rv := hb9.2.1
        have rb := hb9.2.2
        replace hb9 := hb9.1
        have q0 := rv.c4.1
        have q1 := rv.c4.2.1
        have q2 := rv.c4.2.2.1
        have q3 := rv.c4.2.2.2
        have r0 := rb.c2.1
        have r1 := rb.c2.2
        have hl1 := rv.lt
        have hl2 := rb.lt
        go_simp
        exact hK.out w9 ⟨hb9, rv, rb⟩
      refine FixFrom.run rfl rfl (fun L A w9 hno hu h0 hb9 K hK => ?_) ?_
      · have e8 : A.tmps[8]?.getD undef = .bool false := hu 2 8 (by kernel_rfl) rfl
        clear hu h0
        have rv := hb9.2.1
        have rb := hb9.2.2
        replace hb9 := hb9.1
        have q0 := rv.c4.1
        have q1 := rv.c4.2.1
        have q2 := rv.c4.2.2.1
        have q3 := rv.c4.2.2.2
        have r0 := rb.c2.1
        have r1 := rb.c2.2
        have hl1 := rv.lt
        have hl2 := rb.lt
        go_simp
        exact hK.out w9 ⟨hb9, rv, rb⟩
      refine FixFrom.run rfl rfl (fun L A w9 hno hu h0 hb9 K hK => ?_) ?_
      · have e2 : A.tmps[2]?.getD undef = .pointer (some ⟨w.heap.size, 0, none⟩) := h0 2 (by decide)
        clear hu h0
        have rv := hb9.2.1
        have rb := hb9.2.2
        replace hb9 := hb9.1
        have q0 := rv.c4.1
        have q1 := rv.c4.2.1
        have q2 := rv.c4.2.2.1
        have q3 := rv.c4.2.2.2
        have r0 := rb.c2.1
        have r1 := rb.c2.2
        have hl1 := rv.lt
        have hl2 := rb.lt
        go_simp
        exact hK.out w9 ⟨hb9, rv, rb⟩
      refine FixFrom.run rfl rfl (fun L A w9 hno hu h0 hb9 K hK => ?_) ?_
      · have e3 : A.tmps[3]?.getD undef = .pointer (some ⟨w.heap.size + 1, 0, none⟩) := h0 3 (by decide)
        clear hu h0
        have rv := hb9.2.1
        have rb := hb9.2.2
        replace hb9 := hb9.1
        have q0 := rv.c4.1
        have q1 := rv.c4.2.1
        have q2 := rv.c4.2.2.1
        have q3 := rv.c4.2.2.2
        have r0 := rb.c2.1
        have r1 := rb.c2.2
        have hl1 := rv.lt
        have hl2 := rb.lt
        go_simp
        exact hK.out w9 ⟨hb9, rv, rb⟩
      refine FixFrom.run rfl rfl (fun L A w9 hno hu h0 hb9 K hK => ?_) ?_
      · have e11 : A.tmps[11]?.getD undef = .pointer (some ⟨w.heap.size + 1, 0, none⟩) := hu 5 11 (by kernel_rfl) rfl
        clear hu h0
        have rv := hb9.2.1
        have rb := hb9.2.2
        replace hb9 := hb9.1
        have q0 := rv.c4.1
        have q1 := rv.c4.2.1
        have q2 := rv.c4.2.2.1
        have q3 := rv.c4.2.2.2
        have r0 := rb.c2.1
        have r1 := rb.c2.2
        have hl1 := rv.lt
        have hl2 := rb.lt
        go_simp
        exact hK.out w9 ⟨hb9, rv, rb⟩
      refine FixFrom.run rfl rfl (fun L A w9 hno hu h0 hb9 K hK => ?_) ?_
      · have e10 : A.tmps[10]?.getD undef = .agg #[.int .i64 v.p, .int .i64 v.c, .int .i64 v.h, .int .i64 v.s] := hu 4 10 (by kernel_rfl) rfl
        have e12 : A.tmps[12]?.getD undef = .slice Ao b.1.length co := hu 6 12 (by kernel_rfl) rfl
        clear hu h0
        have rv := hb9.2.1
        have rb := hb9.2.2
        replace hb9 := hb9.1
        have q0 := rv.c4.1
        have q1 := rv.c4.2.1
        have q2 := rv.c4.2.2.1
        have q3 := rv.c4.2.2.2
        have r0 := rb.c2.1
        have r1 := rb.c2.2
        have hl1 := rv.lt
        have hl2 := rb.lt
        go_simp
        refine (C1.out w9 hb9).mono ?_
        rintro e w2 ⟨rfl, hv2⟩
        exact hK.out w2 ⟨hb9.trans (hv2.mono hb9.size), rv.below hv2 rv.lt, rb.below hv2 rb.lt⟩
      refine FixFrom.run rfl rfl (fun L A w9 hno hu h0 hb9 K hK => ?_) ?_
      · have e13 : A.tmps[13]?.getD undef = .bool true := hu 7 13 (by kernel_rfl) rfl
        clear hu h0
        have rv := hb9.2.1
        have rb := hb9.2.2
        replace hb9 := hb9.1
        have q0 := rv.c4.1
        have q1 := rv.c4.2.1
        have q2 := rv.c4.2.2.1
        have q3 := rv.c4.2.2.2
        have r0 := rb.c2.1
        have r1 := rb.c2.2
        have hl1 := rv.lt
        have hl2 := rb.lt
        go_simp
        exact hK.out w9 ⟨hb9, rv, rb⟩
      refine FixFrom.run rfl rfl (fun L A w9 hno hu h0 hb9 K hK => ?_) ?_
      · have e9 : A.tmps[9]?.getD undef = .bool false := hu 3 9 (by kernel_rfl) rfl
        have e14 : A.tmps[14]?.getD undef = .bool false := hu 8 14 (by kernel_rfl) rfl
        clear hu h0
        have rv := hb9.2.1
        have rb := hb9.2.2
        replace hb9 := hb9.1
        have q0 := rv.c4.1
        have q1 := rv.c4.2.1
        have q2 := rv.c4.2.2.1
        have q3 := rv.c4.2.2.2
        have r0 := rb.c2.1
        have r1 := rb.c2.2
        have hl1 := rv.lt
        have hl2 := rb.lt
        go_simp
        exact hK.out w9 ⟨hb9, rv, rb⟩
      refine FixFrom.run rfl rfl (fun L A w9 hno hu h0 hb9 K hK => ?_) ?_
      · have e15 : A.tmps[15]?.getD undef = .bool false := hu 9 15 (by kernel_rfl) rfl
        clear hu h0
        have rv := hb9.2.1
        have rb := hb9.2.2
        replace hb9 := hb9.1
        have q0 := rv.c4.1
        have q1 := rv.c4.2.1
        have q2 := rv.c4.2.2.1
        have q3 := rv.c4.2.2.2
        have r0 := rb.c2.1
        have r1 := rb.c2.2
        have hl1 := rv.lt
        have hl2 := rb.lt
        go_simp
        exact hK.out w9 ⟨hb9, rv, rb⟩
      refine FixFrom.run rfl rfl (fun L A w9 hno hu h0 hb9 K hK => ?_) ?_
      · have e2 : A.tmps[2]?.getD undef = .pointer (some ⟨w.heap.size, 0, none⟩) := h0 2 (by decide)
        clear hu h0
        have rv := hb9.2.1
        have rb := hb9.2.2
        replace hb9 := hb9.1
        have q0 := rv.c4.1
        have q1 := rv.c4.2.1
        have q2 := rv.c4.2.2.1
        have q3 := rv.c4.2.2.2
        have r0 := rb.c2.1
        have r1 := rb.c2.2
        have hl1 := rv.lt
        have hl2 := rb.lt
        go_simp
        exact hK.out w9 ⟨hb9, rv, rb⟩
      refine FixFrom.run rfl rfl (fun L A w9 hno hu h0 hb9 K hK => ?_) ?_
      · have e3 : A.tmps[3]?.getD undef = .pointer (some ⟨w.heap.size + 1, 0, none⟩) := h0 3 (by decide)
        clear hu h0
        have rv := hb9.2.1
        have rb := hb9.2.2
        replace hb9 := hb9.1
        have q0 := rv.c4.1
        have q1 := rv.c4.2.1
        have q2 := rv.c4.2.2.1
        have q3 := rv.c4.2.2.2
        have r0 := rb.c2.1
        have r1 := rb.c2.2
        have hl1 := rv.lt
        have hl2 := rb.lt
        go_simp
        exact hK.out w9 ⟨hb9, rv, rb⟩
      refine FixFrom.run rfl rfl (fun L A w9 hno hu h0 hb9 K hK => ?_) ?_
      · have e18 : A.tmps[18]?.getD undef = .pointer (some ⟨w.heap.size + 1, 1, none⟩) := hu 12 18 (by kernel_rfl) rfl
        clear hu h0
        have rv := hb9.2.1
        have rb := hb9.2.2
        replace hb9 := hb9.1
        have q0 := rv.c4.1
        have q1 := rv.c4.2.1
        have q2 := rv.c4.2.2.1
        have q3 := rv.c4.2.2.2
        have r0 := rb.c2.1
        have r1 := rb.c2.2
        have hl1 := rv.lt
        have hl2 := rb.lt
        go_simp
        exact hK.out w9 ⟨hb9, rv, rb⟩
      refine FixFrom.run rfl rfl (fun L A w9 hno hu h0 hb9 K hK => ?_) ?_
      · have e17 : A.tmps[17]?.getD undef = .agg #[.int .i64 v.p, .int .i64 v.c, .int .i64 v.h, .int .i64 v.s] := hu 11 17 (by kernel_rfl) rfl
        have e19 : A.tmps[19]?.getD undef = .slice At b.2.length ct := hu 13 19 (by kernel_rfl) rfl
        clear hu h0
        have rv := hb9.2.1
        have rb := hb9.2.2
        replace hb9 := hb9.1
        have q0 := rv.c4.1
        have q1 := rv.c4.2.1
        have q2 := rv.c4.2.2.1
        have q3 := rv.c4.2.2.2
        have r0 := rb.c2.1
        have r1 := rb.c2.2
        have hl1 := rv.lt
        have hl2 := rb.lt
        go_simp
        refine (C2.out w9 hb9).mono ?_
        rintro e w2 ⟨rfl, hv2⟩
        exact hK.out w2 ⟨hb9.trans (hv2.mono hb9.size), rv.below hv2 rv.lt, rb.below hv2 rb.lt⟩
      refine FixFrom.run rfl rfl (fun L A w9 hno hu h0 hb9 K hK => ?_) ?_
      · have e20 : A.tmps[20]?.getD undef = .bool false := hu 14 20 (by kernel_rfl) rfl
        clear hu h0
        have rv := hb9.2.1
        have rb := hb9.2.2
        replace hb9 := hb9.1
        have q0 := rv.c4.1
        have q1 := rv.c4.2.1
        have q2 := rv.c4.2.2.1
        have q3 := rv.c4.2.2.2
        have r0 := rb.c2.1
        have r1 := rb.c2.2
        have hl1 := rv.lt
        have hl2 := rb.lt
        go_simp
        exact hK.out w9 ⟨hb9, rv, rb⟩
      refine FixFrom.run rfl rfl (fun L A w9 hno hu h0 hb9 K hK => ?_) ?_
      · have e16 : A.tmps[16]?.getD undef = .bool false := hu 10 16 (by kernel_rfl) rfl
        have e21 : A.tmps[21]?.getD undef = .bool true := hu 15 21 (by kernel_rfl) rfl
        clear hu h0
        have rv := hb9.2.1
        have rb := hb9.2.2
        replace hb9 := hb9.1
        have q0 := rv.c4.1
        have q1 := rv.c4.2.1
        have q2 := rv.c4.2.2.1
        have q3 := rv.c4.2.2.2
        have r0 := rb.c2.1
        have r1 := rb.c2.2
        have hl1 := rv.lt
        have hl2 := rb.lt
        go_simp
        exact hK.out w9 ⟨hb9, rv, rb⟩
      refine FixFrom.run rfl rfl (fun L A w9 hno hu h0 hb9 K hK => ?_) ?_
      · have e22 : A.tmps[22]?.getD undef = .bool true := hu 16 22 (by kernel_rfl) rfl
        clear hu h0
        have rv := hb9.2.1
        have rb := hb9.2.2
        replace hb9 := hb9.1
        have q0 := rv.c4.1
        have q1 := rv.c4.2.1
        have q2 := rv.c4.2.2.1
        have q3 := rv.c4.2.2.2
        have r0 := rb.c2.1
        have r1 := rb.c2.2
        have hl1 := rv.lt
        have hl2 := rb.lt
        go_simp
        exact hK.out w9 ⟨hb9, rv, rb⟩
      refine FixFrom.skip rfl rfl rfl (fun _ _ h => h) ?_
      refine FixFrom.skip rfl rfl rfl (fun _ _ h => h) ?_
      refine FixFrom.skip rfl rfl rfl (fun _ _ h => h) ?_
      refine FixFrom.skip rfl rfl rfl (fun _ _ h => h) ?_
      refine FixFrom.skip rfl rfl rfl (fun _ _ h => h) ?_
      refine FixFrom.skip rfl rfl rfl (fun _ _ h => h) ?_
      refine FixFrom.skip rfl rfl rfl (fun _ _ h => h) ?_
      refine FixFrom.skip rfl rfl rfl (fun _ _ h => h) ?_
      refine FixFrom.run rfl rfl (fun L A w9 hno hu h0 hb9 K hK => ?_) ?_
      · have e23 : A.tmps[23]?.getD undef = .bool true := hu 17 23 (by kernel_rfl) rfl
        have e31 : A.tmps[31]?.getD undef = undef := hu 25 31 (by kernel_rfl) rfl
        clear hu h0
        have rv := hb9.2.1
        have rb := hb9.2.2
        replace hb9 := hb9.1
        have q0 := rv.c4.1
        have q1 := rv.c4.2.1
        have q2 := rv.c4.2.2.1
        have q3 := rv.c4.2.2.2
        have r0 := rb.c2.1
        have r1 := rb.c2.2
        have hl1 := rv.lt
        have hl2 := rb.lt
        go_simp
        exact hK.out w9 ⟨hb9, rv, rb⟩
      exact FixFrom.nil (by decide)
    case fin3 =>
      intro w9 hb9
      simp only [Fr, Act.put, List.setIfInBounds_toArray, List.set_cons_zero, List.set_cons_succ, Nat.reduceAdd, List.getD_cons_zero, List.getD_cons_succ]
      go_wp2_with fail
      go_ret
      exact ⟨rfl, hb9.1⟩
  have d1 := okS_iff.1 H1.out
  have d2 := okS_iff.1 H2.out
  have D1 := Lib.hid d1
  have D2 := Lib.hid d2
  have N1 := d1.len
  have N2 := d2.len
  obtain ⟨z1, hz1⟩ : ∃ z, b.1.sum = z := ⟨_, rfl⟩
  obtain ⟨z2, hz2⟩ : ∃ z, b.2.sum = z := ⟨_, rfl⟩
  have S1 := Lib.hid (fun w9 (h : Below w.heap.size w w9) => sum_s Ao co B b.1 w9 (HO.out.below h hB) (fun i => ⟨d1.nn i, by have := d1.top i; omega⟩) (by omega))
  have S2 := Lib.hid (fun w9 (h : Below w.heap.size w w9) => sum_s At ct B b.2 w9 (HT.out.below h hB) (fun i => ⟨d2.nn i, by have := d2.top i; omega⟩) (by omega))
  have zz1 := d1.sum0
  have zz2 := d2.sum0
  have zt1 := d1.sum
  have zt2 := d2.sum
  have CONT : Hid (¬ (b.1.sum = 0 ∧ b.2.sum = 0) → apart v b v.p.toNat = x) := Lib.hid (fun h => by
    rw [← HX.out]
    have : (decide (b.1.sum = 0) && decide (b.2.sum = 0)) = false := by
      cases e : (decide (b.1.sum = 0) && decide (b.2.sum = 0)) with
      | false => rfl
      | true => exact absurd (by simpa using e) h
    rw [this]; rfl)
  simp only [hz1, hz2] at CONT S1 S2 zz1 zz2 zt1 zt2
  have HX2 := Lib.hid HX.out
  simp only [hz1, hz2] at HX2
  clear d1 d2 hz1 hz2
  have ez : IntKind.i64.wrap (z1 + z2) = z1 + z2 := IntWalk.i64_in _ (by omega)
  by_cases hzz : z1 = 0 ∧ z2 = 0
  case pos =>
    obtain rfl : x = false := by rw [← HX2.out]; simp [hzz]
    have e0 : (z1 + z2 == 0) = true := by simp; omega
    clear hzz
    go_upto_region 1 with (fail)
    refine region_fix [some 6, some 7, some 8, some 9, some 10, some 11, some 12, some 13, some 14, some 15, some 16, some 17, some 18, some 19, some 20, some 21, some 22, some 23, some 24, some 25, some 26, some 27, some 28, some 29, some 30, some 31, some 32] (fun j_ => ([.agg #[.int .i64 v.p, .int .i64 v.c, .int .i64 v.h, .int .i64 v.s], .bool true, .bool false, .bool false, .agg #[.int .i64 v.p, .int .i64 v.c, .int .i64 v.h, .int .i64 v.s], .pointer (some ⟨w.heap.size + 1, 0, none⟩), .slice Ao b.1.length co, .bool true, .bool false, .bool false, .bool false, .agg #[.int .i64 v.p, .int .i64 v.c, .int .i64 v.h, .int .i64 v.s], .pointer (some ⟨w.heap.size + 1, 1, none⟩), .slice At b.2.length ct, .bool true, .bool false, .bool false, .bool false, .pointer (some ⟨w.heap.size + 1, 0, none⟩), .slice Ao b.1.length co, .int .i64 z1, .pointer (some ⟨w.heap.size + 1, 1, none⟩), .slice At b.2.length ct, .int .i64 z2, .int .i64 (z1 + z2), .bool true, .bool true] : List Value).getD j_ undef) (fun L w' => Below w.heap.size w w' ∧ RowB w' w.heap.size 32 [.int .i64 v.p, .int .i64 v.c, .int .i64 v.h, .int .i64 v.s] ∧ RowB w' (w.heap.size + 1) 34 [.slice Ao b.1.length co, .slice At b.2.length ct]) (by kernel_rfl) (by kernel_rfl) (by kernel_rfl) (by kernel_rfl) (by first | kernel_rfl | rfl) (by first | kernel_rfl | rfl) ?hB4 ?hBL4 ?hst4 ?fin4
    case hB4 => exact ⟨hb1.drew, rv.drew, rb.drew⟩
    case hBL4 => exact fun _ _ _ _ h => h
    case hst4 =>
      refine FixFrom.run rfl rfl (fun L A w9 hno hu h0 hb9 K hK => ?_) ?_
      · have e2 : A.tmps[2]?.getD undef = .pointer (some ⟨w.heap.size, 0, none⟩) := h0 2 (by decide)
        clear hu h0
        have rv := hb9.2.1
        have rb := hb9.2.2
        replace hb9 := hb9.1
        have q0 := rv.c4.1
        have q1 := rv.c4.2.1
        have q2 := rv.c4.2.2.1
        have q3 := rv.c4.2.2.2
        have r0 := rb.c2.1
        have r1 := rb.c2.2
        have hl1 := rv.lt
        have hl2 := rb.lt
        go_simp
        exact hK.out w9 ⟨hb9, rv, rb⟩
      refine FixFrom.run rfl rfl (fun L A w9 hno hu h0 hb9 K hK => ?_) ?_
      · have e6 : A.tmps[6]?.getD undef = .agg #[.int .i64 v.p, .int .i64 v.c, .int .i64 v.h, .int .i64 v.s] := hu 0 6 (by kernel_rfl) rfl
        clear hu h0
        have rv := hb9.2.1
        have rb := hb9.2.2
        replace hb9 := hb9.1
        have q0 := rv.c4.1
        have q1 := rv.c4.2.1
        have q2 := rv.c4.2.2.1
        have q3 := rv.c4.2.2.2
        have r0 := rb.c2.1
        have r1 := rb.c2.2
        have hl1 := rv.lt
        have hl2 := rb.lt
        go_simp
        refine (CV.out w9).mono ?_
        rintro e w2 ⟨rfl, hv2⟩
        exact hK.out w2 ⟨hb9.trans (hv2.mono hb9.size), rv.below hv2 rv.lt, rb.below hv2 rb.lt⟩
      refine FixFrom.run rfl rfl (fun L A w9 hno hu h0 hb9 K hK => ?_) ?_
      · have e7 : A.tmps[7]?.getD undef = .bool true := hu 1 7 (by kernel_rfl) rfl
        clear hu h0
        have rv := hb9.2.1
        have rb := hb9.2.2
        replace hb9 := hb9.1
        have q0 := rv.c4.1
        have q1 := rv.c4.2.1
        have q2 := rv.c4.2.2.1
        have q3 := rv.c4.2.2.2
        have r0 := rb.c2.1
        have r1 := rb.c2.2
        have hl1 := rv.lt
        have hl2 := rb.lt
        go_simp
        exact hK.out w9 ⟨hb9, rv, rb⟩
      refine FixFrom.run rfl rfl (fun L A w9 hno hu h0 hb9 K hK => ?_) ?_
      · have e8 : A.tmps[8]?.getD undef = .bool false := hu 2 8 (by kernel_rfl) rfl
        clear hu h0
        have rv := hb9.2.1
        have rb := hb9.2.2
        replace hb9 := hb9.1
        have q0 := rv.c4.1
        have q1 := rv.c4.2.1
        have q2 := rv.c4.2.2.1
        have q3 := rv.c4.2.2.2
        have r0 := rb.c2.1
        have r1 := rb.c2.2
        have hl1 := rv.lt
        have hl2 := rb.lt
        go_simp
        exact hK.out w9 ⟨hb9, rv, rb⟩
      refine FixFrom.run rfl rfl (fun L A w9 hno hu h0 hb9 K hK => ?_) ?_
      · have e2 : A.tmps[2]?.getD undef = .pointer (some ⟨w.heap.size, 0, none⟩) := h0 2 (by decide)
        clear hu h0
        have rv := hb9.2.1
        have rb := hb9.2.2
        replace hb9 := hb9.1
        have q0 := rv.c4.1
        have q1 := rv.c4.2.1
        have q2 := rv.c4.2.2.1
        have q3 := rv.c4.2.2.2
        have r0 := rb.c2.1
        have r1 := rb.c2.2
        have hl1 := rv.lt
        have hl2 := rb.lt
        go_simp
        exact hK.out w9 ⟨hb9, rv, rb⟩
      refine FixFrom.run rfl rfl (fun L A w9 hno hu h0 hb9 K hK => ?_) ?_
      · have e3 : A.tmps[3]?.getD undef = .pointer (some ⟨w.heap.size + 1, 0, none⟩) := h0 3 (by decide)
        clear hu h0
        have rv := hb9.2.1
        have rb := hb9.2.2
        replace hb9 := hb9.1
        have q0 := rv.c4.1
        have q1 := rv.c4.2.1
        have q2 := rv.c4.2.2.1
        have q3 := rv.c4.2.2.2
        have r0 := rb.c2.1
        have r1 := rb.c2.2
        have hl1 := rv.lt
        have hl2 := rb.lt
        go_simp
        exact hK.out w9 ⟨hb9, rv, rb⟩
      refine FixFrom.run rfl rfl (fun L A w9 hno hu h0 hb9 K hK => ?_) ?_
      · have e11 : A.tmps[11]?.getD undef = .pointer (some ⟨w.heap.size + 1, 0, none⟩) := hu 5 11 (by kernel_rfl) rfl
        clear hu h0
        have rv := hb9.2.1
        have rb := hb9.2.2
        replace hb9 := hb9.1
        have q0 := rv.c4.1
        have q1 := rv.c4.2.1
        have q2 := rv.c4.2.2.1
        have q3 := rv.c4.2.2.2
        have r0 := rb.c2.1
        have r1 := rb.c2.2
        have hl1 := rv.lt
        have hl2 := rb.lt
        go_simp
        exact hK.out w9 ⟨hb9, rv, rb⟩
      refine FixFrom.run rfl rfl (fun L A w9 hno hu h0 hb9 K hK => ?_) ?_
      · have e10 : A.tmps[10]?.getD undef = .agg #[.int .i64 v.p, .int .i64 v.c, .int .i64 v.h, .int .i64 v.s] := hu 4 10 (by kernel_rfl) rfl
        have e12 : A.tmps[12]?.getD undef = .slice Ao b.1.length co := hu 6 12 (by kernel_rfl) rfl
        clear hu h0
        have rv := hb9.2.1
        have rb := hb9.2.2
        replace hb9 := hb9.1
        have q0 := rv.c4.1
        have q1 := rv.c4.2.1
        have q2 := rv.c4.2.2.1
        have q3 := rv.c4.2.2.2
        have r0 := rb.c2.1
        have r1 := rb.c2.2
        have hl1 := rv.lt
        have hl2 := rb.lt
        go_simp
        refine (C1.out w9 hb9).mono ?_
        rintro e w2 ⟨rfl, hv2⟩
        exact hK.out w2 ⟨hb9.trans (hv2.mono hb9.size), rv.below hv2 rv.lt, rb.below hv2 rb.lt⟩
      refine FixFrom.run rfl rfl (fun L A w9 hno hu h0 hb9 K hK => ?_) ?_
      · have e13 : A.tmps[13]?.getD undef = .bool true := hu 7 13 (by kernel_rfl) rfl
        clear hu h0
        have rv := hb9.2.1
        have rb := hb9.2.2
        replace hb9 := hb9.1
        have q0 := rv.c4.1
        have q1 := rv.c4.2.1
        have q2 := rv.c4.2.2.1
        have q3 := rv.c4.2.2.2
        have r0 := rb.c2.1
        have r1 := rb.c2.2
        have hl1 := rv.lt
        have hl2 := rb.lt
        go_simp
        exact hK.out w9 ⟨hb9, rv, rb⟩
      refine FixFrom.run rfl rfl (fun L A w9 hno hu h0 hb9 K hK => ?_) ?_
      · have e9 : A.tmps[9]?.getD undef = .bool false := hu 3 9 (by kernel_rfl) rfl
        have e14 : A.tmps[14]?.getD undef = .bool false := hu 8 14 (by kernel_rfl) rfl
        clear hu h0
        have rv := hb9.2.1
        have rb := hb9.2.2
        replace hb9 := hb9.1
        have q0 := rv.c4.1
        have q1 := rv.c4.2.1
        have q2 := rv.c4.2.2.1
        have q3 := rv.c4.2.2.2
        have r0 := rb.c2.1
        have r1 := rb.c2.2
        have hl1 := rv.lt
        have hl2 := rb.lt
        go_simp
        exact hK.out w9 ⟨hb9, rv, rb⟩
      refine FixFrom.run rfl rfl (fun L A w9 hno hu h0 hb9 K hK => ?_) ?_
      · have e15 : A.tmps[15]?.getD undef = .bool false := hu 9 15 (by kernel_rfl) rfl
        clear hu h0
        have rv := hb9.2.1
        have rb := hb9.2.2
        replace hb9 := hb9.1
        have q0 := rv.c4.1
        have q1 := rv.c4.2.1
        have q2 := rv.c4.2.2.1
        have q3 := rv.c4.2.2.2
        have r0 := rb.c2.1
        have r1 := rb.c2.2
        have hl1 := rv.lt
        have hl2 := rb.lt
        go_simp
        exact hK.out w9 ⟨hb9, rv, rb⟩
      refine FixFrom.run rfl rfl (fun L A w9 hno hu h0 hb9 K hK => ?_) ?_
      · have e2 : A.tmps[2]?.getD undef = .pointer (some ⟨w.heap.size, 0, none⟩) := h0 2 (by decide)
        clear hu h0
        have rv := hb9.2.1
        have rb := hb9.2.2
        replace hb9 := hb9.1
        have q0 := rv.c4.1
        have q1 := rv.c4.2.1
        have q2 := rv.c4.2.2.1
        have q3 := rv.c4.2.2.2
        have r0 := rb.c2.1
        have r1 := rb.c2.2
        have hl1 := rv.lt
        have hl2 := rb.lt
        go_simp
        exact hK.out w9 ⟨hb9, rv, rb⟩
      refine FixFrom.run rfl rfl (fun L A w9 hno hu h0 hb9 K hK => ?_) ?_
      · have e3 : A.tmps[3]?.getD undef = .pointer (some ⟨w.heap.size + 1, 0, none⟩) := h0 3 (by decide)
        clear hu h0
        have rv := hb9.2.1
        have rb := hb9.2.2
        replace hb9 := hb9.1
        have q0 := rv.c4.1
        have q1 := rv.c4.2.1
        have q2 := rv.c4.2.2.1
        have q3 := rv.c4.2.2.2
        have r0 := rb.c2.1
        have r1 := rb.c2.2
        have hl1 := rv.lt
        have hl2 := rb.lt
        go_simp
        exact hK.out w9 ⟨hb9, rv, rb⟩
      refine FixFrom.run rfl rfl (fun L A w9 hno hu h0 hb9 K hK => ?_) ?_
      · have e18 : A.tmps[18]?.getD undef = .pointer (some ⟨w.heap.size + 1, 1, none⟩) := hu 12 18 (by kernel_rfl) rfl
        clear hu h0
        have rv := hb9.2.1
        have rb := hb9.2.2
        replace hb9 := hb9.1
        have q0 := rv.c4.1
        have q1 := rv.c4.2.1
        have q2 := rv.c4.2.2.1
        have q3 := rv.c4.2.2.2
        have r0 := rb.c2.1
        have r1 := rb.c2.2
        have hl1 := rv.lt
        have hl2 := rb.lt
        go_simp
        exact hK.out w9 ⟨hb9, rv, rb⟩
      refine FixFrom.run rfl rfl (fun L A w9 hno hu h0 hb9 K hK => ?_) ?_
      · have e17 : A.tmps[17]?.getD undef = .agg #[.int .i64 v.p, .int .i64 v.c, .int .i64 v.h, .int .i64 v.s] := hu 11 17 (by kernel_rfl) rfl
        have e19 : A.tmps[19]?.getD undef = .slice At b.2.length ct := hu 13 19 (by kernel_rfl) rfl
        clear hu h0
        have rv := hb9.2.1
        have rb := hb9.2.2
        replace hb9 := hb9.1
        have q0 := rv.c4.1
        have q1 := rv.c4.2.1
        have q2 := rv.c4.2.2.1
        have q3 := rv.c4.2.2.2
        have r0 := rb.c2.1
        have r1 := rb.c2.2
        have hl1 := rv.lt
        have hl2 := rb.lt
        go_simp
        refine (C2.out w9 hb9).mono ?_
        rintro e w2 ⟨rfl, hv2⟩
        exact hK.out w2 ⟨hb9.trans (hv2.mono hb9.size), rv.below hv2 rv.lt, rb.below hv2 rb.lt⟩
      refine FixFrom.run rfl rfl (fun L A w9 hno hu h0 hb9 K hK => ?_) ?_
      · have e20 : A.tmps[20]?.getD undef = .bool true := hu 14 20 (by kernel_rfl) rfl
        clear hu h0
        have rv := hb9.2.1
        have rb := hb9.2.2
        replace hb9 := hb9.1
        have q0 := rv.c4.1
        have q1 := rv.c4.2.1
        have q2 := rv.c4.2.2.1
        have q3 := rv.c4.2.2.2
        have r0 := rb.c2.1
        have r1 := rb.c2.2
        have hl1 := rv.lt
        have hl2 := rb.lt
        go_simp
        exact hK.out w9 ⟨hb9, rv, rb⟩
      refine FixFrom.run rfl rfl (fun L A w9 hno hu h0 hb9 K hK => ?_) ?_
      · have e16 : A.tmps[16]?.getD undef = .bool false := hu 10 16 (by kernel_rfl) rfl
        have e21 : A.tmps[21]?.getD undef = .bool false := hu 15 21 (by kernel_rfl) rfl
        clear hu h0
        have rv := hb9.2.1
        have rb := hb9.2.2
        replace hb9 := hb9.1
        have q0 := rv.c4.1
        have q1 := rv.c4.2.1
        have q2 := rv.c4.2.2.1
        have q3 := rv.c4.2.2.2
        have r0 := rb.c2.1
        have r1 := rb.c2.2
        have hl1 := rv.lt
        have hl2 := rb.lt
        go_simp
        exact hK.out w9 ⟨hb9, rv, rb⟩
      refine FixFrom.run rfl rfl (fun L A w9 hno hu h0 hb9 K hK => ?_) ?_
      · have e22 : A.tmps[22]?.getD undef = .bool false := hu 16 22 (by kernel_rfl) rfl
        clear hu h0
        have rv := hb9.2.1
        have rb := hb9.2.2
        replace hb9 := hb9.1
        have q0 := rv.c4.1
        have q1 := rv.c4.2.1
        have q2 := rv.c4.2.2.1
        have q3 := rv.c4.2.2.2
        have r0 := rb.c2.1
        have r1 := rb.c2.2
        have hl1 := rv.lt
        have hl2 := rb.lt
        go_simp
        exact hK.out w9 ⟨hb9, rv, rb⟩
      refine FixFrom.run rfl rfl (fun L A w9 hno hu h0 hb9 K hK => ?_) ?_
      · have e3 : A.tmps[3]?.getD undef = .pointer (some ⟨w.heap.size + 1, 0, none⟩) := h0 3 (by decide)
        clear hu h0
        have rv := hb9.2.1
        have rb := hb9.2.2
        replace hb9 := hb9.1
        have q0 := rv.c4.1
        have q1 := rv.c4.2.1
        have q2 := rv.c4.2.2.1
        have q3 := rv.c4.2.2.2
        have r0 := rb.c2.1
        have r1 := rb.c2.2
        have hl1 := rv.lt
        have hl2 := rb.lt
        go_simp
        exact hK.out w9 ⟨hb9, rv, rb⟩
      refine FixFrom.run rfl rfl (fun L A w9 hno hu h0 hb9 K hK => ?_) ?_
      · have e24 : A.tmps[24]?.getD undef = .pointer (some ⟨w.heap.size + 1, 0, none⟩) := hu 18 24 (by kernel_rfl) rfl
        clear hu h0
        have rv := hb9.2.1
        have rb := hb9.2.2
        replace hb9 := hb9.1
        have q0 := rv.c4.1
        have q1 := rv.c4.2.1
        have q2 := rv.c4.2.2.1
        have q3 := rv.c4.2.2.2
        have r0 := rb.c2.1
        have r1 := rb.c2.2
        have hl1 := rv.lt
        have hl2 := rb.lt
        go_simp
        exact hK.out w9 ⟨hb9, rv, rb⟩
      refine FixFrom.run rfl rfl (fun L A w9 hno hu h0 hb9 K hK => ?_) ?_
      · have e25 : A.tmps[25]?.getD undef = .slice Ao b.1.length co := hu 19 25 (by kernel_rfl) rfl
        clear hu h0
        have rv := hb9.2.1
        have rb := hb9.2.2
        replace hb9 := hb9.1
        have q0 := rv.c4.1
        have q1 := rv.c4.2.1
        have q2 := rv.c4.2.2.1
        have q3 := rv.c4.2.2.2
        have r0 := rb.c2.1
        have r1 := rb.c2.2
        have hl1 := rv.lt
        have hl2 := rb.lt
        go_simp
        refine (S1.out w9 hb9).mono ?_
        rintro e w2 ⟨rfl, rfl⟩
        exact hK.out w9 ⟨hb9, rv, rb⟩
      refine FixFrom.run rfl rfl (fun L A w9 hno hu h0 hb9 K hK => ?_) ?_
      · have e3 : A.tmps[3]?.getD undef = .pointer (some ⟨w.heap.size + 1, 0, none⟩) := h0 3 (by decide)
        clear hu h0
        have rv := hb9.2.1
        have rb := hb9.2.2
        replace hb9 := hb9.1
        have q0 := rv.c4.1
        have q1 := rv.c4.2.1
        have q2 := rv.c4.2.2.1
        have q3 := rv.c4.2.2.2
        have r0 := rb.c2.1
        have r1 := rb.c2.2
        have hl1 := rv.lt
        have hl2 := rb.lt
        go_simp
        exact hK.out w9 ⟨hb9, rv, rb⟩
      refine FixFrom.run rfl rfl (fun L A w9 hno hu h0 hb9 K hK => ?_) ?_
      · have e27 : A.tmps[27]?.getD undef = .pointer (some ⟨w.heap.size + 1, 1, none⟩) := hu 21 27 (by kernel_rfl) rfl
        clear hu h0
        have rv := hb9.2.1
        have rb := hb9.2.2
        replace hb9 := hb9.1
        have q0 := rv.c4.1
        have q1 := rv.c4.2.1
        have q2 := rv.c4.2.2.1
        have q3 := rv.c4.2.2.2
        have r0 := rb.c2.1
        have r1 := rb.c2.2
        have hl1 := rv.lt
        have hl2 := rb.lt
        go_simp
        exact hK.out w9 ⟨hb9, rv, rb⟩
      refine FixFrom.run rfl rfl (fun L A w9 hno hu h0 hb9 K hK => ?_) ?_
      · have e28 : A.tmps[28]?.getD undef = .slice At b.2.length ct := hu 22 28 (by kernel_rfl) rfl
        clear hu h0
        have rv := hb9.2.1
        have rb := hb9.2.2
        replace hb9 := hb9.1
        have q0 := rv.c4.1
        have q1 := rv.c4.2.1
        have q2 := rv.c4.2.2.1
        have q3 := rv.c4.2.2.2
        have r0 := rb.c2.1
        have r1 := rb.c2.2
        have hl1 := rv.lt
        have hl2 := rb.lt
        go_simp
        refine (S2.out w9 hb9).mono ?_
        rintro e w2 ⟨rfl, rfl⟩
        exact hK.out w9 ⟨hb9, rv, rb⟩
      refine FixFrom.run rfl rfl (fun L A w9 hno hu h0 hb9 K hK => ?_) ?_
      · have e26 : A.tmps[26]?.getD undef = .int .i64 z1 := hu 20 26 (by kernel_rfl) rfl
        have e29 : A.tmps[29]?.getD undef = .int .i64 z2 := hu 23 29 (by kernel_rfl) rfl
        clear hu h0
        have rv := hb9.2.1
        have rb := hb9.2.2
        replace hb9 := hb9.1
        have q0 := rv.c4.1
        have q1 := rv.c4.2.1
        have q2 := rv.c4.2.2.1
        have q3 := rv.c4.2.2.2
        have r0 := rb.c2.1
        have r1 := rb.c2.2
        have hl1 := rv.lt
        have hl2 := rb.lt
        go_simp
        exact hK.out w9 ⟨hb9, rv, rb⟩
      refine FixFrom.run rfl rfl (fun L A w9 hno hu h0 hb9 K hK => ?_) ?_
      · have e30 : A.tmps[30]?.getD undef = .int .i64 (z1 + z2) := hu 24 30 (by kernel_rfl) rfl
        clear hu h0
        have rv := hb9.2.1
        have rb := hb9.2.2
        replace hb9 := hb9.1
        have q0 := rv.c4.1
        have q1 := rv.c4.2.1
        have q2 := rv.c4.2.2.1
        have q3 := rv.c4.2.2.2
        have r0 := rb.c2.1
        have r1 := rb.c2.2
        have hl1 := rv.lt
        have hl2 := rb.lt
        go_simp
        exact hK.out w9 ⟨hb9, rv, rb⟩
      refine FixFrom.run rfl rfl (fun L A w9 hno hu h0 hb9 K hK => ?_) ?_
      · have e23 : A.tmps[23]?.getD undef = .bool false := hu 17 23 (by kernel_rfl) rfl
        have e31 : A.tmps[31]?.getD undef = .bool true := hu 25 31 (by kernel_rfl) rfl
        clear hu h0
        have rv := hb9.2.1
        have rb := hb9.2.2
        replace hb9 := hb9.1
        have q0 := rv.c4.1
        have q1 := rv.c4.2.1
        have q2 := rv.c4.2.2.1
        have q3 := rv.c4.2.2.2
        have r0 := rb.c2.1
        have r1 := rb.c2.2
        have hl1 := rv.lt
        have hl2 := rb.lt
        go_simp
        exact hK.out w9 ⟨hb9, rv, rb⟩
      exact FixFrom.nil (by decide)
    case fin4 =>
      intro w9 hb9
      simp only [Fr, Act.put, List.setIfInBounds_toArray, List.set_cons_zero, List.set_cons_succ, Nat.reduceAdd, List.getD_cons_zero, List.getD_cons_succ]
      go_wp2_with fail
      go_ret
      exact ⟨rfl, hb9.1⟩
  have HAP := Lib.hid (CONT.out hzz)
  have e0 : (z1 + z2 == 0) = false := by simp; omega
  clear hzz CONT
  go_upto_region 1 with (fail)
  refine region_fix [some 6, some 7, some 8, some 9, some 10, some 11, some 12, some 13, some 14, some 15, some 16, some 17, some 18, some 19, some 20, some 21, some 22, some 23, some 24, some 25, some 26, some 27, some 28, some 29, some 30, some 31, some 32] (fun j_ => ([.agg #[.int .i64 v.p, .int .i64 v.c, .int .i64 v.h, .int .i64 v.s], .bool true, .bool false, .bool false, .agg #[.int .i64 v.p, .int .i64 v.c, .int .i64 v.h, .int .i64 v.s], .pointer (some ⟨w.heap.size + 1, 0, none⟩), .slice Ao b.1.length co, .bool true, .bool false, .bool false, .bool false, .agg #[.int .i64 v.p, .int .i64 v.c, .int .i64 v.h, .int .i64 v.s], .pointer (some ⟨w.heap.size + 1, 1, none⟩), .slice At b.2.length ct, .bool true, .bool false, .bool false, .bool false, .pointer (some ⟨w.heap.size + 1, 0, none⟩), .slice Ao b.1.length co, .int .i64 z1, .pointer (some ⟨w.heap.size + 1, 1, none⟩), .slice At b.2.length ct, .int .i64 z2, .int .i64 (z1 + z2), .bool false, .bool false] : List Value).getD j_ undef) (fun L w' => Below w.heap.size w w' ∧ RowB w' w.heap.size 32 [.int .i64 v.p, .int .i64 v.c, .int .i64 v.h, .int .i64 v.s] ∧ RowB w' (w.heap.size + 1) 34 [.slice Ao b.1.length co, .slice At b.2.length ct]) (by kernel_rfl) (by kernel_rfl) (by kernel_rfl) (by kernel_rfl) (by first | kernel_rfl | rfl) (by first | kernel_rfl | rfl) ?hB5 ?hBL5 ?hst5 ?fin5
  case hB5 => exact ⟨hb1.drew, rv.drew, rb.drew⟩
  case hBL5 => exact fun _ _ _ _ h => h
  case hst5 =>
    refine FixFrom.run rfl rfl (fun L A w9 hno hu h0 hb9 K hK => ?_) ?_
    · have e2 : A.tmps[2]?.getD undef = .pointer (some ⟨w.heap.size, 0, none⟩) := h0 2 (by decide)
      clear hu h0
      have rv := hb9.2.1
      have rb := hb9.2.2
      replace hb9 := hb9.1
      have q0 := rv.c4.1
      have q1 := rv.c4.2.1
      have q2 := rv.c4.2.2.1
      have q3 := rv.c4.2.2.2
      have r0 := rb.c2.1
      have r1 := rb.c2.2
      have hl1 := rv.lt
      have hl2 := rb.lt
      go_simp
      exact hK.out w9 ⟨hb9, rv, rb⟩
    refine FixFrom.run rfl rfl (fun L A w9 hno hu h0 hb9 K hK => ?_) ?_
    · have e6 : A.tmps[6]?.getD undef = .agg #[.int .i64 v.p, .int .i64 v.c, .int .i64 v.h, .int .i64 v.s] := hu 0 6 (by kernel_rfl) rfl
      clear hu h0
      have rv := hb9.2.1
      have rb := hb9.2.2
      replace hb9 := hb9.1
      have q0 := rv.c4.1
      have q1 := rv.c4.2.1
      have q2 := rv.c4.2.2.1
      have q3 := rv.c4.2.2.2
      have r0 := rb.c2.1
      have r1 := rb.c2.2
      have hl1 := rv.lt
      have hl2 := rb.lt
      go_simp
      refine (CV.out w9).mono ?_
      rintro e w2 ⟨rfl, hv2⟩
      exact hK.out w2 ⟨hb9.trans (hv2.mono hb9.size), rv.below hv2 rv.lt, rb.below hv2 rb.lt⟩
    refine FixFrom.run rfl rfl (fun L A w9 hno hu h0 hb9 K hK => ?_) ?_
    · have e7 : A.tmps[7]?.getD undef = .bool true := hu 1 7 (by kernel_rfl) rfl
      clear hu h0
      have rv := hb9.2.1
      have rb := hb9.2.2
      replace hb9 := hb9.1
      have q0 := rv.c4.1
      have q1 := rv.c4.2.1
      have q2 := rv.c4.2.2.1
      have q3 := rv.c4.2.2.2
      have r0 := rb.c2.1
      have r1 := rb.c2.2
      have hl1 := rv.lt
      have hl2 := rb.lt
      go_simp
      exact hK.out w9 ⟨hb9, rv, rb⟩
    refine FixFrom.run rfl rfl (fun L A w9 hno hu h0 hb9 K hK => ?_) ?_
    · have e8 : A.tmps[8]?.getD undef = .bool false := hu 2 8 (by kernel_rfl) rfl
      clear hu h0
      have rv := hb9.2.1
      have rb := hb9.2.2
      replace hb9 := hb9.1
      have q0 := rv.c4.1
      have q1 := rv.c4.2.1
      have q2 := rv.c4.2.2.1
      have q3 := rv.c4.2.2.2
      have r0 := rb.c2.1
      have r1 := rb.c2.2
      have hl1 := rv.lt
      have hl2 := rb.lt
      go_simp
      exact hK.out w9 ⟨hb9, rv, rb⟩
    refine FixFrom.run rfl rfl (fun L A w9 hno hu h0 hb9 K hK => ?_) ?_
    · have e2 : A.tmps[2]?.getD undef = .pointer (some ⟨w.heap.size, 0, none⟩) := h0 2 (by decide)
      clear hu h0
      have rv := hb9.2.1
      have rb := hb9.2.2
      replace hb9 := hb9.1
      have q0 := rv.c4.1
      have q1 := rv.c4.2.1
      have q2 := rv.c4.2.2.1
      have q3 := rv.c4.2.2.2
      have r0 := rb.c2.1
      have r1 := rb.c2.2
      have hl1 := rv.lt
      have hl2 := rb.lt
      go_simp
      exact hK.out w9 ⟨hb9, rv, rb⟩
    refine FixFrom.run rfl rfl (fun L A w9 hno hu h0 hb9 K hK => ?_) ?_
    · have e3 : A.tmps[3]?.getD undef = .pointer (some ⟨w.heap.size + 1, 0, none⟩) := h0 3 (by decide)
      clear hu h0
      have rv := hb9.2.1
      have rb := hb9.2.2
      replace hb9 := hb9.1
      have q0 := rv.c4.1
      have q1 := rv.c4.2.1
      have q2 := rv.c4.2.2.1
      have q3 := rv.c4.2.2.2
      have r0 := rb.c2.1
      have r1 := rb.c2.2
      have hl1 := rv.lt
      have hl2 := rb.lt
      go_simp
      exact hK.out w9 ⟨hb9, rv, rb⟩
    refine FixFrom.run rfl rfl (fun L A w9 hno hu h0 hb9 K hK => ?_) ?_
    · have e11 : A.tmps[11]?.getD undef = .pointer (some ⟨w.heap.size + 1, 0, none⟩) := hu 5 11 (by kernel_rfl) rfl
      clear hu h0
      have rv := hb9.2.1
      have rb := hb9.2.2
      replace hb9 := hb9.1
      have q0 := rv.c4.1
      have q1 := rv.c4.2.1
      have q2 := rv.c4.2.2.1
      have q3 := rv.c4.2.2.2
      have r0 := rb.c2.1
      have r1 := rb.c2.2
      have hl1 := rv.lt
      have hl2 := rb.lt
      go_simp
      exact hK.out w9 ⟨hb9, rv, rb⟩
    refine FixFrom.run rfl rfl (fun L A w9 hno hu h0 hb9 K hK => ?_) ?_
    · have e10 : A.tmps[10]?.getD undef = .agg #[.int .i64 v.p, .int .i64 v.c, .int .i64 v.h, .int .i64 v.s] := hu 4 10 (by kernel_rfl) rfl
      have e12 : A.tmps[12]?.getD undef = .slice Ao b.1.length co := hu 6 12 (by kernel_rfl) rfl
      clear hu h0
      have rv := hb9.2.1
      have rb := hb9.2.2
      replace hb9 := hb9.1
      have q0 := rv.c4.1
      have q1 := rv.c4.2.1
      have q2 := rv.c4.2.2.1
      have q3 := rv.c4.2.2.2
      have r0 := rb.c2.1
      have r1 := rb.c2.2
      have hl1 := rv.lt
      have hl2 := rb.lt
      go_simp
      refine (C1.out w9 hb9).mono ?_
      rintro e w2 ⟨rfl, hv2⟩
      exact hK.out w2 ⟨hb9.trans (hv2.mono hb9.size), rv.below hv2 rv.lt, rb.below hv2 rb.lt⟩
    refine FixFrom.run rfl rfl (fun L A w9 hno hu h0 hb9 K hK => ?_) ?_
    · have e13 : A.tmps[13]?.getD undef = .bool true := hu 7 13 (by kernel_rfl) rfl
      clear hu h0
      have rv := hb9.2.1
      have rb := hb9.2.2
      replace hb9 := hb9.1
      have q0 := rv.c4.1
      have q1 := rv.c4.2.1
      have q2 := rv.c4.2.2.1
      have q3 := rv.c4.2.2.2
      have r0 := rb.c2.1
      have r1 := rb.c2.2
      have hl1 := rv.lt
      have hl2 := rb.lt
      go_simp
      exact hK.out w9 ⟨hb9, rv, rb⟩
    refine FixFrom.run rfl rfl (fun L A w9 hno hu h0 hb9 K hK => ?_) ?_
    · have e9 : A.tmps[9]?.getD undef = .bool false := hu 3 9 (by kernel_rfl) rfl
      have e14 : A.tmps[14]?.getD undef = .bool false := hu 8 14 (by kernel_rfl) rfl
      clear hu h0
      have rv := hb9.2.1
      have rb := hb9.2.2
      replace hb9 := hb9.1
      have q0 := rv.c4.1
      have q1 := rv.c4.2.1
      have q2 := rv.c4.2.2.1
      have q3 := rv.c4.2.2.2
      have r0 := rb.c2.1
      have r1 := rb.c2.2
      have hl1 := rv.lt
      have hl2 := rb.lt
      go_simp
      exact hK.out w9 ⟨hb9, rv, rb⟩
    refine FixFrom.run rfl rfl (fun L A w9 hno hu h0 hb9 K hK => ?_) ?_
    · have e15 : A.tmps[15]?.getD undef = .bool false := hu 9 15 (by kernel_rfl) rfl
      clear hu h0
      have rv := hb9.2.1
      have rb := hb9.2.2
      replace hb9 := hb9.1
      have q0 := rv.c4.1
      have q1 := rv.c4.2.1
      have q2 := rv.c4.2.2.1
      have q3 := rv.c4.2.2.2
      have r0 := rb.c2.1
      have r1 := rb.c2.2
      have hl1 := rv.lt
      have hl2 := rb.lt
      go_simp
      exact hK.out w9 ⟨hb9, rv, rb⟩
    refine FixFrom.run rfl rfl (fun L A w9 hno hu h0 hb9 K hK => ?_) ?_
    · have e2 : A.tmps[2]?.getD undef = .pointer (some ⟨w.heap.size, 0, none⟩) := h0 2 (by decide)
      clear hu h0
      have rv := hb9.2.1
      have rb := hb9.2.2
      replace hb9 := hb9.1
      have q0 := rv.c4.1
      have q1 := rv.c4.2.1
      have q2 := rv.c4.2.2.1
      have q3 := rv.c4.2.2.2
      have r0 := rb.c2.1
      have r1 := rb.c2.2
      have hl1 := rv.lt
      have hl2 := rb.lt
      go_simp
      exact hK.out w9 ⟨hb9, rv, rb⟩
    refine FixFrom.run rfl rfl (fun L A w9 hno hu h0 hb9 K hK => ?_) ?_
    · have e3 : A.tmps[3]?.getD undef = .pointer (some ⟨w.heap.size + 1, 0, none⟩) := h0 3 (by decide)
      clear hu h0
      have rv := hb9.2.1
      have rb := hb9.2.2
      replace hb9 := hb9.1
      have q0 := rv.c4.1
      have q1 := rv.c4.2.1
      have q2 := rv.c4.2.2.1
      have q3 := rv.c4.2.2.2
      have r0 := rb.c2.1
      have r1 := rb.c2.2
      have hl1 := rv.lt
      have hl2 := rb.lt
      go_simp
      exact hK.out w9 ⟨hb9, rv, rb⟩
    refine FixFrom.run rfl rfl (fun L A w9 hno hu h0 hb9 K hK => ?_) ?_
    · have e18 : A.tmps[18]?.getD undef = .pointer (some ⟨w.heap.size + 1, 1, none⟩) := hu 12 18 (by kernel_rfl) rfl
      clear hu h0
      have rv := hb9.2.1
      have rb := hb9.2.2
      replace hb9 := hb9.1
      have q0 := rv.c4.1
      have q1 := rv.c4.2.1
      have q2 := rv.c4.2.2.1
      have q3 := rv.c4.2.2.2
      have r0 := rb.c2.1
      have r1 := rb.c2.2
      have hl1 := rv.lt
      have hl2 := rb.lt
      go_simp
      exact hK.out w9 ⟨hb9, rv, rb⟩
    refine FixFrom.run rfl rfl (fun L A w9 hno hu h0 hb9 K hK => ?_) ?_
    · have e17 : A.tmps[17]?.getD undef = .agg #[.int .i64 v.p, .int .i64 v.c, .int .i64 v.h, .int .i64 v.s] := hu 11 17 (by kernel_rfl) rfl
      have e19 : A.tmps[19]?.getD undef = .slice At b.2.length ct := hu 13 19 (by kernel_rfl) rfl
      clear hu h0
      have rv := hb9.2.1
      have rb := hb9.2.2
      replace hb9 := hb9.1
      have q0 := rv.c4.1
      have q1 := rv.c4.2.1
      have q2 := rv.c4.2.2.1
      have q3 := rv.c4.2.2.2
      have r0 := rb.c2.1
      have r1 := rb.c2.2
      have hl1 := rv.lt
      have hl2 := rb.lt
      go_simp
      refine (C2.out w9 hb9).mono ?_
      rintro e w2 ⟨rfl, hv2⟩
      exact hK.out w2 ⟨hb9.trans (hv2.mono hb9.size), rv.below hv2 rv.lt, rb.below hv2 rb.lt⟩
    refine FixFrom.run rfl rfl (fun L A w9 hno hu h0 hb9 K hK => ?_) ?_
    · have e20 : A.tmps[20]?.getD undef = .bool true := hu 14 20 (by kernel_rfl) rfl
      clear hu h0
      have rv := hb9.2.1
      have rb := hb9.2.2
      replace hb9 := hb9.1
      have q0 := rv.c4.1
      have q1 := rv.c4.2.1
      have q2 := rv.c4.2.2.1
      have q3 := rv.c4.2.2.2
      have r0 := rb.c2.1
      have r1 := rb.c2.2
      have hl1 := rv.lt
      have hl2 := rb.lt
      go_simp
      exact hK.out w9 ⟨hb9, rv, rb⟩
    refine FixFrom.run rfl rfl (fun L A w9 hno hu h0 hb9 K hK => ?_) ?_
    · have e16 : A.tmps[16]?.getD undef = .bool false := hu 10 16 (by kernel_rfl) rfl
      have e21 : A.tmps[21]?.getD undef = .bool false := hu 15 21 (by kernel_rfl) rfl
      clear hu h0
      have rv := hb9.2.1
      have rb := hb9.2.2
      replace hb9 := hb9.1
      have q0 := rv.c4.1
      have q1 := rv.c4.2.1
      have q2 := rv.c4.2.2.1
      have q3 := rv.c4.2.2.2
      have r0 := rb.c2.1
      have r1 := rb.c2.2
      have hl1 := rv.lt
      have hl2 := rb.lt
      go_simp
      exact hK.out w9 ⟨hb9, rv, rb⟩
    refine FixFrom.run rfl rfl (fun L A w9 hno hu h0 hb9 K hK => ?_) ?_
    · have e22 : A.tmps[22]?.getD undef = .bool false := hu 16 22 (by kernel_rfl) rfl
      clear hu h0
      have rv := hb9.2.1
      have rb := hb9.2.2
      replace hb9 := hb9.1
      have q0 := rv.c4.1
      have q1 := rv.c4.2.1
      have q2 := rv.c4.2.2.1
      have q3 := rv.c4.2.2.2
      have r0 := rb.c2.1
      have r1 := rb.c2.2
      have hl1 := rv.lt
      have hl2 := rb.lt
      go_simp
      exact hK.out w9 ⟨hb9, rv, rb⟩
    refine FixFrom.run rfl rfl (fun L A w9 hno hu h0 hb9 K hK => ?_) ?_
    · have e3 : A.tmps[3]?.getD undef = .pointer (some ⟨w.heap.size + 1, 0, none⟩) := h0 3 (by decide)
      clear hu h0
      have rv := hb9.2.1
      have rb := hb9.2.2
      replace hb9 := hb9.1
      have q0 := rv.c4.1
      have q1 := rv.c4.2.1
      have q2 := rv.c4.2.2.1
      have q3 := rv.c4.2.2.2
      have r0 := rb.c2.1
      have r1 := rb.c2.2
      have hl1 := rv.lt
      have hl2 := rb.lt
      go_simp
      exact hK.out w9 ⟨hb9, rv, rb⟩
    refine FixFrom.run rfl rfl (fun L A w9 hno hu h0 hb9 K hK => ?_) ?_
    · have e24 : A.tmps[24]?.getD undef = .pointer (some ⟨w.heap.size + 1, 0, none⟩) := hu 18 24 (by kernel_rfl) rfl
      clear hu h0
      have rv := hb9.2.1
      have rb := hb9.2.2
      replace hb9 := hb9.1
      have q0 := rv.c4.1
      have q1 := rv.c4.2.1
      have q2 := rv.c4.2.2.1
      have q3 := rv.c4.2.2.2
      have r0 := rb.c2.1
      have r1 := rb.c2.2
      have hl1 := rv.lt
      have hl2 := rb.lt
      go_simp
      exact hK.out w9 ⟨hb9, rv, rb⟩
    refine FixFrom.run rfl rfl (fun L A w9 hno hu h0 hb9 K hK => ?_) ?_
    · have e25 : A.tmps[25]?.getD undef = .slice Ao b.1.length co := hu 19 25 (by kernel_rfl) rfl
      clear hu h0
      have rv := hb9.2.1
      have rb := hb9.2.2
      replace hb9 := hb9.1
      have q0 := rv.c4.1
      have q1 := rv.c4.2.1
      have q2 := rv.c4.2.2.1
      have q3 := rv.c4.2.2.2
      have r0 := rb.c2.1
      have r1 := rb.c2.2
      have hl1 := rv.lt
      have hl2 := rb.lt
      go_simp
      refine (S1.out w9 hb9).mono ?_
      rintro e w2 ⟨rfl, rfl⟩
      exact hK.out w9 ⟨hb9, rv, rb⟩
    refine FixFrom.run rfl rfl (fun L A w9 hno hu h0 hb9 K hK => ?_) ?_
    · have e3 : A.tmps[3]?.getD undef = .pointer (some ⟨w.heap.size + 1, 0, none⟩) := h0 3 (by decide)
      clear hu h0
      have rv := hb9.2.1
      have rb := hb9.2.2
      replace hb9 := hb9.1
      have q0 := rv.c4.1
      have q1 := rv.c4.2.1
      have q2 := rv.c4.2.2.1
      have q3 := rv.c4.2.2.2
      have r0 := rb.c2.1
      have r1 := rb.c2.2
      have hl1 := rv.lt
      have hl2 := rb.lt
      go_simp
      exact hK.out w9 ⟨hb9, rv, rb⟩
    refine FixFrom.run rfl rfl (fun L A w9 hno hu h0 hb9 K hK => ?_) ?_
    · have e27 : A.tmps[27]?.getD undef = .pointer (some ⟨w.heap.size + 1, 1, none⟩) := hu 21 27 (by kernel_rfl) rfl
      clear hu h0
      have rv := hb9.2.1
      have rb := hb9.2.2
      replace hb9 := hb9.1
      have q0 := rv.c4.1
      have q1 := rv.c4.2.1
      have q2 := rv.c4.2.2.1
      have q3 := rv.c4.2.2.2
      have r0 := rb.c2.1
      have r1 := rb.c2.2
      have hl1 := rv.lt
      have hl2 := rb.lt
      go_simp
      exact hK.out w9 ⟨hb9, rv, rb⟩
    refine FixFrom.run rfl rfl (fun L A w9 hno hu h0 hb9 K hK => ?_) ?_
    · have e28 : A.tmps[28]?.getD undef = .slice At b.2.length ct := hu 22 28 (by kernel_rfl) rfl
      clear hu h0
      have rv := hb9.2.1
      have rb := hb9.2.2
      replace hb9 := hb9.1
      have q0 := rv.c4.1
      have q1 := rv.c4.2.1
      have q2 := rv.c4.2.2.1
      have q3 := rv.c4.2.2.2
      have r0 := rb.c2.1
      have r1 := rb.c2.2
      have hl1 := rv.lt
      have hl2 := rb.lt
      go_simp
      refine (S2.out w9 hb9).mono ?_
      rintro e w2 ⟨rfl, rfl⟩
      exact hK.out w9 ⟨hb9, rv, rb⟩
    refine FixFrom.run rfl rfl (fun L A w9 hno hu h0 hb9 K hK => ?_) ?_
    · have e26 : A.tmps[26]?.getD undef = .int .i64 z1 := hu 20 26 (by kernel_rfl) rfl
      have e29 : A.tmps[29]?.getD undef = .int .i64 z2 := hu 23 29 (by kernel_rfl) rfl
      clear hu h0
      have rv := hb9.2.1
      have rb := hb9.2.2
      replace hb9 := hb9.1
      have q0 := rv.c4.1
      have q1 := rv.c4.2.1
      have q2 := rv.c4.2.2.1
      have q3 := rv.c4.2.2.2
      have r0 := rb.c2.1
      have r1 := rb.c2.2
      have hl1 := rv.lt
      have hl2 := rb.lt
      go_simp
      exact hK.out w9 ⟨hb9, rv, rb⟩
    refine FixFrom.run rfl rfl (fun L A w9 hno hu h0 hb9 K hK => ?_) ?_
    · have e30 : A.tmps[30]?.getD undef = .int .i64 (z1 + z2) := hu 24 30 (by kernel_rfl) rfl
      clear hu h0
      have rv := hb9.2.1
      have rb := hb9.2.2
      replace hb9 := hb9.1
      have q0 := rv.c4.1
      have q1 := rv.c4.2.1
      have q2 := rv.c4.2.2.1
      have q3 := rv.c4.2.2.2
      have r0 := rb.c2.1
      have r1 := rb.c2.2
      have hl1 := rv.lt
      have hl2 := rb.lt
      go_simp
      exact hK.out w9 ⟨hb9, rv, rb⟩
    refine FixFrom.run rfl rfl (fun L A w9 hno hu h0 hb9 K hK => ?_) ?_
    · have e23 : A.tmps[23]?.getD undef = .bool false := hu 17 23 (by kernel_rfl) rfl
      have e31 : A.tmps[31]?.getD undef = .bool false := hu 25 31 (by kernel_rfl) rfl
      clear hu h0
      have rv := hb9.2.1
      have rb := hb9.2.2
      replace hb9 := hb9.1
      have q0 := rv.c4.1
      have q1 := rv.c4.2.1
      have q2 := rv.c4.2.2.1
      have q3 := rv.c4.2.2.2
      have r0 := rb.c2.1
      have r1 := rb.c2.2
      have hl1 := rv.lt
      have hl2 := rb.lt
      go_simp
      exact hK.out w9 ⟨hb9, rv, rb⟩
    exact FixFrom.nil (by decide)
  case fin5 =>
    intro w9 hb9
    simp only [Fr, Act.put, List.setIfInBounds_toArray, List.set_cons_zero, List.set_cons_succ, Nat.reduceAdd, List.getD_cons_zero, List.getD_cons_succ]
    obtain ⟨hb, rv, rb⟩ := hb9
    obtain ⟨q0, q1, q2, q3⟩ := rv.c4
    obtain ⟨r0, r1⟩ := rb.c2
    have hl1 := rv.lt
    have hl2 := rb.lt
    go_wp2_with fail
    go_loopw [5] (fun i wr => ∃ (k : Nat), (k : Int) ≤ v.p ∧ i = .int .i64 (k : Int) ∧ Hid (Below w.heap.size w wr) ∧ RowB wr w.heap.size 32 [.int .i64 v.p, .int .i64 v.c, .int .i64 v.h, .int .i64 v.s] ∧ RowB wr (w.heap.size + 1) 34 [.slice Ao b.1.length co, .slice At b.2.length ct] ∧ Hid (apart v b k = true)) (fun i _ => v.p.toNat - (intOf i).toNat)
    case atStart => exact ⟨0, by omega, by first | rfl | trivial, Lib.hid hb, rv, rb, rfl⟩
    case round =>
      obtain ⟨k, hk, rfl, hb, rv, rb, hap⟩ := hrel
      clear q0 q1 q2 q3 r0 r1 hl1 hl2
      obtain ⟨q0, q1, q2, q3⟩ := rv.c4
      obtain ⟨r0, r1⟩ := rb.c2
      by_cases hlt : (k : Int) < v.p
      · obtain ⟨b1, o1, rfl, hb1', hc1⟩ := at_rd (HO.out.below hb.out hB) (i := k) (by omega)
        have ei : (v.p - 1 - (k : Int)).toNat = v.p.toNat - 1 - k := by omega
        obtain ⟨j, hj⟩ : ∃ j : Nat, v.p - 1 - (k : Int) = (j : Int) := ⟨(v.p - 1 - (k : Int)).toNat, by omega⟩
        have hj2 : v.p.toNat - 1 - k = j := by omega
        obtain ⟨b2, o2, rfl, hb2', hc2⟩ := at_rd (HT.out.below hb.out hB) (i := j) (by omega)
        have e1 : IntKind.i64.wrap (v.p - 1) = v.p - 1 := IntWalk.i64_in _ (by omega)
        have e2 : IntKind.i64.wrap (v.p - 1 - (k : Int)) = (j : Int) := by rw [hj]; exact IntWalk.i64_in _ (by omega)
        by_cases g1 : 0 < at_ b.1 k
        · by_cases g2 : 0 < at_ b.2 j
          · obtain rfl : x = false := by rw [← HAP.out]; exact apart_no (k := k) (by omega) ⟨g1, by rw [hj2]; exact g2⟩
            clear ei hj2
            go_wp2_with fail
            go_ret
            exact ⟨rfl, hb.out⟩
          · have HP : Hid (apart v b (k + 1) = true) := Lib.hid (apart_step hap.out (fun h => g2 (by rw [← hj2]; exact h.2)))
            clear ei hj2
            go_wp2_with fail
            go_roundw
            case rel => exact ⟨k + 1, by omega, by go_num, hb, rv, rb, HP⟩
            case measure => simp [intOf]; omega
        · have HP : Hid (apart v b (k + 1) = true) := Lib.hid (apart_step hap.out (fun h => g1 h.1))
          clear ei hj2
          go_wp2_with fail
          go_roundw
          case rel => exact ⟨k + 1, by omega, by go_num, hb, rv, rb, HP⟩
          case measure => simp [intOf]; omega
      · obtain rfl : x = true := by rw [← HAP.out, ← hap.out]; congr 1; omega
        go_wp2_with fail
        go_ret
        exact ⟨rfl, hb.out⟩
end Go.Proofs.Ytfgkkmhafdbicaa.Bd3
