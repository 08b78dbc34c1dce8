/-
  Rolls: all of a variant, a roll's weight, is one a variant's; of the program and of the reference. Conditions: each theorem's own.
-/
import Derived.Test.YtfgkkmhafdbicaaPlP
import Derived.Test.YtfgkkmhafdbicaaBd1
import Derived.Test.YtfgkkmhafdbicaaOwn
import Derived.Test.YtfgkkmhafdbicaaBase2
import Derived.Deep.DeepCutAuto
set_option linter.unusedVariables false
set_option linter.unusedSimpArgs false
namespace Go.Proofs.Ytfgkkmhafdbicaa.Bd15
open Go.ChangeShapes Go.WideShapes Go.ChangeAt Go.RowKit Base Ints Own PlP Bd1

theorem infoR : (Try.prog.info? 36).map (fun i => (i.zero, i.size, i.bytes)) = some (some (.agg #[.int .i64 0, .int .i64 0]), 2, 16) := by kernel_rfl
theorem one_R (s : Int × Int) : ∀ u ∈ enI2 s, u.oneCell' = true := by intro u hu; simp [enI2] at hu; rcases hu with rfl | rfl <;> rfl
def rlU (a k : Nat) : List (Int × Int) := rollsP a ++ (List.range k).map fun b => (((a + 1 : Nat) : Int), ((b + 1 : Nat) : Int))
theorem rlU_zero (a : Nat) : rlU a 0 = rollsP a := by simp [rlU]
theorem rlU_all (a : Nat) : rlU a (a + 1) = rollsP (a + 1) := rfl
theorem rlU_succ (a k : Nat) : rlU a (k + 1) = rlU a k ++ [(((a + 1 : Nat) : Int), ((k + 1 : Nat) : Int))] := by
  unfold rlU; rw [List.range_succ, List.map_append, List.append_assoc]; rfl
theorem rolls_len : ∀ a, a ≤ 6 → (rollsP a).length ≤ a * 7 := by
  intro a
  induction a with
  | zero => intro _; exact Nat.le_refl _
  | succ a ih =>
    intro h
    have := ih (by omega)
    simp only [rollsP, List.length_append, List.length_map, List.length_range]
    omega
/-- Is a pair a roll of a variant? -/
def okR (v : Vr) (a b : Int) : Bool := decide (1 ≤ a ∧ a ≤ v.s) && decide (1 ≤ b ∧ b ≤ a)
theorem okR_iff {v : Vr} {a b : Int} : okR v a b = true ↔ (1 ≤ a ∧ a ≤ v.s) ∧ 1 ≤ b ∧ b ≤ a := by
  unfold okR; simp only [Bool.and_eq_true, decide_eq_true_eq]

set_option maxHeartbeats 4000000 in
set_option maxRecDepth 100000 in
theorem rolls_i (v : Vr) (hv : okV v = true) (w : World) : Calls Try.prog 77 #[.agg #[.int .i64 v.p, .int .i64 v.c, .int .i64 v.h, .int .i64 v.s]] w fun e w' => ∃ vv, e = .returned vv ∧ OwnS w' w.heap.size w'.heap.size 36 2 enI2 vv (rollsP v.s.toNat) ∧ Below w.heap.size w w' := by
  obtain ⟨i2, hi2, hz0, hz1, hz2⟩ := info_parts infoR
  have hs := (okV_iff.1 hv).2.2.2
  obtain ⟨S, hS⟩ : ∃ S : Nat, v.s = (S : Int) := ⟨v.s.toNat, by omega⟩
  have hS6 : S ≤ 6 := by omega
  have eS : v.s.toNat = S := by omega
  rw [eS]
  have CV := Lib.hid (fun w9 => var_i v true hv w9)
  have HV0 := hv
  obtain ⟨p, c, h, s⟩ := v
  simp only at hS
  subst hS
  clear hs eS HV0
  go_enter Try.func77, Try.ntmps77
  go_wp2_with fail
  refine (CV.out _).mono ?_
  rintro e w1 ⟨rfl, hb1⟩
  have rv := (RowB.new w 32 [.int .i64 p, .int .i64 c, .int .i64 h, .int .i64 (S : Int)]).below hb1 (by go_size)
  have hbW : Below w.heap.size w w1 := Below.then_ (by go_grown) hb1 (by go_size)
  obtain ⟨q0, q1, q2, q3⟩ := rv.c4
  have hl1 := rv.lt
  clear hb1
  go_wp2_with fail
  go_loopw [3, 4] (fun vl i wr => ∃ a : Nat, a ≤ S ∧ i = .int .i64 ((a : Int) + 1) ∧ Hid (Below w.heap.size w wr) ∧ RowB wr w.heap.size 32 [.int .i64 p, .int .i64 c, .int .i64 h, .int .i64 (S : Int)] ∧ Hid (OwnS wr (w.heap.size + 1) wr.heap.size 36 2 enI2 vl (rollsP a))) (fun _ i _ => S + 1 - (intOf i).toNat)
  case atStart => exact ⟨0, Nat.zero_le _, by first | rfl | trivial, Lib.hid hbW, rv, Lib.hid (OwnS.nil_ _ _ _ _ _ _)⟩
  case round =>
    obtain ⟨a, ha, rfl, hb, rv, ho⟩ := hrel
    clear q0 q1 q2 q3 hl1
    obtain ⟨q0, q1, q2, q3⟩ := rv.c4
    have hl1 := rv.lt
    by_cases hlt : a < S
    · have hai : (a : Int) + 1 ≤ (S : Int) := by omega
      have hwa : IntKind.i64.wrap ((a : Int) + 1 + 1) = (a : Int) + 1 + 1 := IntWalk.i64_in _ (by omega)
      have HL0 := Lib.hid (rolls_len a (by omega))
      go_wp2_with fail
      go_loopw [3, 5] (fun vl i wq => ∃ k : Nat, k ≤ a + 1 ∧ i = .int .i64 ((k : Int) + 1) ∧ Hid (Below w.heap.size w wq) ∧ RowB wq w.heap.size 32 [.int .i64 p, .int .i64 c, .int .i64 h, .int .i64 (S : Int)] ∧ Hid (OwnS wq (w.heap.size + 1) wq.heap.size 36 2 enI2 vl (rlU a k)) ∧ Hid ((rlU a k).length ≤ a * 7 + k)) (fun _ i _ => a + 2 - (intOf i).toNat)
      case atStart => exact ⟨0, Nat.zero_le _, by first | rfl | trivial, hb, rv, by rw [rlU_zero]; exact ho, Lib.hid (by rw [rlU_zero]; exact HL0.out)⟩
      case round =>
        obtain ⟨k, hk, rfl, hb, rv, ho, hlen⟩ := hrel
        clear q0 q1 q2 q3 hl1
        obtain ⟨q0, q1, q2, q3⟩ := rv.c4
        have hl1 := rv.lt
        by_cases hlk : k < a + 1
        · have hki : (k : Int) + 1 ≤ (a : Int) + 1 := by omega
          have hwk : IntKind.i64.wrap ((k : Int) + 1 + 1) = (k : Int) + 1 + 1 := IntWalk.i64_in _ (by omega)
          have HS := Lib.hid (rlU_succ a k)
          obtain ⟨X, hX⟩ : ∃ X, rlU a k = X := ⟨_, rfl⟩
          rw [hX] at ho hlen HS
          clear hX
          obtain ⟨Av, cv, hvl, _⟩ := ho.out.form enI2_len
          subst hvl
          go_wp2_with (at_builtin; refine wpL_app rfl _ _ _ rfl (w.heap.size + 1) _ 36 i2 (.agg #[.int .i64 0, .int .i64 0]) 2 16 Try.underlying92 hi2 hz0 hz1 hz2 rfl (by decide) enI2_len one_R (.slice Av X.length cv) X [((a : Int) + 1, (k : Int) + 1)] rfl (ho.out.alloc _) ⟨wr.heap.size, 0, none⟩ 1 1 (by first | rfl | (simp; rfl) | (simp [go_sem]; done)) rfl (news_new (RowB.new _ _ _)) (by decide) ?c1 ?c2 ?c3 ?_)
          case c1 => have := hlen.out; unfold maxLen; omega
          case c2 => have := hlen.out; omega
          case c3 => go_size
          intro k2 c2 w7 ho7 hg7 hat7 hlt7
          have hrow : ∀ g, (Value.slice Av X.length cv).ownBlock = some g → w.heap.size + 1 ≤ g := fun g hg => (ho.out.block g hg).1
          have hg8 : wr.grownBy w7 (Value.slice Av X.length cv).ownBlock := below_grown (w := wr) (by go_grown) hg7
          have rv := rv.grown hg8 (fun g hg => by have := hrow g hg; omega)
          have hbn := Lib.hid (hb.out.grown hg8 hb.out.size (fun g hg => by have := hrow g hg; omega))
          have hoN := Lib.hid (show OwnS w7 (w.heap.size + 1) w7.heap.size 36 2 enI2 (.slice (some ⟨k2, 0, none⟩) (X.length + 1) c2) (rlU a (k + 1)) from by rw [HS.out]; exact ho7)
          have hlN : Hid ((rlU a (k + 1)).length ≤ a * 7 + (k + 1)) := Lib.hid (by rw [HS.out, List.length_append, List.length_singleton]; have := hlen.out; omega)
          clear hg7 hg8 hat7 ho7 hrow hb ho hlen
          go_wp2_with fail
          go_roundw
          case rel => exact ⟨k + 1, by omega, by go_num, hbn, rv, hoN, hlN⟩
          case measure => simp [intOf]; omega
        · obtain rfl : k = a + 1 := by omega
          have hka : ¬ (((a + 1 : Nat) : Int) + 1 ≤ (a : Int) + 1) := by omega
          have hoE := Lib.hid ho.out
          rw [rlU_all] at hoE
          go_wp2_with fail
          go_roundw
          case rel => exact ⟨a + 1, by omega, by go_num, hb, rv, hoE⟩
          case measure => simp [intOf]; omega
    · obtain rfl : a = S := by omega
      have hka : ¬ ((a : Int) + 1 ≤ (a : Int)) := by omega
      go_wp2_with fail
      go_ret
      exact ⟨_, rfl, ho.out.less (by omega), hb.out⟩

set_option maxHeartbeats 4000000 in
set_option maxRecDepth 100000 in
theorem rolls_s (v : Vr) (hv : okV v = true) (w : World) : Calls Try.prog 72 #[.agg #[.int .i64 v.p, .int .i64 v.c, .int .i64 v.h, .int .i64 v.s]] w fun e w' => ∃ vv, e = .returned vv ∧ OwnS w' w.heap.size w'.heap.size 36 2 enI2 vv (rollsP v.s.toNat) ∧ Below w.heap.size w w' := by
  obtain ⟨i2, hi2, hz0, hz1, hz2⟩ := info_parts infoR
  have hs := (okV_iff.1 hv).2.2.2
  obtain ⟨S, hS⟩ : ∃ S : Nat, v.s = (S : Int) := ⟨v.s.toNat, by omega⟩
  have hS6 : S ≤ 6 := by omega
  have eS : v.s.toNat = S := by omega
  rw [eS]
  have HV0 := hv
  obtain ⟨p, c, h, s⟩ := v
  simp only at hS
  subst hS
  clear hs eS HV0
  go_enter Try.func72, Try.ntmps72
  go_upto_region 2 with (fail)
  refine wp_gen (fun W' => Below w.heap.size w W' ∧ RowB W' w.heap.size 32 [.int .i64 p, .int .i64 c, .int .i64 h, .int .i64 (S : Int)] ∧ OwnS W' (w.heap.size + 1) W'.heap.size 36 2 enI2 (.slice (some ⟨w.heap.size + 1, 0, none⟩) 0 0) []) ⟨by go_grown, (RowB.new _ _ _).alloc _, RowB.own (xs := ([] : List (Int × Int))) (RowB.new' _ _ _ (by first | simp | go_size | rfl)) enI2_len (Nat.le_refl _) (by go_size) (by decide)⟩ ?_
  rintro w1 ⟨hbW, rv, ho0⟩
  obtain ⟨q0, q1, q2, q3⟩ := rv.c4
  have hl1 := rv.lt
  go_wp2_with fail
  go_loopw [3, 4] (fun vl i wr => ∃ a : Nat, a ≤ S ∧ i = .int .i64 ((a : Int) + 1) ∧ Hid (Below w.heap.size w wr) ∧ RowB wr w.heap.size 32 [.int .i64 p, .int .i64 c, .int .i64 h, .int .i64 (S : Int)] ∧ Hid (OwnS wr (w.heap.size + 1) wr.heap.size 36 2 enI2 vl (rollsP a))) (fun _ i _ => S + 1 - (intOf i).toNat)
  case atStart => exact ⟨0, Nat.zero_le _, by first | rfl | trivial, Lib.hid hbW, rv, Lib.hid ho0⟩
  case round =>
    obtain ⟨a, ha, rfl, hb, rv, ho⟩ := hrel
    clear q0 q1 q2 q3 hl1
    obtain ⟨q0, q1, q2, q3⟩ := rv.c4
    have hl1 := rv.lt
    by_cases hlt : a < S
    · have hai : (a : Int) + 1 ≤ (S : Int) := by omega
      have hwa : IntKind.i64.wrap ((a : Int) + 1 + 1) = (a : Int) + 1 + 1 := IntWalk.i64_in _ (by omega)
      have HL0 := Lib.hid (rolls_len a (by omega))
      go_wp2_with fail
      go_loopw [3, 5] (fun vl i wq => ∃ k : Nat, k ≤ a + 1 ∧ i = .int .i64 ((k : Int) + 1) ∧ Hid (Below w.heap.size w wq) ∧ RowB wq w.heap.size 32 [.int .i64 p, .int .i64 c, .int .i64 h, .int .i64 (S : Int)] ∧ Hid (OwnS wq (w.heap.size + 1) wq.heap.size 36 2 enI2 vl (rlU a k)) ∧ Hid ((rlU a k).length ≤ a * 7 + k)) (fun _ i _ => a + 2 - (intOf i).toNat)
      case atStart => exact ⟨0, Nat.zero_le _, by first | rfl | trivial, hb, rv, by rw [rlU_zero]; exact ho, Lib.hid (by rw [rlU_zero]; exact HL0.out)⟩
      case round =>
        obtain ⟨k, hk, rfl, hb, rv, ho, hlen⟩ := hrel
        clear q0 q1 q2 q3 hl1
        obtain ⟨q0, q1, q2, q3⟩ := rv.c4
        have hl1 := rv.lt
        by_cases hlk : k < a + 1
        · have hki : (k : Int) + 1 ≤ (a : Int) + 1 := by omega
          have hwk : IntKind.i64.wrap ((k : Int) + 1 + 1) = (k : Int) + 1 + 1 := IntWalk.i64_in _ (by omega)
          have HS := Lib.hid (rlU_succ a k)
          obtain ⟨X, hX⟩ : ∃ X, rlU a k = X := ⟨_, rfl⟩
          rw [hX] at ho hlen HS
          clear hX
          obtain ⟨Av, cv, hvl, _⟩ := ho.out.form enI2_len
          subst hvl
          go_wp2_with (at_builtin; refine wpL_app rfl _ _ _ rfl (w.heap.size + 1) _ 36 i2 (.agg #[.int .i64 0, .int .i64 0]) 2 16 Try.underlying92 hi2 hz0 hz1 hz2 rfl (by decide) enI2_len one_R (.slice Av X.length cv) X [((a : Int) + 1, (k : Int) + 1)] rfl (ho.out.alloc _) ⟨wr.heap.size, 0, none⟩ 1 1 (by first | rfl | (simp; rfl) | (simp [go_sem]; done)) rfl (news_new (RowB.new _ _ _)) (by decide) ?c1 ?c2 ?c3 ?_)
          case c1 => have := hlen.out; unfold maxLen; omega
          case c2 => have := hlen.out; omega
          case c3 => go_size
          intro k2 c2 w7 ho7 hg7 hat7 hlt7
          have hrow : ∀ g, (Value.slice Av X.length cv).ownBlock = some g → w.heap.size + 1 ≤ g := fun g hg => (ho.out.block g hg).1
          have hg8 : wr.grownBy w7 (Value.slice Av X.length cv).ownBlock := below_grown (w := wr) (by go_grown) hg7
          have rv := rv.grown hg8 (fun g hg => by have := hrow g hg; omega)
          have hbn := Lib.hid (hb.out.grown hg8 hb.out.size (fun g hg => by have := hrow g hg; omega))
          have hoN := Lib.hid (show OwnS w7 (w.heap.size + 1) w7.heap.size 36 2 enI2 (.slice (some ⟨k2, 0, none⟩) (X.length + 1) c2) (rlU a (k + 1)) from by rw [HS.out]; exact ho7)
          have hlN : Hid ((rlU a (k + 1)).length ≤ a * 7 + (k + 1)) := Lib.hid (by rw [HS.out, List.length_append, List.length_singleton]; have := hlen.out; omega)
          clear hg7 hg8 hat7 ho7 hrow hb ho hlen
          go_wp2_with fail
          go_roundw
          case rel => exact ⟨k + 1, by omega, by go_num, hbn, rv, hoN, hlN⟩
          case measure => simp [intOf]; omega
        · obtain rfl : k = a + 1 := by omega
          have hka : ¬ (((a + 1 : Nat) : Int) + 1 ≤ (a : Int) + 1) := by omega
          have hoE := Lib.hid ho.out
          rw [rlU_all] at hoE
          go_wp2_with fail
          go_roundw
          case rel => exact ⟨a + 1, by omega, by go_num, hb, rv, hoE⟩
          case measure => simp [intOf]; omega
    · obtain rfl : a = S := by omega
      have hka : ¬ ((a : Int) + 1 ≤ (a : Int)) := by omega
      go_wp2_with fail
      go_ret
      exact ⟨_, rfl, ho.out.less (by omega), hb.out⟩

set_option maxHeartbeats 1000000 in
theorem isroll_i (v : Vr) (a b : Int) (x : Bool) (hx : (okV v && okR v a b) = x) (w : World) : Calls Try.prog 27 #[.agg #[.int .i64 v.p, .int .i64 v.c, .int .i64 v.h, .int .i64 v.s], .agg #[.int .i64 a, .int .i64 b]] w fun e w' => e = .returned (.bool x) ∧ Below w.heap.size w w' := by
  unfold okR at hx
  obtain ⟨c1, h1⟩ : ∃ a, okV v = a := ⟨_, rfl⟩
  obtain ⟨c2, h2⟩ : ∃ c, decide (1 ≤ a ∧ a ≤ v.s) = c := ⟨_, rfl⟩
  obtain ⟨c3, h3⟩ : ∃ c, decide (1 ≤ b ∧ b ≤ a) = c := ⟨_, rfl⟩
  rw [h1, h2, h3] at hx
  have C1 := Lib.hid (fun w => var_i v c1 h1 w)
  have C2 := Lib.hid (fun w => in_i a 1 v.s c2 h2 w)
  have C3 := Lib.hid (fun w => in_i b 1 a c3 h3 w)
  have HX := Lib.hid hx
  clear h1 h2 h3 hx
  go_enter Try.func27, Try.ntmps27
  go_wp2_with fail
  refine (C1.out _).mono ?_
  rintro e w1 ⟨rfl, hb1⟩
  have rv := (RowB.alloc (RowB.new w 32 [.int .i64 v.p, .int .i64 v.c, .int .i64 v.h, .int .i64 v.s]) _).below hb1 (by go_size)
  have rr := (RowB.new' (w.alloc (.cells #[.int .i64 v.p, .int .i64 v.c, .int .i64 v.h, .int .i64 v.s] 32)) 36 [.int .i64 a, .int .i64 b] (g := w.heap.size + 1) (by simp)).below hb1 (by go_size)
  have t1 : Below w.heap.size w w1 := Below.then_ (by go_grown) hb1 (by go_size)
  clear hb1
  obtain ⟨q0, q1, q2, q3⟩ := rv.c4
  obtain ⟨r0, r1⟩ := rr.c2
  cases c1
  case false =>
    obtain rfl : x = false := by rw [← HX.out]; rfl
    go_wp2_with fail
    go_ret
    exact ⟨rfl, t1⟩
  go_wp2_with fail
  refine (C2.out _).mono ?_
  rintro e w2 ⟨rfl, rfl⟩
  cases c2
  case false =>
    obtain rfl : x = false := by rw [← HX.out]; rfl
    go_wp2_with fail
    go_ret
    exact ⟨rfl, t1⟩
  go_wp2_with fail
  refine (C3.out _).mono ?_
  rintro e w3 ⟨rfl, rfl⟩
  obtain rfl : x = c3 := by rw [← HX.out]; simp
  go_wp2_with fail
  go_ret
  exact ⟨rfl, t1⟩

set_option maxHeartbeats 1000000 in
theorem isroll_s (v : Vr) (a b : Int) (x : Bool) (hx : okR v a b = x) (w : World) : Calls Try.prog 46 #[.agg #[.int .i64 v.p, .int .i64 v.c, .int .i64 v.h, .int .i64 v.s], .agg #[.int .i64 a, .int .i64 b]] w fun e w' => e = .returned (.bool x) ∧ Below w.heap.size w w' := by
  unfold okR at hx
  obtain ⟨c2, h2⟩ : ∃ c, decide (1 ≤ a ∧ a ≤ v.s) = c := ⟨_, rfl⟩
  obtain ⟨c3, h3⟩ : ∃ c, decide (1 ≤ b ∧ b ≤ a) = c := ⟨_, rfl⟩
  rw [h2, h3] at hx
  have C2 := Lib.hid (fun w => in_s a 1 v.s c2 h2 w)
  have C3 := Lib.hid (fun w => in_s b 1 a c3 h3 w)
  have HX := Lib.hid hx
  clear h2 h3 hx
  go_enter Try.func46, Try.ntmps46
  go_wp2_with fail
  refine (C2.out _).mono ?_
  rintro e w2 ⟨rfl, rfl⟩
  cases c2
  case false =>
    obtain rfl : x = false := by rw [← HX.out]; rfl
    go_wp2_with fail
    go_ret
    exact ⟨rfl, by go_grown⟩
  go_wp2_with fail
  refine (C3.out _).mono ?_
  rintro e w3 ⟨rfl, rfl⟩
  obtain rfl : x = c3 := by rw [← HX.out]; simp
  go_wp2_with fail
  go_ret
  exact ⟨rfl, by go_grown⟩

theorem weight_i (v : Vr) (hv : okV v = true) (a b : Int) (hr : okR v a b = true) (w : World) : Calls Try.prog 78 #[.agg #[.int .i64 v.p, .int .i64 v.c, .int .i64 v.h, .int .i64 v.s], .agg #[.int .i64 a, .int .i64 b]] w fun e w' => e = .returned (.int .i64 (wtP (a, b))) ∧ Below w.heap.size w w' := by
  have C1 := Lib.hid (fun w => isroll_i v a b true (by rw [hv, hr]; rfl) w)
  obtain ⟨z, hz⟩ : ∃ z, wtP (a, b) = z := ⟨_, rfl⟩
  rw [hz]
  have HZ := Lib.hid hz
  clear hv hr hz
  go_enter Try.func78, Try.ntmps78
  go_wp2_with fail
  refine (C1.out _).mono ?_
  rintro e w1 ⟨rfl, hb1⟩
  have rr := (RowB.new' (w.alloc (.cells #[.int .i64 v.p, .int .i64 v.c, .int .i64 v.h, .int .i64 v.s] 32)) 36 [.int .i64 a, .int .i64 b] (g := w.heap.size + 1) (by simp)).below hb1 (by go_size)
  have t1 : Below w.heap.size w w1 := Below.then_ (by go_grown) hb1 (by go_size)
  clear hb1 C1
  obtain ⟨r0, r1⟩ := rr.c2
  by_cases h : a = b
  · obtain rfl : z = 1 := by rw [← HZ.out]; unfold wtP; rw [if_pos h]
    have e1 : (a == b) = true := by simp [h]
    clear h HZ
    go_wp2_with fail
    go_ret
    exact ⟨rfl, t1⟩
  · obtain rfl : z = 2 := by rw [← HZ.out]; unfold wtP; rw [if_neg h]
    have e1 : (a == b) = false := by simp [h]
    clear h HZ
    go_wp2_with fail
    go_ret
    exact ⟨rfl, t1⟩

theorem base_s (v : Vr) (hv : okV v = true) (w : World) : Calls Try.prog 74 #[.agg #[.int .i64 v.p, .int .i64 v.c, .int .i64 v.h, .int .i64 v.s]] w fun e w' => e = .returned (.int .i64 (v.s * v.s)) ∧ Below w.heap.size w w' := by
  have hs := (okV_iff.1 hv).2.2.2
  have hb : 0 ≤ v.s * v.s ∧ v.s * v.s ≤ 36 := ⟨Int.mul_nonneg (by omega) (by omega), Int.mul_le_mul hs.2 hs.2 (by omega) (by omega)⟩
  have hw : IntKind.i64.wrap (v.s * v.s) = v.s * v.s := IntWalk.i64_in _ (by omega)
  clear hv hs hb
  go_enter Try.func74, Try.ntmps74
  go_wp2_with fail
  go_ret
  exact ⟨rfl, by go_grown⟩
end Go.Proofs.Ytfgkkmhafdbicaa.Bd15
