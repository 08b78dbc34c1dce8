/-
  Texts of steps and rolls, of the reference: what its functions return. Conditions: each theorem's own.
-/
import Derived.Test.YtlfdcefgelpgmaaGreatDoorTsN
import Derived.Test.YtlfdcefgelpgmaaGreatDoorTxO
set_option linter.unusedVariables false
set_option linter.unusedSimpArgs false
namespace Go.Proofs.YtlfdcefgelpgmaaGreatDoor.TsI
open Go.ChangeShapes Go.WideShapes Go.ChangeAt Go.RowKit Base Ints Own JoinN PlP TxP Num Bd1 Bd5 RegF RegG TxI

/-- spec.l01Number. -/
theorem num_s (n : Int) (h0 : 0 ≤ n) (h1 : n < 100) (w : World) : Calls Tryz.prog 48 #[.int .i64 n] w fun e w' => e = .returned (.string (bs (Lib.itoa n))) ∧ Below w.heap.size w w' := by
  obtain ⟨k, rfl⟩ : ∃ k : Nat, n = k := ⟨n.toNat, by omega⟩
  have e : Lib.itoa (k : Int) = Lib.decDigits k := by unfold Lib.itoa; rw [if_neg (by omega), Int.toNat_natCast]
  rw [e]
  exact TsN.num k (by omega) w

set_option maxHeartbeats 1000000 in
set_option maxRecDepth 100000 in
theorem isroll_ws (v : Vr) (hv : okV v = true) (a b : Int) (x : Bool) (hx : rollB v a b = x) (w : World) : Calls Tryz.prog 86 #[.agg #[.int .i64 v.p, .int .i64 v.c, .int .i64 v.h, .int .i64 v.s], .agg #[.int .i64 a, .int .i64 b]] w fun e w' => e = .returned (.bool x) ∧ Below w.heap.size w w' := by
  unfold rollB at hx
  obtain ⟨c2, h2⟩ : ∃ c, decide (1 ≤ a ∧ a ≤ v.s) = c := ⟨_, rfl⟩
  obtain ⟨c3, h3⟩ : ∃ c, decide (1 ≤ b ∧ b ≤ a) = c := ⟨_, rfl⟩
  rw [h2, h3] at hx
  have C1 := Lib.hid (fun w => var_s v true hv w)
  have C2 := Lib.hid (fun w => in_s a 1 v.s c2 h2 w)
  have C3 := Lib.hid (fun w => in_s b 1 a c3 h3 w)
  have HX := Lib.hid hx
  clear hx h2 h3 hv
  go_enter Tryz.func86, Tryz.ntmps86
  go_upto_region 1 with (fail)
  refine wp_gen (fun W' => Below w.heap.size w W' ∧ RowB W' w.heap.size 25 [.int .i64 v.p, .int .i64 v.c, .int .i64 v.h, .int .i64 v.s] ∧ RowB W' (w.heap.size + 1) 49 [.int .i64 a, .int .i64 b]) ⟨by go_grown, (RowB.new _ _ _).alloc _, RowB.new' _ _ _ (by simp)⟩ ?_
  rintro w1 ⟨hb1, rv, rr⟩
  obtain ⟨q0, q1, q2, q3⟩ := rv.c4
  obtain ⟨r0, r1⟩ := rr.c2
  have hlv := rv.lt
  have hlr := rr.lt
  go_wp2_with fail
  refine (C1.out _).mono ?_
  rintro e w2 ⟨rfl, hb⟩
  have hb1 := hb1.trans (hb.mono hb1.size)
  have rv := rv.below hb hlv
  have rr := rr.below hb hlr
  clear q0 q1 q2 q3 r0 r1 hlv hlr hb
  obtain ⟨q0, q1, q2, q3⟩ := rv.c4
  obtain ⟨r0, r1⟩ := rr.c2
  have hlv := rv.lt
  have hlr := rr.lt
  go_wp2_with fail
  refine (C2.out _).mono ?_
  rintro e w3 ⟨rfl, rfl⟩
  cases c2
  case false =>
    obtain rfl : x = false := by rw [← HX.out]; rfl
    go_wp2_with fail
    go_ret
    exact ⟨rfl, hb1⟩
  go_wp2_with fail
  refine (C3.out _).mono ?_
  rintro e w3 ⟨rfl, rfl⟩
  obtain rfl : c3 = x := by rw [← HX.out]; rfl
  go_wp2_with fail
  go_ret
  exact ⟨rfl, hb1⟩


set_option maxHeartbeats 1000000 in
set_option maxRecDepth 100000 in
theorem plain_s (v : Vr) (hv : okV v = true) (s : Stp) (c : Bool) (hc : plainB v s = c) (w : World) : Calls Tryz.prog 98 #[.agg #[.int .i64 v.p, .int .i64 v.c, .int .i64 v.h, .int .i64 v.s], .agg #[.int .i64 s.1, .int .i64 s.2.1, .int .i64 s.2.2.1, .bool s.2.2.2]] w fun e w' => e = .returned (.bool c) ∧ Below w.heap.size w w' := by
  have hp := okV_iff.1 hv
  obtain ⟨f, t, d, h⟩ := s
  unfold plainB at hc
  simp only at hc ⊢
  obtain ⟨c1, h1⟩ : ∃ c, decide (0 ≤ f ∧ f ≤ v.p) = c := ⟨_, rfl⟩
  obtain ⟨c2, h2⟩ : ∃ c, decide (1 ≤ d ∧ d ≤ v.s) = c := ⟨_, rfl⟩
  rw [h1, h2] at hc
  have C1 := Lib.hid (fun w => in_s f 0 v.p c1 h1 w)
  have C2 := Lib.hid (fun w => in_s d 1 v.s c2 h2 w)
  have H12 := Lib.hid (And.intro h1 h2)
  have HP := Lib.hid hp
  have HC := Lib.hid hc
  clear hc h1 h2 hp hv
  cases c1
  · obtain rfl : c = false := by rw [← HC.out]; simp
    go_enter Tryz.func98, Tryz.ntmps98
    go_wp2_with fail
    refine (C1.out _).mono ?_
    rintro e w1 ⟨rfl, rfl⟩
    go_wp2_with fail
    go_ret
    exact ⟨rfl, by go_grown⟩
  cases c2
  · obtain rfl : c = false := by rw [← HC.out]; simp
    go_enter Tryz.func98, Tryz.ntmps98
    go_wp2_with fail
    refine (C1.out _).mono ?_
    rintro e w1 ⟨rfl, rfl⟩
    go_wp2_with fail
    refine (C2.out _).mono ?_
    rintro e w1 ⟨rfl, rfl⟩
    go_wp2_with fail
    go_ret
    exact ⟨rfl, by go_grown⟩
  have hb : (0 ≤ f ∧ f ≤ 24) ∧ 1 ≤ d ∧ d ≤ 6 := by
    have h1 := of_decide_eq_true H12.out.1
    have h2 := of_decide_eq_true H12.out.2
    have := HP.out
    omega
  obtain ⟨⟨hf0, hf1⟩, hd0, hd1⟩ := hb
  go_enter Tryz.func98, Tryz.ntmps98
  go_wp2_with fail
  refine (C1.out _).mono ?_
  rintro e w1 ⟨rfl, rfl⟩
  go_wp2_with fail
  refine (C2.out _).mono ?_
  rintro e w1 ⟨rfl, rfl⟩
  by_cases ht : t = -1
  · have e1 : (t == -1) = true := by simp [ht]
    have hc := HC.out
    rw [if_pos ht] at hc
    simp only [Bool.true_and] at hc
    clear ht
    cases h
    · by_cases h3 : f < v.p
      · have d3 := decide_eq_true h3
        by_cases h4 : f < d
        · obtain rfl : c = true := by rw [← hc]; simp [h3, h4]
          have d4 := decide_eq_true h4
          clear hc
          go_wp2_with fail
          go_ret
          exact ⟨rfl, by go_grown⟩
        · obtain rfl : c = false := by rw [← hc]; simp [h4]
          have d4 := decide_eq_false h4
          clear hc
          go_wp2_with fail
          go_ret
          exact ⟨rfl, by go_grown⟩
      · obtain rfl : c = false := by rw [← hc]; simp [h3]
        have d3 := decide_eq_false h3
        clear hc
        go_wp2_with fail
        go_ret
        exact ⟨rfl, by go_grown⟩
    · obtain rfl : c = false := by rw [← hc]; simp
      clear hc
      go_wp2_with fail
      go_ret
      exact ⟨rfl, by go_grown⟩
  · have e1 : (t == -1) = false := by simp [ht]
    have hc := HC.out
    rw [if_neg ht] at hc
    simp only [Bool.true_and] at hc
    clear ht
    by_cases h3 : 0 ≤ t
    · have d3 := decide_eq_true h3
      by_cases h4 : t = f - d
      · obtain rfl : c = true := by rw [← hc]; exact decide_eq_true ⟨h3, h4⟩
        have e4 : (t == f - d) = true := by simp [h4]
        clear hc h4
        go_wp2_with fail
        go_ret
        exact ⟨rfl, by go_grown⟩
      · obtain rfl : c = false := by rw [← hc]; exact decide_eq_false (fun h => h4 h.2)
        have e4 : (t == f - d) = false := by simp [h4]
        clear hc h4
        go_wp2_with fail
        go_ret
        exact ⟨rfl, by go_grown⟩
    · obtain rfl : c = false := by rw [← hc]; exact decide_eq_false (fun h => h3 h.1)
      have d3 := decide_eq_false h3
      clear hc
      by_cases h4 : t = f - d
      · have e4 : (t == f - d) = true := by simp [h4]
        clear h4
        go_wp2_with fail
        go_ret
        exact ⟨rfl, by go_grown⟩
      · have e4 : (t == f - d) = false := by simp [h4]
        clear h4
        go_wp2_with fail
        go_ret
        exact ⟨rfl, by go_grown⟩

set_option maxHeartbeats 1000000 in
set_option maxRecDepth 100000 in
theorem step_s (v : Vr) (hv : okV v = true) (s : Stp) (hs : plainB v s = true) (w : World) : Calls Tryz.prog 99 #[.agg #[.int .i64 v.p, .int .i64 v.c, .int .i64 v.h, .int .i64 v.s], .agg #[.int .i64 s.1, .int .i64 s.2.1, .int .i64 s.2.2.1, .bool s.2.2.2]] w fun e w' => e = .returned (.string (bs (stpT v s))) ∧ Below w.heap.size w w' := by
  have hp := okV_iff.1 hv
  obtain ⟨h1, h2, h3⟩ := plain_parts hs
  obtain ⟨f, t, d, h⟩ := s
  simp only at h1 h2 h3 ⊢
  have hb : (0 ≤ f ∧ f ≤ 24) ∧ (1 ≤ d ∧ d ≤ 6) ∧ -1 ≤ t ∧ t ≤ 24 := by omega
  have CF := Lib.hid (fun (w9 : World) => num_s (f + 1) (by omega) (by omega) w9)
  have CT := Lib.hid (fun (w9 : World) => num_s (t + 1) (by omega) (by omega) w9)
  have CD := Lib.hid (fun (w9 : World) => num_s d (by omega) (by omega) w9)
  obtain ⟨xf, hxf⟩ : ∃ x : ByteArray, bs (Lib.itoa (f + 1)) = x := ⟨_, rfl⟩
  obtain ⟨xt, hxt⟩ : ∃ x : ByteArray, bs (Lib.itoa (t + 1)) = x := ⟨_, rfl⟩
  obtain ⟨xd, hxd⟩ : ∃ x : ByteArray, bs (Lib.itoa d) = x := ⟨_, rfl⟩
  have zf : xf.size ≤ 2 := by rw [← hxf]; have := ito_len (n := f + 1) (by omega) (by omega); exact Nat.le_trans (Nat.le_of_eq (bs_size _)) this.2
  have zt : xt.size ≤ 2 := by rw [← hxt]; have := ito_len (n := t + 1) (by omega) (by omega); exact Nat.le_trans (Nat.le_of_eq (bs_size _)) this.2
  have zd : xd.size ≤ 2 := by rw [← hxd]; have := ito_len (n := d) (by omega) (by omega); exact Nat.le_trans (Nat.le_of_eq (bs_size _)) this.2
  rw [hxf] at CF
  rw [hxt] at CT
  rw [hxd] at CD
  have HX := Lib.hid (And.intro hxf.symm (And.intro hxt.symm hxd.symm))
  have H3 := Lib.hid h3
  obtain ⟨R, hR⟩ : ∃ R, bs (stpT v (f, t, d, h)) = R := ⟨_, rfl⟩
  have HR := Lib.hid hR
  rw [hR]
  clear hxf hxt hxd hR hs h3 hv hp
  obtain ⟨⟨hf0, hf1⟩, ⟨hd0, hd1⟩, ht0, ht1⟩ := hb
  clear h1 h2
  by_cases hfp : f < v.p
  · by_cases ht : 0 ≤ t
    · cases h
      · have HI : Hid ((((xf ++ ⟨#[47]⟩) ++ xt) : ByteArray) = R) := by
          show _ = _
          rw [← HR.out]
          simp only [HX.out.1, HX.out.2.1, HX.out.2.2]
          have q1 : (⟨#[47]⟩ : ByteArray) = bs [47] := rfl
          have q2 : (⟨#[42]⟩ : ByteArray) = bs [42] := rfl
          have q3 : (⟨#[111, 102, 102]⟩ : ByteArray) = bs [111, 102, 102] := rfl
          have q4 : (⟨#[40]⟩ : ByteArray) = bs [40] := rfl
          have q5 : (⟨#[41]⟩ : ByteArray) = bs [41] := rfl
          have q6 : (⟨#[98, 97, 114, 47]⟩ : ByteArray) = bs [98, 97, 114, 47] := rfl
          simp only [q1, q2, q3, q4, q5, q6, bs_cat]
          unfold stpT fromT
          simp [hfp, ht]
        have HI2 : Hid (Ending.returned (.string (((xf ++ ⟨#[47]⟩) ++ xt))) = Ending.returned (.string R)) := by show _ = _; rw [HI.out]
        have g1 : decide (0 ≤ t) = true := decide_eq_true ht
        have g4 : decide (f < v.p) = true := decide_eq_true hfp
        clear HI HX HR
        go_enter Tryz.func99, Tryz.ntmps99
        go_upto_region 1 with (fail)
        refine wp_gen (fun W' => Bx w W' v f t d false) ⟨by go_grown, (RowB.new _ _ _).alloc _, RowB.new' _ _ _ (by simp)⟩ ?_
        intro w1 K
        obtain ⟨q0, q1, q2, q3⟩ := K.rv.c4
        obtain ⟨y0, y1, y2, y3⟩ := K.rs.c4
        have hl1 := K.rv.lt
        have hl2 := K.rs.lt
        go_wp2_with fail
        refine (CF.out _).mono ?_
        rintro e w2 ⟨rfl, hb⟩
        have K := K.below hb
        clear q0 q1 q2 q3 y0 y1 y2 y3 hl1 hl2 hb
        obtain ⟨q0, q1, q2, q3⟩ := K.rv.c4
        obtain ⟨y0, y1, y2, y3⟩ := K.rs.c4
        have hl1 := K.rv.lt
        have hl2 := K.rs.lt
        go_wp2_with fail
        refine (CT.out _).mono ?_
        rintro e w3 ⟨rfl, hb⟩
        have K := K.below hb
        clear q0 q1 q2 q3 y0 y1 y2 y3 hl1 hl2 hb
        obtain ⟨q0, q1, q2, q3⟩ := K.rv.c4
        obtain ⟨y0, y1, y2, y3⟩ := K.rs.c4
        have hl1 := K.rv.lt
        have hl2 := K.rs.lt
        go_wp2_with fail
        go_ret
        exact ⟨HI2.out, K.bel⟩
      · have HI : Hid ((((xf ++ ⟨#[47]⟩) ++ xt) ++ ⟨#[42]⟩ : ByteArray) = R) := by
          show _ = _
          rw [← HR.out]
          simp only [HX.out.1, HX.out.2.1, HX.out.2.2]
          have q1 : (⟨#[47]⟩ : ByteArray) = bs [47] := rfl
          have q2 : (⟨#[42]⟩ : ByteArray) = bs [42] := rfl
          have q3 : (⟨#[111, 102, 102]⟩ : ByteArray) = bs [111, 102, 102] := rfl
          have q4 : (⟨#[40]⟩ : ByteArray) = bs [40] := rfl
          have q5 : (⟨#[41]⟩ : ByteArray) = bs [41] := rfl
          have q6 : (⟨#[98, 97, 114, 47]⟩ : ByteArray) = bs [98, 97, 114, 47] := rfl
          simp only [q1, q2, q3, q4, q5, q6, bs_cat]
          unfold stpT fromT
          simp [hfp, ht]
        have HI2 : Hid (Ending.returned (.string (((xf ++ ⟨#[47]⟩) ++ xt) ++ ⟨#[42]⟩)) = Ending.returned (.string R)) := by show _ = _; rw [HI.out]
        have g1 : decide (0 ≤ t) = true := decide_eq_true ht
        have g4 : decide (f < v.p) = true := decide_eq_true hfp
        clear HI HX HR
        go_enter Tryz.func99, Tryz.ntmps99
        go_upto_region 1 with (fail)
        refine wp_gen (fun W' => Bx w W' v f t d true) ⟨by go_grown, (RowB.new _ _ _).alloc _, RowB.new' _ _ _ (by simp)⟩ ?_
        intro w1 K
        obtain ⟨q0, q1, q2, q3⟩ := K.rv.c4
        obtain ⟨y0, y1, y2, y3⟩ := K.rs.c4
        have hl1 := K.rv.lt
        have hl2 := K.rs.lt
        go_wp2_with fail
        refine (CF.out _).mono ?_
        rintro e w2 ⟨rfl, hb⟩
        have K := K.below hb
        clear q0 q1 q2 q3 y0 y1 y2 y3 hl1 hl2 hb
        obtain ⟨q0, q1, q2, q3⟩ := K.rv.c4
        obtain ⟨y0, y1, y2, y3⟩ := K.rs.c4
        have hl1 := K.rv.lt
        have hl2 := K.rs.lt
        go_wp2_with fail
        refine (CT.out _).mono ?_
        rintro e w3 ⟨rfl, hb⟩
        have K := K.below hb
        clear q0 q1 q2 q3 y0 y1 y2 y3 hl1 hl2 hb
        obtain ⟨q0, q1, q2, q3⟩ := K.rv.c4
        obtain ⟨y0, y1, y2, y3⟩ := K.rs.c4
        have hl1 := K.rv.lt
        have hl2 := K.rs.lt
        go_wp2_with fail
        go_ret
        exact ⟨HI2.out, K.bel⟩
    · obtain rfl : h = false := by have := H3.out; rcases this with h | h; exact h.2.1; omega
      by_cases hdf : d = f + 1
      · have HI : Hid ((((xf ++ ⟨#[47]⟩) ++ ⟨#[111, 102, 102]⟩) : ByteArray) = R) := by
          show _ = _
          rw [← HR.out]
          simp only [HX.out.1, HX.out.2.1, HX.out.2.2]
          have q1 : (⟨#[47]⟩ : ByteArray) = bs [47] := rfl
          have q2 : (⟨#[42]⟩ : ByteArray) = bs [42] := rfl
          have q3 : (⟨#[111, 102, 102]⟩ : ByteArray) = bs [111, 102, 102] := rfl
          have q4 : (⟨#[40]⟩ : ByteArray) = bs [40] := rfl
          have q5 : (⟨#[41]⟩ : ByteArray) = bs [41] := rfl
          have q6 : (⟨#[98, 97, 114, 47]⟩ : ByteArray) = bs [98, 97, 114, 47] := rfl
          simp only [q1, q2, q3, q4, q5, q6, bs_cat]
          unfold stpT fromT
          simp [hfp, ht, hdf]
        have HI2 : Hid (Ending.returned (.string (((xf ++ ⟨#[47]⟩) ++ ⟨#[111, 102, 102]⟩))) = Ending.returned (.string R)) := by show _ = _; rw [HI.out]
        have g1 : decide (0 ≤ t) = false := decide_eq_false ht
        have g3 : (d != f + 1) = false := by simp [hdf]
        have g4 : decide (f < v.p) = true := decide_eq_true hfp
        clear HI HX HR hdf
        go_enter Tryz.func99, Tryz.ntmps99
        go_upto_region 1 with (fail)
        refine wp_gen (fun W' => Bx w W' v f t d false) ⟨by go_grown, (RowB.new _ _ _).alloc _, RowB.new' _ _ _ (by simp)⟩ ?_
        intro w1 K
        obtain ⟨q0, q1, q2, q3⟩ := K.rv.c4
        obtain ⟨y0, y1, y2, y3⟩ := K.rs.c4
        have hl1 := K.rv.lt
        have hl2 := K.rs.lt
        go_wp2_with fail
        refine (CF.out _).mono ?_
        rintro e w2 ⟨rfl, hb⟩
        have K := K.below hb
        clear q0 q1 q2 q3 y0 y1 y2 y3 hl1 hl2 hb
        obtain ⟨q0, q1, q2, q3⟩ := K.rv.c4
        obtain ⟨y0, y1, y2, y3⟩ := K.rs.c4
        have hl1 := K.rv.lt
        have hl2 := K.rs.lt
        go_wp2_with fail
        go_ret
        exact ⟨HI2.out, K.bel⟩
      · have HI : Hid ((((((xf ++ ⟨#[47]⟩) ++ ⟨#[111, 102, 102]⟩) ++ (⟨#[40]⟩ : ByteArray)) ++ xd) ++ ⟨#[41]⟩ : ByteArray) = R) := by
          show _ = _
          rw [← HR.out]
          simp only [HX.out.1, HX.out.2.1, HX.out.2.2]
          have q1 : (⟨#[47]⟩ : ByteArray) = bs [47] := rfl
          have q2 : (⟨#[42]⟩ : ByteArray) = bs [42] := rfl
          have q3 : (⟨#[111, 102, 102]⟩ : ByteArray) = bs [111, 102, 102] := rfl
          have q4 : (⟨#[40]⟩ : ByteArray) = bs [40] := rfl
          have q5 : (⟨#[41]⟩ : ByteArray) = bs [41] := rfl
          have q6 : (⟨#[98, 97, 114, 47]⟩ : ByteArray) = bs [98, 97, 114, 47] := rfl
          simp only [q1, q2, q3, q4, q5, q6, bs_cat]
          unfold stpT fromT
          simp [hfp, ht, hdf]
        have HI2 : Hid (Ending.returned (.string (((((xf ++ ⟨#[47]⟩) ++ ⟨#[111, 102, 102]⟩) ++ (⟨#[40]⟩ : ByteArray)) ++ xd) ++ ⟨#[41]⟩)) = Ending.returned (.string R)) := by show _ = _; rw [HI.out]
        have g1 : decide (0 ≤ t) = false := decide_eq_false ht
        have g3 : (d != f + 1) = true := by simp; exact hdf
        have g4 : decide (f < v.p) = true := decide_eq_true hfp
        clear HI HX HR hdf
        go_enter Tryz.func99, Tryz.ntmps99
        go_upto_region 1 with (fail)
        refine wp_gen (fun W' => Bx w W' v f t d false) ⟨by go_grown, (RowB.new _ _ _).alloc _, RowB.new' _ _ _ (by simp)⟩ ?_
        intro w1 K
        obtain ⟨q0, q1, q2, q3⟩ := K.rv.c4
        obtain ⟨y0, y1, y2, y3⟩ := K.rs.c4
        have hl1 := K.rv.lt
        have hl2 := K.rs.lt
        go_wp2_with fail
        refine (CF.out _).mono ?_
        rintro e w2 ⟨rfl, hb⟩
        have K := K.below hb
        clear q0 q1 q2 q3 y0 y1 y2 y3 hl1 hl2 hb
        obtain ⟨q0, q1, q2, q3⟩ := K.rv.c4
        obtain ⟨y0, y1, y2, y3⟩ := K.rs.c4
        have hl1 := K.rv.lt
        have hl2 := K.rs.lt
        go_wp2_with fail
        refine (CD.out _).mono ?_
        rintro e w3 ⟨rfl, hb⟩
        have K := K.below hb
        clear q0 q1 q2 q3 y0 y1 y2 y3 hl1 hl2 hb
        obtain ⟨q0, q1, q2, q3⟩ := K.rv.c4
        obtain ⟨y0, y1, y2, y3⟩ := K.rs.c4
        have hl1 := K.rv.lt
        have hl2 := K.rs.lt
        go_wp2_with fail
        go_ret
        exact ⟨HI2.out, K.bel⟩
  · by_cases ht : 0 ≤ t
    · cases h
      · have HI : Hid ((((⟨#[98, 97, 114, 47]⟩ : ByteArray) ++ xt) : ByteArray) = R) := by
          show _ = _
          rw [← HR.out]
          simp only [HX.out.1, HX.out.2.1, HX.out.2.2]
          have q1 : (⟨#[47]⟩ : ByteArray) = bs [47] := rfl
          have q2 : (⟨#[42]⟩ : ByteArray) = bs [42] := rfl
          have q3 : (⟨#[111, 102, 102]⟩ : ByteArray) = bs [111, 102, 102] := rfl
          have q4 : (⟨#[40]⟩ : ByteArray) = bs [40] := rfl
          have q5 : (⟨#[41]⟩ : ByteArray) = bs [41] := rfl
          have q6 : (⟨#[98, 97, 114, 47]⟩ : ByteArray) = bs [98, 97, 114, 47] := rfl
          simp only [q1, q2, q3, q4, q5, q6, bs_cat]
          unfold stpT fromT
          simp [hfp, ht]
        have HI2 : Hid (Ending.returned (.string (((⟨#[98, 97, 114, 47]⟩ : ByteArray) ++ xt))) = Ending.returned (.string R)) := by show _ = _; rw [HI.out]
        have g1 : decide (0 ≤ t) = true := decide_eq_true ht
        have g4 : decide (f < v.p) = false := decide_eq_false hfp
        clear HI HX HR
        go_enter Tryz.func99, Tryz.ntmps99
        go_upto_region 1 with (fail)
        refine wp_gen (fun W' => Bx w W' v f t d false) ⟨by go_grown, (RowB.new _ _ _).alloc _, RowB.new' _ _ _ (by simp)⟩ ?_
        intro w1 K
        obtain ⟨q0, q1, q2, q3⟩ := K.rv.c4
        obtain ⟨y0, y1, y2, y3⟩ := K.rs.c4
        have hl1 := K.rv.lt
        have hl2 := K.rs.lt
        go_wp2_with fail
        refine (CT.out _).mono ?_
        rintro e w2 ⟨rfl, hb⟩
        have K := K.below hb
        clear q0 q1 q2 q3 y0 y1 y2 y3 hl1 hl2 hb
        obtain ⟨q0, q1, q2, q3⟩ := K.rv.c4
        obtain ⟨y0, y1, y2, y3⟩ := K.rs.c4
        have hl1 := K.rv.lt
        have hl2 := K.rs.lt
        go_wp2_with fail
        go_ret
        exact ⟨HI2.out, K.bel⟩
      · have HI : Hid ((((⟨#[98, 97, 114, 47]⟩ : ByteArray) ++ xt) ++ ⟨#[42]⟩ : ByteArray) = R) := by
          show _ = _
          rw [← HR.out]
          simp only [HX.out.1, HX.out.2.1, HX.out.2.2]
          have q1 : (⟨#[47]⟩ : ByteArray) = bs [47] := rfl
          have q2 : (⟨#[42]⟩ : ByteArray) = bs [42] := rfl
          have q3 : (⟨#[111, 102, 102]⟩ : ByteArray) = bs [111, 102, 102] := rfl
          have q4 : (⟨#[40]⟩ : ByteArray) = bs [40] := rfl
          have q5 : (⟨#[41]⟩ : ByteArray) = bs [41] := rfl
          have q6 : (⟨#[98, 97, 114, 47]⟩ : ByteArray) = bs [98, 97, 114, 47] := rfl
          simp only [q1, q2, q3, q4, q5, q6, bs_cat]
          unfold stpT fromT
          simp [hfp, ht]
        have HI2 : Hid (Ending.returned (.string (((⟨#[98, 97, 114, 47]⟩ : ByteArray) ++ xt) ++ ⟨#[42]⟩)) = Ending.returned (.string R)) := by show _ = _; rw [HI.out]
        have g1 : decide (0 ≤ t) = true := decide_eq_true ht
        have g4 : decide (f < v.p) = false := decide_eq_false hfp
        clear HI HX HR
        go_enter Tryz.func99, Tryz.ntmps99
        go_upto_region 1 with (fail)
        refine wp_gen (fun W' => Bx w W' v f t d true) ⟨by go_grown, (RowB.new _ _ _).alloc _, RowB.new' _ _ _ (by simp)⟩ ?_
        intro w1 K
        obtain ⟨q0, q1, q2, q3⟩ := K.rv.c4
        obtain ⟨y0, y1, y2, y3⟩ := K.rs.c4
        have hl1 := K.rv.lt
        have hl2 := K.rs.lt
        go_wp2_with fail
        refine (CT.out _).mono ?_
        rintro e w2 ⟨rfl, hb⟩
        have K := K.below hb
        clear q0 q1 q2 q3 y0 y1 y2 y3 hl1 hl2 hb
        obtain ⟨q0, q1, q2, q3⟩ := K.rv.c4
        obtain ⟨y0, y1, y2, y3⟩ := K.rs.c4
        have hl1 := K.rv.lt
        have hl2 := K.rs.lt
        go_wp2_with fail
        go_ret
        exact ⟨HI2.out, K.bel⟩
    · exfalso; have := H3.out; omega
set_option maxHeartbeats 1000000 in
set_option maxRecDepth 100000 in
theorem roll_s (v : Vr) (hv : okV v = true) (x y : Int) (hr : rollB v x y = true) (w : World) :
    Calls Tryz.prog 70 #[.agg #[.int .i64 v.p, .int .i64 v.c, .int .i64 v.h, .int .i64 v.s], .agg #[.int .i64 x, .int .i64 y]] w fun e w' => e = .returned (.string (bs (rolT x y))) ∧ Below w.heap.size w w' := by
  have hp := okV_iff.1 hv
  have h1 := roll_parts hr
  have CR := Lib.hid (fun w9 => isroll_ws v hv x y true hr w9)
  have CA := Lib.hid (fun (w9 : World) => num_s x (by omega) (by omega) w9)
  have CB := Lib.hid (fun (w9 : World) => num_s y (by omega) (by omega) w9)
  have z1 := ito_len (n := x) (by omega) (by omega)
  have z2 := ito_len (n := y) (by omega) (by omega)
  obtain ⟨xa, hxa⟩ : ∃ z : ByteArray, bs (Lib.itoa x) = z := ⟨_, rfl⟩
  obtain ⟨xb, hxb⟩ : ∃ z : ByteArray, bs (Lib.itoa y) = z := ⟨_, rfl⟩
  rw [hxa] at CA
  rw [hxb] at CB
  have s1 : xa.size ≤ 2 := by rw [← hxa]; exact Nat.le_trans (Nat.le_of_eq (bs_size _)) z1.2
  have s2 : xb.size ≤ 2 := by rw [← hxb]; exact Nat.le_trans (Nat.le_of_eq (bs_size _)) z2.2
  have HS : Hid (¬ 9223372036854775807 < xa.size + xb.size) := Lib.hid (by omega)
  have HI : Hid (xa ++ xb = bs (rolT x y)) := by
    show _ = _
    rw [← hxa, ← hxb]
    exact bs_cat _ _
  obtain ⟨R, hR⟩ : ∃ r, bs (rolT x y) = r := ⟨_, rfl⟩
  rw [hR] at HI ⊢
  clear hxa hxb s1 s2 z1 z2 h1 hp hv hr hR
  go_enter Tryz.func70, Tryz.ntmps70
  go_upto_region 1 with (fail)
  refine wp_gen (fun W' => Bvr w W' v x y) ⟨by go_grown, (RowB.new _ _ _).alloc _, RowB.new' _ _ _ (by simp)⟩ ?_
  intro w1 K
  obtain ⟨q0, q1, q2, q3⟩ := K.rv.c4
  obtain ⟨r0, r1⟩ := K.rr.c2
  have hlv := K.rv.lt
  have hlr := K.rr.lt
  go_wp2_with fail
  refine (CR.out _).mono ?_
  rintro e w2 ⟨rfl, hb⟩
  have K := K.below hb
  clear q0 q1 q2 q3 r0 r1 hlv hlr hb CR
  have HK := Lib.hid K
  clear K
  go_wp2_with fail
  refine region_rel [some 9, some 10, some 11, some 12, some 13, some 14, some 15, some 4] 8 (Pl [some (.pointer (some ⟨w.heap.size + 1, 0, none⟩)), some (.int .i64 x), some (.string xa), some (.pointer (some ⟨w.heap.size + 1, 1, none⟩)), some (.int .i64 y), some (.string xb), some (.string (xa ++ xb)), some (.string (xa ++ xb))]) (fun L vals w' => Below w2.heap.size w2 w') (by kernel_rfl) (by kernel_rfl) (by kernel_rfl) (by kernel_rfl) (by kernel_rfl) (by kernel_rfl) (by kernel_rfl) ?g0_2 ?gst_2 ?gfin_2
  case g0_2 => exact (Below.refl _ _).drew
  case gst_2 =>
    refine RelFrom.run rfl (fun L vals A w9 hno hdl hcl hu hp h0 F K hK => ?_) ?_
    · have e3 : A.tmps[3]?.getD undef = .pointer (some ⟨w.heap.size + 1, 0, none⟩) := h0 3 (fun j _ hj => absurd (List.mem_of_getElem? hj) (by decide))
      clear hu h0 hp
      have rr := (HK.out.rr.below F HK.out.rr.lt).c2
      have r0 := rr.1
      have r1 := rr.2
      clear rr
      have hs := HS.out
      go_simp
      exact hK.out _ w9 (Pl.fix rfl) (F)
    refine RelFrom.run rfl (fun L vals A w9 hno hdl hcl hu hp h0 F K hK => ?_) ?_
    · have e9 : A.tmps[9]?.getD undef = .pointer (some ⟨w.heap.size + 1, 0, none⟩) := (hu 0 9 (by kernel_rfl) rfl).trans (hp 0 (by kernel_rfl) _ rfl)
      clear hu h0 hp
      have rr := (HK.out.rr.below F HK.out.rr.lt).c2
      have r0 := rr.1
      have r1 := rr.2
      clear rr
      have hs := HS.out
      go_simp
      exact hK.out _ w9 (Pl.fix rfl) (F)
    refine RelFrom.run rfl (fun L vals A w9 hno hdl hcl hu hp h0 F K hK => ?_) ?_
    · have e10 : A.tmps[10]?.getD undef = .int .i64 x := (hu 1 10 (by kernel_rfl) rfl).trans (hp 1 (by kernel_rfl) _ rfl)
      clear hu h0 hp
      go_simp
      refine (CA.out w9).mono ?_
      rintro e w6 ⟨rfl, hb6⟩
      exact hK.out _ w6 (Pl.fix rfl) (F.trans (hb6.mono F.size))
    refine RelFrom.run rfl (fun L vals A w9 hno hdl hcl hu hp h0 F K hK => ?_) ?_
    · have e3 : A.tmps[3]?.getD undef = .pointer (some ⟨w.heap.size + 1, 0, none⟩) := h0 3 (fun j _ hj => absurd (List.mem_of_getElem? hj) (by decide))
      clear hu h0 hp
      have rr := (HK.out.rr.below F HK.out.rr.lt).c2
      have r0 := rr.1
      have r1 := rr.2
      clear rr
      have hs := HS.out
      go_simp
      exact hK.out _ w9 (Pl.fix rfl) (F)
    refine RelFrom.run rfl (fun L vals A w9 hno hdl hcl hu hp h0 F K hK => ?_) ?_
    · have e12 : A.tmps[12]?.getD undef = .pointer (some ⟨w.heap.size + 1, 1, none⟩) := (hu 3 12 (by kernel_rfl) rfl).trans (hp 3 (by kernel_rfl) _ rfl)
      clear hu h0 hp
      have rr := (HK.out.rr.below F HK.out.rr.lt).c2
      have r0 := rr.1
      have r1 := rr.2
      clear rr
      have hs := HS.out
      go_simp
      exact hK.out _ w9 (Pl.fix rfl) (F)
    refine RelFrom.run rfl (fun L vals A w9 hno hdl hcl hu hp h0 F K hK => ?_) ?_
    · have e13 : A.tmps[13]?.getD undef = .int .i64 y := (hu 4 13 (by kernel_rfl) rfl).trans (hp 4 (by kernel_rfl) _ rfl)
      clear hu h0 hp
      go_simp
      refine (CB.out w9).mono ?_
      rintro e w6 ⟨rfl, hb6⟩
      exact hK.out _ w6 (Pl.fix rfl) (F.trans (hb6.mono F.size))
    refine RelFrom.run rfl (fun L vals A w9 hno hdl hcl hu hp h0 F K hK => ?_) ?_
    · have e11 : A.tmps[11]?.getD undef = .string xa := (hu 2 11 (by kernel_rfl) rfl).trans (hp 2 (by kernel_rfl) _ rfl)
      have e14 : A.tmps[14]?.getD undef = .string xb := (hu 5 14 (by kernel_rfl) rfl).trans (hp 5 (by kernel_rfl) _ rfl)
      clear hu h0 hp
      have rr := (HK.out.rr.below F HK.out.rr.lt).c2
      have r0 := rr.1
      have r1 := rr.2
      clear rr
      have hs := HS.out
      go_simp
      exact hK.out _ w9 (Pl.fix rfl) (F)
    refine RelFrom.run rfl (fun L vals A w9 hno hdl hcl hu hp h0 F K hK => ?_) ?_
    · have e15 : A.tmps[15]?.getD undef = .string (xa ++ xb) := (hu 6 15 (by kernel_rfl) rfl).trans (hp 6 (by kernel_rfl) _ rfl)
      clear hu h0 hp
      have rr := (HK.out.rr.below F HK.out.rr.lt).c2
      have r0 := rr.1
      have r1 := rr.2
      clear rr
      have hs := HS.out
      go_simp
      exact hK.out _ w9 (Pl.fix rfl) (F)
    exact RelFrom.nil (by decide)
  case gfin_2 =>
    intro vals w9 hp F
    simp only [Fr, Act.put, List.setIfInBounds_toArray, List.set_cons_zero, List.set_cons_succ, Nat.reduceAdd]
    have h4 : vals 7 = .string (xa ++ xb) := hp 7 (by decide) _ rfl
    rw [h4, HI.out]
    have K := HK.out.below F
    clear F hp h4
    go_wp2_with fail
    go_ret
    exact ⟨rfl, K.bel⟩

end Go.Proofs.YtlfdcefgelpgmaaGreatDoor.TsI
