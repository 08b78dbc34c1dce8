/-
  Texts of steps, of the program: what its functions return. Conditions: each theorem's own.
-/
import Derived.Test.YtlfdcefgelpgmaaGreatDoorNum
import Derived.Test.YtlfdcefgelpgmaaGreatDoorBd1
set_option linter.unusedVariables false
set_option linter.unusedSimpArgs false
namespace Go.Proofs.YtlfdcefgelpgmaaGreatDoor.TxI
open Go.ChangeShapes Go.WideShapes Go.ChangeAt Go.RowKit Base Ints JoinN PlP TxP Num Bd1

/-- A text's bytes as a string. -/
def bs (l : By) : ByteArray := ⟨l.toArray⟩
theorem bs_cat (a b : By) : bs a ++ bs b = bs (a ++ b) := by
  apply ByteArray.ext
  simp [bs, ByteArray.data_append]
theorem bs_size (a : By) : (bs a).size = a.length := by simp [bs, ByteArray.size]
theorem bs_data (a : By) : (bs a).data.toList = a := rfl
theorem bs_of (s : ByteArray) : bs s.data.toList = s := by obtain ⟨⟨l⟩⟩ := s; rfl
theorem bs_eq {a b : By} : ((bs a).toList == (bs b).toList) = decide (a = b) := by
  rw [ByteArray.toList_eq, ByteArray.toList_eq, bs_data, bs_data]
  by_cases h : a = b <;> simp [h]

set_option maxHeartbeats 1000000 in
set_option maxRecDepth 100000 in
theorem plain_i (v : Vr) (hv : okV v = true) (s : Stp) (c : Bool) (hc : plainB v s = c) (w : World) : Calls Tryz.prog 67 #[.agg #[.int .i64 v.p, .int .i64 v.c, .int .i64 v.h, .int .i64 v.s], .agg #[.int .i64 s.1, .int .i64 s.2.1, .int .i64 s.2.2.1, .bool s.2.2.2]] w fun e w' => e = .returned (.bool c) ∧ Below w.heap.size w w' := by
  have hp := okV_iff.1 hv
  obtain ⟨f, t, d, h⟩ := s
  unfold plainB at hc
  simp only at hc ⊢
  obtain ⟨c1, h1⟩ : ∃ c, decide (0 ≤ f ∧ f ≤ v.p) = c := ⟨_, rfl⟩
  obtain ⟨c2, h2⟩ : ∃ c, decide (1 ≤ d ∧ d ≤ v.s) = c := ⟨_, rfl⟩
  rw [h1, h2] at hc
  have C1 := Lib.hid (fun w => in_i f 0 v.p c1 h1 w)
  have C2 := Lib.hid (fun w => in_i d 1 v.s c2 h2 w)
  have H12 := Lib.hid (And.intro h1 h2)
  have HP := Lib.hid hp
  have HC := Lib.hid hc
  clear hc h1 h2 hp hv
  cases c1
  · obtain rfl : c = false := by rw [← HC.out]; simp
    go_enter Tryz.func67, Tryz.ntmps67
    go_wp2_with fail
    refine (C1.out _).mono ?_
    rintro e w1 ⟨rfl, rfl⟩
    go_wp2_with fail
    go_ret
    exact ⟨rfl, by go_grown⟩
  cases c2
  · obtain rfl : c = false := by rw [← HC.out]; simp
    go_enter Tryz.func67, Tryz.ntmps67
    go_wp2_with fail
    refine (C1.out _).mono ?_
    rintro e w1 ⟨rfl, rfl⟩
    go_wp2_with fail
    refine (C2.out _).mono ?_
    rintro e w1 ⟨rfl, rfl⟩
    go_wp2_with fail
    go_ret
    exact ⟨rfl, by go_grown⟩
  have hb : (0 ≤ f ∧ f ≤ 24) ∧ 1 ≤ d ∧ d ≤ 6 := by
    have h1 := of_decide_eq_true H12.out.1
    have h2 := of_decide_eq_true H12.out.2
    have := HP.out
    omega
  obtain ⟨⟨hf0, hf1⟩, hd0, hd1⟩ := hb
  go_enter Tryz.func67, Tryz.ntmps67
  go_wp2_with fail
  refine (C1.out _).mono ?_
  rintro e w1 ⟨rfl, rfl⟩
  go_wp2_with fail
  refine (C2.out _).mono ?_
  rintro e w1 ⟨rfl, rfl⟩
  by_cases ht : t = -1
  · have e1 : (t == -1) = true := by simp [ht]
    have hc := HC.out
    rw [if_pos ht] at hc
    simp only [Bool.true_and] at hc
    clear ht
    cases h
    · by_cases h3 : f < v.p
      · have d3 := decide_eq_true h3
        by_cases h4 : f < d
        · obtain rfl : c = true := by rw [← hc]; simp [h3, h4]
          have d4 := decide_eq_true h4
          clear hc
          go_wp2_with fail
          go_ret
          exact ⟨rfl, by go_grown⟩
        · obtain rfl : c = false := by rw [← hc]; simp [h4]
          have d4 := decide_eq_false h4
          clear hc
          go_wp2_with fail
          go_ret
          exact ⟨rfl, by go_grown⟩
      · obtain rfl : c = false := by rw [← hc]; simp [h3]
        have d3 := decide_eq_false h3
        clear hc
        go_wp2_with fail
        go_ret
        exact ⟨rfl, by go_grown⟩
    · obtain rfl : c = false := by rw [← hc]; simp
      clear hc
      go_wp2_with fail
      go_ret
      exact ⟨rfl, by go_grown⟩
  · have e1 : (t == -1) = false := by simp [ht]
    have hc := HC.out
    rw [if_neg ht] at hc
    simp only [Bool.true_and] at hc
    clear ht
    by_cases h3 : 0 ≤ t
    · have d3 := decide_eq_true h3
      by_cases h4 : t = f - d
      · obtain rfl : c = true := by rw [← hc]; exact decide_eq_true ⟨h3, h4⟩
        have e4 : (t == f - d) = true := by simp [h4]
        clear hc h4
        go_wp2_with fail
        go_ret
        exact ⟨rfl, by go_grown⟩
      · obtain rfl : c = false := by rw [← hc]; exact decide_eq_false (fun h => h4 h.2)
        have e4 : (t == f - d) = false := by simp [h4]
        clear hc h4
        go_wp2_with fail
        go_ret
        exact ⟨rfl, by go_grown⟩
    · obtain rfl : c = false := by rw [← hc]; exact decide_eq_false (fun h => h3 h.1)
      have d3 := decide_eq_false h3
      clear hc
      go_wp2_with fail
      go_ret
      exact ⟨rfl, by go_grown⟩

/-- The boxes of a variant and a step. -/
structure Bx (w wr : World) (v : Vr) (f t d : Int) (h : Bool) : Prop where
  bel : Below w.heap.size w wr
  rv : RowB wr w.heap.size 25 [.int .i64 v.p, .int .i64 v.c, .int .i64 v.h, .int .i64 v.s]
  rs : RowB wr (w.heap.size + 1) 91 [.int .i64 f, .int .i64 t, .int .i64 d, .bool h]
theorem Bx.below {w wr w' : World} {v : Vr} {f t d : Int} {h : Bool} (k : Bx w wr v f t d h) (hb : Below wr.heap.size wr w') : Bx w w' v f t d h :=
  ⟨k.bel.trans (hb.mono k.bel.size), k.rv.below hb k.rv.lt, k.rs.below hb k.rs.lt⟩

set_option maxHeartbeats 1000000 in
set_option maxRecDepth 100000 in
theorem step_i (v : Vr) (hv : okV v = true) (s : Stp) (hs : plainB v s = true) (w : World) (hT : TabOk w) : Calls Tryz.prog 68 #[.agg #[.int .i64 v.p, .int .i64 v.c, .int .i64 v.h, .int .i64 v.s], .agg #[.int .i64 s.1, .int .i64 s.2.1, .int .i64 s.2.2.1, .bool s.2.2.2]] w fun e w' => e = .returned (.string (bs (stpT v s))) ∧ Below w.heap.size w w' := by
  have hp := okV_iff.1 hv
  obtain ⟨h1, h2, h3⟩ := plain_parts hs
  obtain ⟨f, t, d, h⟩ := s
  simp only at h1 h2 h3 ⊢
  have HB := Lib.hid hp
  have hb : (0 ≤ f ∧ f ≤ 24) ∧ (1 ≤ d ∧ d ≤ 6) ∧ -1 ≤ t ∧ t ≤ 24 := by omega
  have CF := Lib.hid (fun (w9 : World) (h9 : TabOk w9) => decimalZ (f + 1) (by omega) (by omega) w9 h9)
  have CT := Lib.hid (fun (w9 : World) (h9 : TabOk w9) => decimalZ (t + 1) (by omega) (by omega) w9 h9)
  have CD := Lib.hid (fun (w9 : World) (h9 : TabOk w9) => decimalZ d (by omega) (by omega) w9 h9)
  obtain ⟨xf, hxf⟩ : ∃ x : ByteArray, (⟨(Lib.itoa (f + 1)).toArray⟩ : ByteArray) = x := ⟨_, rfl⟩
  obtain ⟨xt, hxt⟩ : ∃ x : ByteArray, (⟨(Lib.itoa (t + 1)).toArray⟩ : ByteArray) = x := ⟨_, rfl⟩
  obtain ⟨xd, hxd⟩ : ∃ x : ByteArray, (⟨(Lib.itoa d).toArray⟩ : ByteArray) = x := ⟨_, rfl⟩
  have zf : xf.size ≤ 2 := by rw [← hxf]; have := ito_len (n := f + 1) (by omega) (by omega); exact Nat.le_trans (Nat.le_of_eq (bs_size _)) this.2
  have zt : xt.size ≤ 2 := by rw [← hxt]; have := ito_len (n := t + 1) (by omega) (by omega); exact Nat.le_trans (Nat.le_of_eq (bs_size _)) this.2
  have zd : xd.size ≤ 2 := by rw [← hxd]; have := ito_len (n := d) (by omega) (by omega); exact Nat.le_trans (Nat.le_of_eq (bs_size _)) this.2
  have qf : xf = bs (Lib.itoa (f + 1)) := hxf.symm
  have qt : xt = bs (Lib.itoa (t + 1)) := hxt.symm
  have qd : xd = bs (Lib.itoa d) := hxd.symm
  rw [hxf] at CF
  rw [hxt] at CT
  rw [hxd] at CD
  have HX := Lib.hid (And.intro qf (And.intro qt qd))
  have H3 := Lib.hid h3
  obtain ⟨R, hR⟩ : ∃ R, bs (stpT v (f, t, d, h)) = R := ⟨_, rfl⟩
  have HR := Lib.hid hR
  rw [hR]
  clear hxf hxt hxd qf qt qd hR hs h3 hv hp
  obtain ⟨⟨hf0, hf1⟩, ⟨hd0, hd1⟩, ht0, ht1⟩ := hb
  clear h1 h2
  by_cases hfp : f < v.p
  · by_cases ht : 0 ≤ t
    · cases h
      · have HI : Hid ((((xf ++ ⟨#[47]⟩) ++ xt) : ByteArray) = R) := by
          show _ = _
          rw [← HR.out]
          simp only [HX.out.1, HX.out.2.1, HX.out.2.2]
          have q1 : (⟨#[47]⟩ : ByteArray) = bs [47] := rfl
          have q2 : (⟨#[42]⟩ : ByteArray) = bs [42] := rfl
          have q3 : (⟨#[47, 111, 102, 102]⟩ : ByteArray) = bs [47, 111, 102, 102] := rfl
          have q4 : (⟨#[40]⟩ : ByteArray) = bs [40] := rfl
          have q5 : (⟨#[41]⟩ : ByteArray) = bs [41] := rfl
          have q6 : (⟨#[98, 97, 114]⟩ : ByteArray) = bs [98, 97, 114] := rfl
          simp only [q1, q2, q3, q4, q5, q6, bs_cat]
          unfold stpT fromT
          simp [hfp, ht]
        have HI2 : Hid (Ending.returned (.string (((xf ++ ⟨#[47]⟩) ++ xt))) = Ending.returned (.string R)) := by show _ = _; rw [HI.out]
        have g1 : decide (0 ≤ t) = true := decide_eq_true ht
        have g2 : (t == -1) = false := by simp; omega
        have g4 : decide (f < v.p) = true := decide_eq_true hfp
        clear HI HX HR
        go_enter Tryz.func68, Tryz.ntmps68
        go_upto_region 1 with (fail)
        refine wp_gen (fun W' => Bx w W' v f t d false) ⟨by go_grown, (RowB.new _ _ _).alloc _, RowB.new' _ _ _ (by simp)⟩ ?_
        intro w1 K
        obtain ⟨q0, q1, q2, q3⟩ := K.rv.c4
        obtain ⟨y0, y1, y2, y3⟩ := K.rs.c4
        have hl1 := K.rv.lt
        have hl2 := K.rs.lt
        go_wp2_with fail
        refine (CF.out _ (hT.below K.bel)).mono ?_
        rintro e w2 ⟨rfl, hb⟩
        have K := K.below hb
        clear q0 q1 q2 q3 y0 y1 y2 y3 hl1 hl2 hb
        obtain ⟨q0, q1, q2, q3⟩ := K.rv.c4
        obtain ⟨y0, y1, y2, y3⟩ := K.rs.c4
        have hl1 := K.rv.lt
        have hl2 := K.rs.lt
        go_wp2_with fail
        refine (CT.out _ (hT.below K.bel)).mono ?_
        rintro e w3 ⟨rfl, hb⟩
        have K := K.below hb
        clear q0 q1 q2 q3 y0 y1 y2 y3 hl1 hl2 hb
        obtain ⟨q0, q1, q2, q3⟩ := K.rv.c4
        obtain ⟨y0, y1, y2, y3⟩ := K.rs.c4
        have hl1 := K.rv.lt
        have hl2 := K.rs.lt
        go_wp2_with fail
        go_ret
        exact ⟨HI2.out, K.bel⟩
      · have HI : Hid ((((xf ++ ⟨#[47]⟩) ++ xt) ++ ⟨#[42]⟩ : ByteArray) = R) := by
          show _ = _
          rw [← HR.out]
          simp only [HX.out.1, HX.out.2.1, HX.out.2.2]
          have q1 : (⟨#[47]⟩ : ByteArray) = bs [47] := rfl
          have q2 : (⟨#[42]⟩ : ByteArray) = bs [42] := rfl
          have q3 : (⟨#[47, 111, 102, 102]⟩ : ByteArray) = bs [47, 111, 102, 102] := rfl
          have q4 : (⟨#[40]⟩ : ByteArray) = bs [40] := rfl
          have q5 : (⟨#[41]⟩ : ByteArray) = bs [41] := rfl
          have q6 : (⟨#[98, 97, 114]⟩ : ByteArray) = bs [98, 97, 114] := rfl
          simp only [q1, q2, q3, q4, q5, q6, bs_cat]
          unfold stpT fromT
          simp [hfp, ht]
        have HI2 : Hid (Ending.returned (.string (((xf ++ ⟨#[47]⟩) ++ xt) ++ ⟨#[42]⟩)) = Ending.returned (.string R)) := by show _ = _; rw [HI.out]
        have g1 : decide (0 ≤ t) = true := decide_eq_true ht
        have g2 : (t == -1) = false := by simp; omega
        have g4 : decide (f < v.p) = true := decide_eq_true hfp
        clear HI HX HR
        go_enter Tryz.func68, Tryz.ntmps68
        go_upto_region 1 with (fail)
        refine wp_gen (fun W' => Bx w W' v f t d true) ⟨by go_grown, (RowB.new _ _ _).alloc _, RowB.new' _ _ _ (by simp)⟩ ?_
        intro w1 K
        obtain ⟨q0, q1, q2, q3⟩ := K.rv.c4
        obtain ⟨y0, y1, y2, y3⟩ := K.rs.c4
        have hl1 := K.rv.lt
        have hl2 := K.rs.lt
        go_wp2_with fail
        refine (CF.out _ (hT.below K.bel)).mono ?_
        rintro e w2 ⟨rfl, hb⟩
        have K := K.below hb
        clear q0 q1 q2 q3 y0 y1 y2 y3 hl1 hl2 hb
        obtain ⟨q0, q1, q2, q3⟩ := K.rv.c4
        obtain ⟨y0, y1, y2, y3⟩ := K.rs.c4
        have hl1 := K.rv.lt
        have hl2 := K.rs.lt
        go_wp2_with fail
        refine (CT.out _ (hT.below K.bel)).mono ?_
        rintro e w3 ⟨rfl, hb⟩
        have K := K.below hb
        clear q0 q1 q2 q3 y0 y1 y2 y3 hl1 hl2 hb
        obtain ⟨q0, q1, q2, q3⟩ := K.rv.c4
        obtain ⟨y0, y1, y2, y3⟩ := K.rs.c4
        have hl1 := K.rv.lt
        have hl2 := K.rs.lt
        go_wp2_with fail
        go_ret
        exact ⟨HI2.out, K.bel⟩
    · obtain rfl : h = false := by have := H3.out; rcases this with h | h; exact h.2.1; omega
      by_cases hdf : d = f + 1
      · have HI : Hid (((xf ++ ⟨#[47, 111, 102, 102]⟩) : ByteArray) = R) := by
          show _ = _
          rw [← HR.out]
          simp only [HX.out.1, HX.out.2.1, HX.out.2.2]
          have q1 : (⟨#[47]⟩ : ByteArray) = bs [47] := rfl
          have q2 : (⟨#[42]⟩ : ByteArray) = bs [42] := rfl
          have q3 : (⟨#[47, 111, 102, 102]⟩ : ByteArray) = bs [47, 111, 102, 102] := rfl
          have q4 : (⟨#[40]⟩ : ByteArray) = bs [40] := rfl
          have q5 : (⟨#[41]⟩ : ByteArray) = bs [41] := rfl
          have q6 : (⟨#[98, 97, 114]⟩ : ByteArray) = bs [98, 97, 114] := rfl
          simp only [q1, q2, q3, q4, q5, q6, bs_cat]
          unfold stpT fromT
          simp [hfp, ht, hdf]
        have HI2 : Hid (Ending.returned (.string ((xf ++ ⟨#[47, 111, 102, 102]⟩))) = Ending.returned (.string R)) := by show _ = _; rw [HI.out]
        have g1 : decide (0 ≤ t) = false := decide_eq_false ht
        have g2 : (t == -1) = true := by simp; omega
        have g3 : (d != f + 1) = false := by simp [hdf]
        have g4 : decide (f < v.p) = true := decide_eq_true hfp
        clear HI HX HR hdf
        go_enter Tryz.func68, Tryz.ntmps68
        go_upto_region 1 with (fail)
        refine wp_gen (fun W' => Bx w W' v f t d false) ⟨by go_grown, (RowB.new _ _ _).alloc _, RowB.new' _ _ _ (by simp)⟩ ?_
        intro w1 K
        obtain ⟨q0, q1, q2, q3⟩ := K.rv.c4
        obtain ⟨y0, y1, y2, y3⟩ := K.rs.c4
        have hl1 := K.rv.lt
        have hl2 := K.rs.lt
        go_wp2_with fail
        refine (CF.out _ (hT.below K.bel)).mono ?_
        rintro e w2 ⟨rfl, hb⟩
        have K := K.below hb
        clear q0 q1 q2 q3 y0 y1 y2 y3 hl1 hl2 hb
        obtain ⟨q0, q1, q2, q3⟩ := K.rv.c4
        obtain ⟨y0, y1, y2, y3⟩ := K.rs.c4
        have hl1 := K.rv.lt
        have hl2 := K.rs.lt
        go_wp2_with fail
        go_ret
        exact ⟨HI2.out, K.bel⟩
      · have HI : Hid (((xf ++ ⟨#[47, 111, 102, 102]⟩) ++ (((⟨#[40]⟩ : ByteArray) ++ xd) ++ ⟨#[41]⟩) : ByteArray) = R) := by
          show _ = _
          rw [← HR.out]
          simp only [HX.out.1, HX.out.2.1, HX.out.2.2]
          have q1 : (⟨#[47]⟩ : ByteArray) = bs [47] := rfl
          have q2 : (⟨#[42]⟩ : ByteArray) = bs [42] := rfl
          have q3 : (⟨#[47, 111, 102, 102]⟩ : ByteArray) = bs [47, 111, 102, 102] := rfl
          have q4 : (⟨#[40]⟩ : ByteArray) = bs [40] := rfl
          have q5 : (⟨#[41]⟩ : ByteArray) = bs [41] := rfl
          have q6 : (⟨#[98, 97, 114]⟩ : ByteArray) = bs [98, 97, 114] := rfl
          simp only [q1, q2, q3, q4, q5, q6, bs_cat]
          unfold stpT fromT
          simp [hfp, ht, hdf]
        have HI2 : Hid (Ending.returned (.string ((xf ++ ⟨#[47, 111, 102, 102]⟩) ++ (((⟨#[40]⟩ : ByteArray) ++ xd) ++ ⟨#[41]⟩))) = Ending.returned (.string R)) := by show _ = _; rw [HI.out]
        have g1 : decide (0 ≤ t) = false := decide_eq_false ht
        have g2 : (t == -1) = true := by simp; omega
        have g3 : (d != f + 1) = true := by simp; exact hdf
        have g4 : decide (f < v.p) = true := decide_eq_true hfp
        clear HI HX HR hdf
        go_enter Tryz.func68, Tryz.ntmps68
        go_upto_region 1 with (fail)
        refine wp_gen (fun W' => Bx w W' v f t d false) ⟨by go_grown, (RowB.new _ _ _).alloc _, RowB.new' _ _ _ (by simp)⟩ ?_
        intro w1 K
        obtain ⟨q0, q1, q2, q3⟩ := K.rv.c4
        obtain ⟨y0, y1, y2, y3⟩ := K.rs.c4
        have hl1 := K.rv.lt
        have hl2 := K.rs.lt
        go_wp2_with fail
        refine (CF.out _ (hT.below K.bel)).mono ?_
        rintro e w2 ⟨rfl, hb⟩
        have K := K.below hb
        clear q0 q1 q2 q3 y0 y1 y2 y3 hl1 hl2 hb
        obtain ⟨q0, q1, q2, q3⟩ := K.rv.c4
        obtain ⟨y0, y1, y2, y3⟩ := K.rs.c4
        have hl1 := K.rv.lt
        have hl2 := K.rs.lt
        go_wp2_with fail
        refine (CD.out _ (hT.below K.bel)).mono ?_
        rintro e w3 ⟨rfl, hb⟩
        have K := K.below hb
        clear q0 q1 q2 q3 y0 y1 y2 y3 hl1 hl2 hb
        obtain ⟨q0, q1, q2, q3⟩ := K.rv.c4
        obtain ⟨y0, y1, y2, y3⟩ := K.rs.c4
        have hl1 := K.rv.lt
        have hl2 := K.rs.lt
        go_wp2_with fail
        go_ret
        exact ⟨HI2.out, K.bel⟩
  · by_cases ht : 0 ≤ t
    · cases h
      · have HI : Hid (((((⟨#[98, 97, 114]⟩ : ByteArray) ++ ⟨#[47]⟩) ++ xt) : ByteArray) = R) := by
          show _ = _
          rw [← HR.out]
          simp only [HX.out.1, HX.out.2.1, HX.out.2.2]
          have q1 : (⟨#[47]⟩ : ByteArray) = bs [47] := rfl
          have q2 : (⟨#[42]⟩ : ByteArray) = bs [42] := rfl
          have q3 : (⟨#[47, 111, 102, 102]⟩ : ByteArray) = bs [47, 111, 102, 102] := rfl
          have q4 : (⟨#[40]⟩ : ByteArray) = bs [40] := rfl
          have q5 : (⟨#[41]⟩ : ByteArray) = bs [41] := rfl
          have q6 : (⟨#[98, 97, 114]⟩ : ByteArray) = bs [98, 97, 114] := rfl
          simp only [q1, q2, q3, q4, q5, q6, bs_cat]
          unfold stpT fromT
          simp [hfp, ht]
        have HI2 : Hid (Ending.returned (.string ((((⟨#[98, 97, 114]⟩ : ByteArray) ++ ⟨#[47]⟩) ++ xt))) = Ending.returned (.string R)) := by show _ = _; rw [HI.out]
        have g1 : decide (0 ≤ t) = true := decide_eq_true ht
        have g2 : (t == -1) = false := by simp; omega
        have g4 : decide (f < v.p) = false := decide_eq_false hfp
        clear HI HX HR
        go_enter Tryz.func68, Tryz.ntmps68
        go_upto_region 1 with (fail)
        refine wp_gen (fun W' => Bx w W' v f t d false) ⟨by go_grown, (RowB.new _ _ _).alloc _, RowB.new' _ _ _ (by simp)⟩ ?_
        intro w1 K
        obtain ⟨q0, q1, q2, q3⟩ := K.rv.c4
        obtain ⟨y0, y1, y2, y3⟩ := K.rs.c4
        have hl1 := K.rv.lt
        have hl2 := K.rs.lt
        go_wp2_with fail
        refine (CT.out _ (hT.below K.bel)).mono ?_
        rintro e w2 ⟨rfl, hb⟩
        have K := K.below hb
        clear q0 q1 q2 q3 y0 y1 y2 y3 hl1 hl2 hb
        obtain ⟨q0, q1, q2, q3⟩ := K.rv.c4
        obtain ⟨y0, y1, y2, y3⟩ := K.rs.c4
        have hl1 := K.rv.lt
        have hl2 := K.rs.lt
        go_wp2_with fail
        go_ret
        exact ⟨HI2.out, K.bel⟩
      · have HI : Hid (((((⟨#[98, 97, 114]⟩ : ByteArray) ++ ⟨#[47]⟩) ++ xt) ++ ⟨#[42]⟩ : ByteArray) = R) := by
          show _ = _
          rw [← HR.out]
          simp only [HX.out.1, HX.out.2.1, HX.out.2.2]
          have q1 : (⟨#[47]⟩ : ByteArray) = bs [47] := rfl
          have q2 : (⟨#[42]⟩ : ByteArray) = bs [42] := rfl
          have q3 : (⟨#[47, 111, 102, 102]⟩ : ByteArray) = bs [47, 111, 102, 102] := rfl
          have q4 : (⟨#[40]⟩ : ByteArray) = bs [40] := rfl
          have q5 : (⟨#[41]⟩ : ByteArray) = bs [41] := rfl
          have q6 : (⟨#[98, 97, 114]⟩ : ByteArray) = bs [98, 97, 114] := rfl
          simp only [q1, q2, q3, q4, q5, q6, bs_cat]
          unfold stpT fromT
          simp [hfp, ht]
        have HI2 : Hid (Ending.returned (.string ((((⟨#[98, 97, 114]⟩ : ByteArray) ++ ⟨#[47]⟩) ++ xt) ++ ⟨#[42]⟩)) = Ending.returned (.string R)) := by show _ = _; rw [HI.out]
        have g1 : decide (0 ≤ t) = true := decide_eq_true ht
        have g2 : (t == -1) = false := by simp; omega
        have g4 : decide (f < v.p) = false := decide_eq_false hfp
        clear HI HX HR
        go_enter Tryz.func68, Tryz.ntmps68
        go_upto_region 1 with (fail)
        refine wp_gen (fun W' => Bx w W' v f t d true) ⟨by go_grown, (RowB.new _ _ _).alloc _, RowB.new' _ _ _ (by simp)⟩ ?_
        intro w1 K
        obtain ⟨q0, q1, q2, q3⟩ := K.rv.c4
        obtain ⟨y0, y1, y2, y3⟩ := K.rs.c4
        have hl1 := K.rv.lt
        have hl2 := K.rs.lt
        go_wp2_with fail
        refine (CT.out _ (hT.below K.bel)).mono ?_
        rintro e w2 ⟨rfl, hb⟩
        have K := K.below hb
        clear q0 q1 q2 q3 y0 y1 y2 y3 hl1 hl2 hb
        obtain ⟨q0, q1, q2, q3⟩ := K.rv.c4
        obtain ⟨y0, y1, y2, y3⟩ := K.rs.c4
        have hl1 := K.rv.lt
        have hl2 := K.rs.lt
        go_wp2_with fail
        go_ret
        exact ⟨HI2.out, K.bel⟩
    · exfalso; have := H3.out; omega
end Go.Proofs.YtlfdcefgelpgmaaGreatDoor.TxI
