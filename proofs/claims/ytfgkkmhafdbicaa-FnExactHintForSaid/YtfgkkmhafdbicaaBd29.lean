/-
  The tutor's code, and the luck of a roll: of the program and of the reference. Conditions: each theorem's own.
-/
import Derived.Test.YtfgkkmhafdbicaaBd27
import Derived.Test.YtfgkkmhafdbicaaBd3
import Derived.Test.YtfgkkmhafdbicaaBd3I
set_option linter.unusedVariables false
set_option linter.unusedSimpArgs false
namespace Go.Proofs.Ytfgkkmhafdbicaa.Bd29
open Go.ChangeShapes Go.WideShapes Go.ChangeAt Go.RowKit Base Ints Own Clone RelG PlP Bd1 Bd3 Bd3I Bd4 Bd5 Bd6 Bd7 Bd8 Bd9 Bd11 RegInv RegF RegG Bd12 Bd14 Bd15 Bd16 Bd17 Bd18 Bd19 Bd20 Bd21 Bd22 Bd23 Bd24 Bd25 Bd26 Bd27

/-- The code of a board, a depth and all else. -/
def codeT (v : Vr) (vb vr : Bool) (d : Int) : Int := if vb = false then 1 else if (decide (0 ≤ d ∧ d ≤ 1) && vr) = false then 2 else if smV v = false then 3 else 0
theorem codeT_roll (v : Vr) (b : Bd) (r : Bool) (d : Int) : codeT v (okB v b) (okV v && r) d = codeT v (okB v b) r d := by
  unfold codeT
  cases h : okB v b with
  | false => simp
  | true =>
    have : okV v = true := okV_iff.2 (okB_iff.1 h).v1
    rw [this]; simp
theorem codeT_zero {v : Vr} {b : Bd} {r : Bool} {d : Int} (h : codeT v (okB v b) r d = 0) : Ok v b ∧ r = true ∧ (d = 0 ∨ d = 1) ∧ v.p ≤ 6 ∧ v.s ≤ 3 := by
  unfold codeT at h
  cases hb : okB v b with
  | false => rw [hb] at h; simp at h
  | true =>
    rw [hb] at h
    simp only [Bool.true_eq_false, if_false] at h
    cases hr : decide (0 ≤ d ∧ d ≤ 1) && r with
    | false => rw [hr] at h; simp at h
    | true =>
      rw [hr] at h
      simp only [Bool.true_eq_false, if_false] at h
      simp only [Bool.and_eq_true, decide_eq_true_eq] at hr
      cases hs : smV v with
      | false => rw [hs] at h; simp at h
      | true =>
        unfold smV at hs
        simp only [Bool.and_eq_true, decide_eq_true_eq] at hs
        exact ⟨okB_iff.1 hb, hr.2, by omega, by omega, by omega⟩
def luckP (v : Vr) (d : Nat) (b : Bd) (x y : Int) : Int := grt (plsP v d b x y) - valP v (d + 1) b
/-- What LuckOf returns. -/
def luckR (v : Vr) (b : Bd) (x y d : Int) : Int × Int := if codeT v (okB v b) (okR v x y) d = 0 then (luckP v d.toNat b x y, 0) else (0, codeT v (okB v b) (okR v x y) d)

set_option maxHeartbeats 2000000 in
theorem tutor_i (v : Vr) (vb vr : Bool) (d : Int) (z : Int) (hz : codeT v vb vr d = z) (w : World) : Calls Try.prog 25 #[.agg #[.int .i64 v.p, .int .i64 v.c, .int .i64 v.h, .int .i64 v.s], .bool vb, .int .i64 d, .bool vr] w fun e w' => e = .returned (.int .i64 z) ∧ Below w.heap.size w w' := by
  unfold codeT at hz
  obtain ⟨c1, h1⟩ : ∃ c, decide (0 ≤ d ∧ d ≤ 1) = c := ⟨_, rfl⟩
  obtain ⟨c2, h2⟩ : ∃ c, smV v = c := ⟨_, rfl⟩
  rw [h1, h2] at hz
  have HZ := Lib.hid hz
  have C1 := Lib.hid (fun w => in_i d 0 1 c1 h1 w)
  have C2 := Lib.hid (fun w => sml_i v c2 h2 w)
  clear hz h1 h2
  cases vb
  · obtain rfl : z = 1 := by rw [← HZ.out]; rfl
    go_enter Try.func25, Try.ntmps25
    go_wp2_with fail
    go_ret
    exact ⟨rfl, by go_grown⟩
  cases c1
  · obtain rfl : z = 2 := by rw [← HZ.out]; rfl
    go_enter Try.func25, Try.ntmps25
    go_wp2_with fail
    refine (C1.out _).mono ?_
    rintro e w1 ⟨rfl, rfl⟩
    go_wp2_with fail
    go_ret
    exact ⟨rfl, by go_grown⟩
  cases vr
  · obtain rfl : z = 2 := by rw [← HZ.out]; rfl
    go_enter Try.func25, Try.ntmps25
    go_wp2_with fail
    refine (C1.out _).mono ?_
    rintro e w1 ⟨rfl, rfl⟩
    go_wp2_with fail
    go_ret
    exact ⟨rfl, by go_grown⟩
  cases c2
  · obtain rfl : z = 3 := by rw [← HZ.out]; rfl
    go_enter Try.func25, Try.ntmps25
    go_wp2_with fail
    refine (C1.out _).mono ?_
    rintro e w1 ⟨rfl, rfl⟩
    go_wp2_with fail
    refine (C2.out _).mono ?_
    rintro e w2 ⟨rfl, hb2⟩
    go_wp2_with fail
    go_ret
    exact ⟨rfl, Below.then_ (by go_grown) hb2 (by go_size)⟩
  · obtain rfl : z = 0 := by rw [← HZ.out]; rfl
    go_enter Try.func25, Try.ntmps25
    go_wp2_with fail
    refine (C1.out _).mono ?_
    rintro e w1 ⟨rfl, rfl⟩
    go_wp2_with fail
    refine (C2.out _).mono ?_
    rintro e w2 ⟨rfl, hb2⟩
    go_wp2_with fail
    go_ret
    exact ⟨rfl, Below.then_ (by go_grown) hb2 (by go_size)⟩

/-- The three boxes of the arguments. -/
structure B3 (w wr : World) (v : Vr) (bs : List Value) (x y : Int) : Prop where
  bel : Below w.heap.size w wr
  rv : RowB wr w.heap.size 32 [.int .i64 v.p, .int .i64 v.c, .int .i64 v.h, .int .i64 v.s]
  rb : RowB wr (w.heap.size + 1) 34 bs
  rr : RowB wr (w.heap.size + 2) 36 [.int .i64 x, .int .i64 y]
theorem B3.below {w wr w' : World} {v : Vr} {bs : List Value} {x y : Int} (h : B3 w wr v bs x y) (hb : Below wr.heap.size wr w') : B3 w w' v bs x y :=
  ⟨h.bel.trans (hb.mono h.bel.size), h.rv.below hb h.rv.lt, h.rb.below hb h.rb.lt, h.rr.below hb h.rr.lt⟩

set_option maxHeartbeats 2000000 in
theorem code_s (v : Vr) (b : Bd) (Ao At : Option Addr) (co ct : Nat) (x y d : Int) (z : Int) (hz : codeT v (okB v b) (okR v x y) d = z) (w : World) (ho : RdS w w.heap.size 1 enI Ao b.1) (ht : RdS w w.heap.size 1 enI At b.2) :
    Calls Try.prog 22 #[.agg #[.int .i64 v.p, .int .i64 v.c, .int .i64 v.h, .int .i64 v.s], .agg #[.slice Ao b.1.length co, .slice At b.2.length ct], .agg #[.int .i64 x, .int .i64 y], .int .i64 d] w fun e w' => e = .returned (.int .i64 z) ∧ Below w.heap.size w w' := by
  unfold codeT at hz
  obtain ⟨c0, h0⟩ : ∃ c, okB v b = c := ⟨_, rfl⟩
  obtain ⟨c1, h1⟩ : ∃ c, decide (0 ≤ d ∧ d ≤ 1) = c := ⟨_, rfl⟩
  obtain ⟨c2, h2⟩ : ∃ c, smV v = c := ⟨_, rfl⟩
  obtain ⟨c3, h3⟩ : ∃ c, okR v x y = c := ⟨_, rfl⟩
  rw [h0, h1, h2, h3] at hz
  have HZ := Lib.hid hz
  have C0 := Lib.hid (fun (w9 : World) (h : Below w.heap.size w w9) => isB_s v b Ao At co ct w.heap.size w9 h.size (ho.below h (Nat.le_refl _)) (ht.below h (Nat.le_refl _)) c0 h0)
  have C1 := Lib.hid (fun w => in_s d 0 1 c1 h1 w)
  have C2 := Lib.hid (fun w => sml_s v c2 h2 w)
  have C3 := Lib.hid (fun w => isroll_s v x y c3 h3 w)
  obtain ⟨n1, hn1⟩ : ∃ n, b.1.length = n := ⟨_, rfl⟩
  obtain ⟨n2, hn2⟩ : ∃ n, b.2.length = n := ⟨_, rfl⟩
  rw [hn1, hn2] at C0 ⊢
  clear hz h0 h1 h2 h3 ho ht hn1 hn2
  go_enter Try.func22, Try.ntmps22
  go_upto_region 1 with (fail)
  refine wp_gen (fun W' => B3 w W' v [.slice Ao n1 co, .slice At n2 ct] x y) ⟨by go_grown, ((RowB.new _ _ _).alloc _).alloc _, RowB.alloc (RowB.new' _ _ _ (by simp)) _, RowB.new' _ _ _ (by simp)⟩ ?_
  intro w1 K
  obtain ⟨q0, q1, q2, q3⟩ := K.rv.c4
  obtain ⟨z0, z1⟩ := K.rb.c2
  obtain ⟨r0, r1⟩ := K.rr.c2
  have hl1 := K.rv.lt
  have hl2 := K.rb.lt
  have hl3 := K.rr.lt
  go_wp2_with fail
  refine (C0.out w1 K.bel).mono ?_
  rintro e w2 ⟨rfl, hb2⟩
  have K := K.below hb2
  clear q0 q1 q2 q3 z0 z1 r0 r1 hl1 hl2 hl3 hb2
  obtain ⟨q0, q1, q2, q3⟩ := K.rv.c4
  obtain ⟨z0, z1⟩ := K.rb.c2
  obtain ⟨r0, r1⟩ := K.rr.c2
  have hl1 := K.rv.lt
  have hl2 := K.rb.lt
  have hl3 := K.rr.lt
  cases c0
  · obtain rfl : z = 1 := by rw [← HZ.out]; rfl
    go_wp2_with fail
    go_ret
    exact ⟨rfl, K.bel⟩
  go_wp2_with fail
  refine (C1.out _).mono ?_
  rintro e w3 ⟨rfl, rfl⟩
  cases c1
  · obtain rfl : z = 2 := by rw [← HZ.out]; rfl
    go_wp2_with fail
    go_ret
    exact ⟨rfl, K.bel⟩
  go_wp2_with fail
  refine (C3.out _).mono ?_
  rintro e w4 ⟨rfl, hb4⟩
  have K := K.below hb4
  clear q0 q1 q2 q3 z0 z1 r0 r1 hl1 hl2 hl3 hb4
  obtain ⟨q0, q1, q2, q3⟩ := K.rv.c4
  obtain ⟨z0, z1⟩ := K.rb.c2
  obtain ⟨r0, r1⟩ := K.rr.c2
  have hl1 := K.rv.lt
  have hl2 := K.rb.lt
  have hl3 := K.rr.lt
  cases c3
  · obtain rfl : z = 2 := by rw [← HZ.out]; rfl
    go_wp2_with fail
    go_ret
    exact ⟨rfl, K.bel⟩
  go_wp2_with fail
  refine (C2.out _).mono ?_
  rintro e w5 ⟨rfl, hb5⟩
  have K := K.below hb5
  clear q0 q1 q2 q3 z0 z1 r0 r1 hl1 hl2 hl3 hb5
  cases c2
  · obtain rfl : z = 3 := by rw [← HZ.out]; rfl
    go_wp2_with fail
    go_ret
    exact ⟨rfl, K.bel⟩
  · obtain rfl : z = 0 := by rw [← HZ.out]; rfl
    go_wp2_with fail
    go_ret
    exact ⟨rfl, K.bel⟩

set_option maxHeartbeats 4000000 in
set_option maxRecDepth 100000 in
theorem luckOf_i (v : Vr) (b : Bd) (hb : Ok v b) (hp : v.p ≤ 6) (Ao At : Option Addr) (co ct : Nat) (x y : Int) (hx : 1 ≤ x ∧ x ≤ 6) (hy : 1 ≤ y ∧ y ≤ 6) (d : Nat) (hd : d ≤ 1) (w : World) (ho : RdS w w.heap.size 1 enI Ao b.1) (ht : RdS w w.heap.size 1 enI At b.2) (hA : Ao = none → co = 0) (hT : At = none → ct = 0) :
    Calls Try.prog 28 #[.agg #[.int .i64 v.p, .int .i64 v.c, .int .i64 v.h, .int .i64 v.s], .agg #[.slice Ao b.1.length co, .slice At b.2.length ct], .agg #[.int .i64 x, .int .i64 y], .int .i64 (d : Int)] w fun e w' => e = .returned (.int .i64 (luckP v d b x y)) ∧ Below w.heap.size w w' := by
  have CP := Lib.hid (fun (w9 : World) (h : Below w.heap.size w w9) => (vals_i d (by omega)).2 v b hb hp Ao At co ct x y hx hy w9 ((ho.below h (Nat.le_refl _)).more h.size) ((ht.below h (Nat.le_refl _)).more h.size) hA hT)
  have CV := Lib.hid (fun (w9 : World) (h : Below w.heap.size w w9) => (vals_i (d + 1) (by omega)).1 v b hb hp Ao At co ct w9 ((ho.below h (Nat.le_refl _)).more h.size) ((ht.below h (Nat.le_refl _)).more h.size) hA hT)
  have hpb := pls_bd (d := d) hb hx.1 hy.1
  have hvb := val_bd (d + 1) b hb
  have hgb := grt_bd (d := d) hb hx.1 hy.1
  unfold luckP
  obtain ⟨zs, hzs⟩ : ∃ z, plsP v d b x y = z := ⟨_, rfl⟩
  obtain ⟨X, hX⟩ : ∃ z, valP v (d + 1) b = z := ⟨_, rfl⟩
  rw [hzs] at CP hpb hgb ⊢
  rw [hX] at CV hvb ⊢
  have hpl0 := hpb.2
  have hfg := fg_gr zs (zs.length - 1)
  have hgr : at_ zs (fgP zs) = grt zs := hfg.1
  have hfl : fgP zs < zs.length := by have := hfg.2; show fgU zs (zs.length - 1) < _; omega
  obtain ⟨G, hG⟩ : ∃ g, grt zs = g := ⟨_, rfl⟩
  rw [hG] at hgb hgr ⊢
  obtain ⟨fg, hf⟩ : ∃ f, fgP zs = f := ⟨_, rfl⟩
  have CF := Lib.hid (fun (w9 : World) (A : Option Addr) (cp B : Nat) (hr : RdS w9 B 1 enI A zs) => first_i A cp B zs w9 hr hpl0)
  rw [hf] at CF hfl hgr
  obtain ⟨L, hL⟩ : ∃ l, zs.length = l := ⟨_, rfl⟩
  have HL := Lib.hid hL
  have HFL := Lib.hid hfl
  have hGR := Lib.hid hgr
  rw [hL] at hfl CF
  have hfi : (fg : Int) < (L : Int) := by omega
  obtain ⟨D, hD⟩ : ∃ D, d + 1 = D := ⟨_, rfl⟩
  rw [hD] at CV
  have hwd : IntKind.i64.wrap ((d : Int) + 1) = (D : Int) := by rw [IntWalk.i64_in _ (by omega)]; omega
  have hwg : IntKind.i64.wrap (G - X) = G - X := IntWalk.i64_in _ (by omega)
  obtain ⟨n1, hn1⟩ : ∃ n, b.1.length = n := ⟨_, rfl⟩
  obtain ⟨n2, hn2⟩ : ∃ n, b.2.length = n := ⟨_, rfl⟩
  rw [hn1, hn2] at CP CV ⊢
  clear hb hp ho ht hA hT hx hy hpb hvb hgb hzs hX hpl0 hfg hgr hG hf hL hD hn1 hn2
  go_enter Try.func28, Try.ntmps28
  go_upto_region 1 with (fail)
  refine wp_gen (fun W' => B3 w W' v [.slice Ao n1 co, .slice At n2 ct] x y) ⟨by go_grown, ((RowB.new _ _ _).alloc _).alloc _, RowB.alloc (RowB.new' _ _ _ (by simp)) _, RowB.new' _ _ _ (by simp)⟩ ?_
  intro w1 K
  obtain ⟨q0, q1, q2, q3⟩ := K.rv.c4
  obtain ⟨z0, z1⟩ := K.rb.c2
  obtain ⟨r0, r1⟩ := K.rr.c2
  have hl1 := K.rv.lt
  have hl2 := K.rb.lt
  have hl3 := K.rr.lt
  go_wp2_with fail
  refine (CP.out w1 K.bel).mono ?_
  rintro e w2 ⟨vv, rfl, hvo, hb2⟩
  have K := K.below hb2
  obtain ⟨Av, cv, hvv, hvr⟩ := hvo.form enI_len
  rw [HL.out] at hvv
  subst hvv
  have HVR := Lib.hid hvr
  clear q0 q1 q2 q3 z0 z1 r0 r1 hl1 hl2 hl3 hb2 hvo hvr
  obtain ⟨q0, q1, q2, q3⟩ := K.rv.c4
  obtain ⟨z0, z1⟩ := K.rb.c2
  obtain ⟨r0, r1⟩ := K.rr.c2
  have hl1 := K.rv.lt
  have hl2 := K.rb.lt
  have hl3 := K.rr.lt
  go_wp2_with fail
  refine (CV.out w2 K.bel).mono ?_
  rintro e w3 ⟨rfl, hb3⟩
  have K := K.below hb3
  have HVR := Lib.hid (HVR.out.below hb3 (Nat.le_refl _))
  obtain ⟨b8, o8, rfl, hb8, hc8⟩ := at_rd HVR.out (i := fg) HFL.out
  rw [hGR.out] at hc8
  clear q0 q1 q2 q3 z0 z1 r0 r1 hl1 hl2 hl3 hb3
  go_wp2_with fail
  refine (CF.out w3 _ cv _ HVR.out).mono ?_
  rintro e w4 ⟨rfl, rfl⟩
  go_wp2_with fail
  go_ret
  exact ⟨rfl, K.bel⟩

/-- The greatest value and the board's value are reckoned. -/
structure LuF (w1 : World) (zs : List Int) (p4 : Prop) (v4 : Value) (w' : World) : Prop where
  bel : Below w1.heap.size w1 w'
  f4 : p4 → OwnS w' w1.heap.size w'.heap.size 2 1 enI v4 zs
theorem LuF.skip {w1 w' : World} {zs : List Int} {L : Nat → Prop} {vals : Nat → Value} (F : LuF w1 zs (L 4) (vals 4) w') (k : Nat) (x : Value) (h4 : 4 ≠ k) : LuF w1 zs (4 = k ∨ L 4) (upd vals k x 4) w' := by
  rw [or_ne h4, upd_ne h4]; exact F
theorem LuF.below {w1 w' w'' : World} {zs : List Int} {p4 : Prop} {v4 : Value} (F : LuF w1 zs p4 v4 w') (hb : Below w'.heap.size w' w'') : LuF w1 zs p4 v4 w'' :=
  ⟨F.bel.trans (hb.mono F.bel.size), fun h => ((F.f4 h).below hb (Nat.le_refl _)).more hb.size⟩
theorem LuF.s4 {w1 w' w'' : World} {zs : List Int} {p4 : Prop} {v4 v' : Value} (F : LuF w1 zs p4 v4 w') (hb : Below w'.heap.size w' w'') (ho : OwnS w'' w'.heap.size w''.heap.size 2 1 enI v' zs) : LuF w1 zs True v' w'' :=
  ⟨F.bel.trans (hb.mono F.bel.size), fun _ => ho.less F.bel.size⟩

set_option maxHeartbeats 4000000 in
set_option maxRecDepth 100000 in
theorem luck_s (v : Vr) (b : Bd) (hb : Ok v b) (Ao At : Option Addr) (co ct : Nat) (x y : Int) (hx : 1 ≤ x ∧ x ≤ 6) (hy : 1 ≤ y ∧ y ≤ 6) (d : Nat) (hd : d ≤ 1) (w : World) (ho : RdS w w.heap.size 1 enI Ao b.1) (ht : RdS w w.heap.size 1 enI At b.2) (hA : Ao = none → co = 0) (hT : At = none → ct = 0) :
    Calls Try.prog 23 #[.agg #[.int .i64 v.p, .int .i64 v.c, .int .i64 v.h, .int .i64 v.s], .agg #[.slice Ao b.1.length co, .slice At b.2.length ct], .agg #[.int .i64 x, .int .i64 y], .int .i64 (d : Int)] w fun e w' => e = .returned (.int .i64 (luckP v d b x y)) ∧ Below w.heap.size w w' := by
  have CP := Lib.hid (fun (w9 : World) (h : Below w.heap.size w w9) => (vals_s d (by omega)).2 v b hb Ao At co ct x y hx hy w9 ((ho.below h (Nat.le_refl _)).more h.size) ((ht.below h (Nat.le_refl _)).more h.size) hA hT)
  have CV := Lib.hid (fun (w9 : World) (h : Below w.heap.size w w9) => (vals_s (d + 1) (by omega)).1 v b hb Ao At co ct w9 ((ho.below h (Nat.le_refl _)).more h.size) ((ht.below h (Nat.le_refl _)).more h.size) hA hT)
  have hpb := pls_bd (d := d) hb hx.1 hy.1
  have hvb := val_bd (d + 1) b hb
  have hgb := grt_bd (d := d) hb hx.1 hy.1
  unfold luckP
  obtain ⟨zs, hzs⟩ : ∃ z, plsP v d b x y = z := ⟨_, rfl⟩
  obtain ⟨X, hX⟩ : ∃ z, valP v (d + 1) b = z := ⟨_, rfl⟩
  rw [hzs] at CP hpb hgb ⊢
  rw [hX] at CV hvb ⊢
  have hpl0 := hpb.2
  obtain ⟨G, hG⟩ : ∃ g, grt zs = g := ⟨_, rfl⟩
  have CG := Lib.hid (fun (w9 : World) (A : Option Addr) (cp B : Nat) (hr : RdS w9 B 1 enI A zs) => great_s A cp B zs w9 hr hpl0)
  rw [hG] at hgb CG ⊢
  obtain ⟨L, hL⟩ : ∃ l, zs.length = l := ⟨_, rfl⟩
  have HL := Lib.hid hL
  rw [hL] at CG
  obtain ⟨D, hD⟩ : ∃ D, d + 1 = D := ⟨_, rfl⟩
  rw [hD] at CV
  have hwd : IntKind.i64.wrap ((d : Int) + 1) = (D : Int) := by rw [IntWalk.i64_in _ (by omega)]; omega
  have hwg : IntKind.i64.wrap (G - X) = G - X := IntWalk.i64_in _ (by omega)
  obtain ⟨n1, hn1⟩ : ∃ n, b.1.length = n := ⟨_, rfl⟩
  obtain ⟨n2, hn2⟩ : ∃ n, b.2.length = n := ⟨_, rfl⟩
  rw [hn1, hn2] at CP CV ⊢
  clear hb ho ht hA hT hx hy hpb hvb hgb hzs hX hpl0 hG hL hD hn1 hn2
  go_enter Try.func23, Try.ntmps23
  go_upto_region 1 with (fail)
  refine wp_gen (fun W' => B3 w W' v [.slice Ao n1 co, .slice At n2 ct] x y) ⟨by go_grown, ((RowB.new _ _ _).alloc _).alloc _, RowB.alloc (RowB.new' _ _ _ (by simp)) _, RowB.new' _ _ _ (by simp)⟩ ?_
  intro w1 K
  have HK := Lib.hid K
  clear K
  refine region_rel [some 9, some 10, some 11, some 12, some 13, some 14, some 15, some 16, some 17, some 18, some 19, some 20, some 8] 13 (Pl [some (.agg #[.int .i64 v.p, .int .i64 v.c, .int .i64 v.h, .int .i64 v.s]), some (.agg #[.slice Ao n1 co, .slice At n2 ct]), some (.agg #[.int .i64 x, .int .i64 y]), some (.int .i64 (d : Int)), none, some (.int .i64 G), some (.agg #[.int .i64 v.p, .int .i64 v.c, .int .i64 v.h, .int .i64 v.s]), some (.agg #[.slice Ao n1 co, .slice At n2 ct]), some (.int .i64 (d : Int)), some (.int .i64 (D : Int)), some (.int .i64 X), some (.int .i64 (G - X)), some (.int .i64 (G - X))]) (fun L vals w' => LuF w1 zs (L 4) (vals 4) w') (by kernel_rfl) (by kernel_rfl) (by kernel_rfl) (by kernel_rfl) (by kernel_rfl) (by kernel_rfl) (by kernel_rfl) ?g0_1 ?gst_1 ?gfin_1
  case g0_1 => exact ⟨(Below.refl _ _).drew, fun h => absurd h (by decide)⟩
  case gst_1 =>
    refine RelFrom.run rfl (fun L vals A w9 hno hdl hcl hu hp h0 F K hK => ?_) ?_
    · have e4 : A.tmps[4]?.getD undef = .pointer (some ⟨w.heap.size, 0, none⟩) := h0 4 (fun j _ hj => absurd (List.mem_of_getElem? hj) (by decide))
      clear hu h0 hp
      have KK := HK.out.below F.bel
      have rq := KK.rv.c4
      have q0 := rq.1
      have q1 := rq.2.1
      have q2 := rq.2.2.1
      have q3 := rq.2.2.2
      have rz := KK.rb.c2
      have z0 := rz.1
      have z1 := rz.2
      have rr := KK.rr.c2
      have r0 := rr.1
      have r1 := rr.2
      clear KK rq rz rr
      go_simp
      exact hK.out _ w9 (Pl.fix rfl) (F.skip 0 _ (by decide))
    refine RelFrom.run rfl (fun L vals A w9 hno hdl hcl hu hp h0 F K hK => ?_) ?_
    · have e5 : A.tmps[5]?.getD undef = .pointer (some ⟨w.heap.size + 1, 0, none⟩) := h0 5 (fun j _ hj => absurd (List.mem_of_getElem? hj) (by decide))
      clear hu h0 hp
      have KK := HK.out.below F.bel
      have rq := KK.rv.c4
      have q0 := rq.1
      have q1 := rq.2.1
      have q2 := rq.2.2.1
      have q3 := rq.2.2.2
      have rz := KK.rb.c2
      have z0 := rz.1
      have z1 := rz.2
      have rr := KK.rr.c2
      have r0 := rr.1
      have r1 := rr.2
      clear KK rq rz rr
      go_simp
      exact hK.out _ w9 (Pl.fix rfl) (F.skip 1 _ (by decide))
    refine RelFrom.run rfl (fun L vals A w9 hno hdl hcl hu hp h0 F K hK => ?_) ?_
    · have e6 : A.tmps[6]?.getD undef = .pointer (some ⟨w.heap.size + 2, 0, none⟩) := h0 6 (fun j _ hj => absurd (List.mem_of_getElem? hj) (by decide))
      clear hu h0 hp
      have KK := HK.out.below F.bel
      have rq := KK.rv.c4
      have q0 := rq.1
      have q1 := rq.2.1
      have q2 := rq.2.2.1
      have q3 := rq.2.2.2
      have rz := KK.rb.c2
      have z0 := rz.1
      have z1 := rz.2
      have rr := KK.rr.c2
      have r0 := rr.1
      have r1 := rr.2
      clear KK rq rz rr
      go_simp
      exact hK.out _ w9 (Pl.fix rfl) (F.skip 2 _ (by decide))
    refine RelFrom.run rfl (fun L vals A w9 hno hdl hcl hu hp h0 F K hK => ?_) ?_
    · have e3 : A.tmps[3]?.getD undef = .int .i64 (d : Int) := h0 3 (fun j _ hj => absurd (List.mem_of_getElem? hj) (by decide))
      clear hu h0 hp
      have KK := HK.out.below F.bel
      have rq := KK.rv.c4
      have q0 := rq.1
      have q1 := rq.2.1
      have q2 := rq.2.2.1
      have q3 := rq.2.2.2
      have rz := KK.rb.c2
      have z0 := rz.1
      have z1 := rz.2
      have rr := KK.rr.c2
      have r0 := rr.1
      have r1 := rr.2
      clear KK rq rz rr
      go_simp
      exact hK.out _ w9 (Pl.fix rfl) (F.skip 3 _ (by decide))
    refine RelFrom.run rfl (fun L vals A w9 hno hdl hcl hu hp h0 F K hK => ?_) ?_
    · have e9 : A.tmps[9]?.getD undef = .agg #[.int .i64 v.p, .int .i64 v.c, .int .i64 v.h, .int .i64 v.s] := (hu 0 9 (by kernel_rfl) rfl).trans (hp 0 (by kernel_rfl) _ rfl)
      have e10 : A.tmps[10]?.getD undef = .agg #[.slice Ao n1 co, .slice At n2 ct] := (hu 1 10 (by kernel_rfl) rfl).trans (hp 1 (by kernel_rfl) _ rfl)
      have e11 : A.tmps[11]?.getD undef = .agg #[.int .i64 x, .int .i64 y] := (hu 2 11 (by kernel_rfl) rfl).trans (hp 2 (by kernel_rfl) _ rfl)
      have e12 : A.tmps[12]?.getD undef = .int .i64 (d : Int) := (hu 3 12 (by kernel_rfl) rfl).trans (hp 3 (by kernel_rfl) _ rfl)
      clear hu h0 hp
      go_simp
      refine (CP.out w9 (HK.out.below F.bel).bel).mono ?_
      rintro e w6 ⟨vv, rfl, h3, hb6⟩
      exact hK.out _ w6 (Pl.any rfl) (by simpa [upd] using F.s4 hb6 h3)
    refine RelFrom.run rfl (fun L vals A w9 hno hdl hcl hu hp h0 F K hK => ?_) ?_
    · have e13 : A.tmps[13]?.getD undef = vals 4 := hu 4 13 (by kernel_rfl) rfl
      clear hu h0 hp
      have o4 := F.f4 (hdl 4 (by kernel_rfl))
      refine (o4.form enI_len).elim fun A14 q => ?_
      refine q.elim fun c14 q => ?_
      have h14 := q.1
      rw [HL.out] at h14
      have e13' := e13.trans h14
      clear e13 h14
      go_simp
      refine (CG.out w9 A14 c14 _ q.2).mono ?_
      rintro e w6 ⟨rfl, rfl⟩
      exact hK.out _ w9 (Pl.fix rfl) (F.skip 5 _ (by decide))
    refine RelFrom.run rfl (fun L vals A w9 hno hdl hcl hu hp h0 F K hK => ?_) ?_
    · have e4 : A.tmps[4]?.getD undef = .pointer (some ⟨w.heap.size, 0, none⟩) := h0 4 (fun j _ hj => absurd (List.mem_of_getElem? hj) (by decide))
      clear hu h0 hp
      have KK := HK.out.below F.bel
      have rq := KK.rv.c4
      have q0 := rq.1
      have q1 := rq.2.1
      have q2 := rq.2.2.1
      have q3 := rq.2.2.2
      have rz := KK.rb.c2
      have z0 := rz.1
      have z1 := rz.2
      have rr := KK.rr.c2
      have r0 := rr.1
      have r1 := rr.2
      clear KK rq rz rr
      go_simp
      exact hK.out _ w9 (Pl.fix rfl) (F.skip 6 _ (by decide))
    refine RelFrom.run rfl (fun L vals A w9 hno hdl hcl hu hp h0 F K hK => ?_) ?_
    · have e5 : A.tmps[5]?.getD undef = .pointer (some ⟨w.heap.size + 1, 0, none⟩) := h0 5 (fun j _ hj => absurd (List.mem_of_getElem? hj) (by decide))
      clear hu h0 hp
      have KK := HK.out.below F.bel
      have rq := KK.rv.c4
      have q0 := rq.1
      have q1 := rq.2.1
      have q2 := rq.2.2.1
      have q3 := rq.2.2.2
      have rz := KK.rb.c2
      have z0 := rz.1
      have z1 := rz.2
      have rr := KK.rr.c2
      have r0 := rr.1
      have r1 := rr.2
      clear KK rq rz rr
      go_simp
      exact hK.out _ w9 (Pl.fix rfl) (F.skip 7 _ (by decide))
    refine RelFrom.run rfl (fun L vals A w9 hno hdl hcl hu hp h0 F K hK => ?_) ?_
    · have e3 : A.tmps[3]?.getD undef = .int .i64 (d : Int) := h0 3 (fun j _ hj => absurd (List.mem_of_getElem? hj) (by decide))
      clear hu h0 hp
      have KK := HK.out.below F.bel
      have rq := KK.rv.c4
      have q0 := rq.1
      have q1 := rq.2.1
      have q2 := rq.2.2.1
      have q3 := rq.2.2.2
      have rz := KK.rb.c2
      have z0 := rz.1
      have z1 := rz.2
      have rr := KK.rr.c2
      have r0 := rr.1
      have r1 := rr.2
      clear KK rq rz rr
      go_simp
      exact hK.out _ w9 (Pl.fix rfl) (F.skip 8 _ (by decide))
    refine RelFrom.run rfl (fun L vals A w9 hno hdl hcl hu hp h0 F K hK => ?_) ?_
    · have e17 : A.tmps[17]?.getD undef = .int .i64 (d : Int) := (hu 8 17 (by kernel_rfl) rfl).trans (hp 8 (by kernel_rfl) _ rfl)
      clear hu h0 hp
      have KK := HK.out.below F.bel
      have rq := KK.rv.c4
      have q0 := rq.1
      have q1 := rq.2.1
      have q2 := rq.2.2.1
      have q3 := rq.2.2.2
      have rz := KK.rb.c2
      have z0 := rz.1
      have z1 := rz.2
      have rr := KK.rr.c2
      have r0 := rr.1
      have r1 := rr.2
      clear KK rq rz rr
      go_simp
      exact hK.out _ w9 (Pl.fix rfl) (F.skip 9 _ (by decide))
    refine RelFrom.run rfl (fun L vals A w9 hno hdl hcl hu hp h0 F K hK => ?_) ?_
    · have e15 : A.tmps[15]?.getD undef = .agg #[.int .i64 v.p, .int .i64 v.c, .int .i64 v.h, .int .i64 v.s] := (hu 6 15 (by kernel_rfl) rfl).trans (hp 6 (by kernel_rfl) _ rfl)
      have e16 : A.tmps[16]?.getD undef = .agg #[.slice Ao n1 co, .slice At n2 ct] := (hu 7 16 (by kernel_rfl) rfl).trans (hp 7 (by kernel_rfl) _ rfl)
      have e18 : A.tmps[18]?.getD undef = .int .i64 (D : Int) := (hu 9 18 (by kernel_rfl) rfl).trans (hp 9 (by kernel_rfl) _ rfl)
      clear hu h0 hp
      go_simp
      refine (CV.out w9 (HK.out.below F.bel).bel).mono ?_
      rintro e w6 ⟨rfl, hb6⟩
      exact hK.out _ w6 (Pl.fix rfl) ((F.below hb6).skip 10 _ (by decide))
    refine RelFrom.run rfl (fun L vals A w9 hno hdl hcl hu hp h0 F K hK => ?_) ?_
    · have e14 : A.tmps[14]?.getD undef = .int .i64 G := (hu 5 14 (by kernel_rfl) rfl).trans (hp 5 (by kernel_rfl) _ rfl)
      have e19 : A.tmps[19]?.getD undef = .int .i64 X := (hu 10 19 (by kernel_rfl) rfl).trans (hp 10 (by kernel_rfl) _ rfl)
      clear hu h0 hp
      have KK := HK.out.below F.bel
      have rq := KK.rv.c4
      have q0 := rq.1
      have q1 := rq.2.1
      have q2 := rq.2.2.1
      have q3 := rq.2.2.2
      have rz := KK.rb.c2
      have z0 := rz.1
      have z1 := rz.2
      have rr := KK.rr.c2
      have r0 := rr.1
      have r1 := rr.2
      clear KK rq rz rr
      go_simp
      exact hK.out _ w9 (Pl.fix rfl) (F.skip 11 _ (by decide))
    refine RelFrom.run rfl (fun L vals A w9 hno hdl hcl hu hp h0 F K hK => ?_) ?_
    · have e20 : A.tmps[20]?.getD undef = .int .i64 (G - X) := (hu 11 20 (by kernel_rfl) rfl).trans (hp 11 (by kernel_rfl) _ rfl)
      clear hu h0 hp
      have KK := HK.out.below F.bel
      have rq := KK.rv.c4
      have q0 := rq.1
      have q1 := rq.2.1
      have q2 := rq.2.2.1
      have q3 := rq.2.2.2
      have rz := KK.rb.c2
      have z0 := rz.1
      have z1 := rz.2
      have rr := KK.rr.c2
      have r0 := rr.1
      have r1 := rr.2
      clear KK rq rz rr
      go_simp
      exact hK.out _ w9 (Pl.fix rfl) (F.skip 12 _ (by decide))
    exact RelFrom.nil (by decide)
  case gfin_1 =>
    intro vals w9 hp F
    simp only [Fr, Act.put, List.setIfInBounds_toArray, List.set_cons_zero, List.set_cons_succ, Nat.reduceAdd]
    have h12 : vals 12 = .int .i64 (G - X) := hp 12 (by decide) _ rfl
    have hb9 := (HK.out.below F.bel).bel
    rw [h12]
    clear F hp h12
    go_wp2_with fail
    go_ret
    exact ⟨rfl, hb9⟩

set_option maxHeartbeats 4000000 in
set_option maxRecDepth 100000 in
theorem luckX_i (v : Vr) (b : Bd) (Ao At : Option Addr) (co ct : Nat) (x y d : Int) (w : World) (ho : RdS w w.heap.size 1 enI Ao b.1) (ht : RdS w w.heap.size 1 enI At b.2) (hA : Ao = none → co = 0) (hT : At = none → ct = 0) :
    Calls Try.prog 11 #[.agg #[.int .i64 v.p, .int .i64 v.c, .int .i64 v.h, .int .i64 v.s], .agg #[.slice Ao b.1.length co, .slice At b.2.length ct], .agg #[.int .i64 x, .int .i64 y], .int .i64 d] w fun e w' => e = .returned (.tuple #[.int .i64 (luckR v b x y d).1, .int .i64 (luckR v b x y d).2]) ∧ Below w.heap.size w w' := by
  obtain ⟨c0, h0⟩ : ∃ c, okB v b = c := ⟨_, rfl⟩
  obtain ⟨c1, h1⟩ : ∃ c, (okV v && okR v x y) = c := ⟨_, rfl⟩
  obtain ⟨z, hz⟩ : ∃ z, codeT v (okB v b) (okR v x y) d = z := ⟨_, rfl⟩
  have hz2 : codeT v c0 c1 d = z := by rw [← h0, ← h1, codeT_roll]; exact hz
  have hR0 : luckR v b x y d = if z = 0 then (luckP v d.toNat b x y, 0) else (0, z) := by unfold luckR; rw [hz]
  obtain ⟨Rz, hRz⟩ : ∃ r, luckR v b x y d = r := ⟨_, rfl⟩
  rw [hRz] at hR0 ⊢
  obtain ⟨g1, g2⟩ := Rz
  have HR := Lib.hid hR0
  simp only
  clear hR0 hRz
  have C0 := Lib.hid (fun (w9 : World) (h : Below w.heap.size w w9) => Bd3I.isB_i v b Ao At co ct w.heap.size w9 h.size (ho.below h (Nat.le_refl _)) (ht.below h (Nat.le_refl _)) c0 h0)
  have C1 := Lib.hid (fun w => isroll_i v x y c1 h1 w)
  have C2 := Lib.hid (fun w => tutor_i v c0 c1 d z hz2 w)
  have CL := Lib.hid (fun (h : z = 0) (w9 : World) (hw : Below w.heap.size w w9) => show Calls Try.prog 28 #[.agg #[.int .i64 v.p, .int .i64 v.c, .int .i64 v.h, .int .i64 v.s], .agg #[.slice Ao b.1.length co, .slice At b.2.length ct], .agg #[.int .i64 x, .int .i64 y], .int .i64 d] w9 fun e w' => e = .returned (.int .i64 (luckP v d.toNat b x y)) ∧ Below w9.heap.size w9 w' from by
    have hk := codeT_zero (hz.trans h)
    have hr := okR_iff.1 hk.2.1
    obtain ⟨dn, rfl⟩ : ∃ n : Nat, d = (n : Int) := ⟨d.toNat, by omega⟩
    rw [Int.toNat_natCast]
    exact luckOf_i v b hk.1 hk.2.2.2.1 Ao At co ct x y (by omega) (by omega) dn (by omega) w9 ((ho.below hw (Nat.le_refl _)).more hw.size) ((ht.below hw (Nat.le_refl _)).more hw.size) hA hT)
  obtain ⟨n1, hn1⟩ : ∃ n, b.1.length = n := ⟨_, rfl⟩
  obtain ⟨n2, hn2⟩ : ∃ n, b.2.length = n := ⟨_, rfl⟩
  rw [hn1, hn2] at C0 CL ⊢
  clear ho ht hA hT h0 h1 hz hz2 hn1 hn2
  go_enter Try.func11, Try.ntmps11
  go_upto_region 1 with (fail)
  refine wp_gen (fun W' => B3 w W' v [.slice Ao n1 co, .slice At n2 ct] x y) ⟨by go_grown, ((RowB.new _ _ _).alloc _).alloc _, RowB.alloc (RowB.new' _ _ _ (by simp)) _, RowB.new' _ _ _ (by simp)⟩ ?_
  intro w1 K
  have HK := Lib.hid K
  clear K
  refine region_rel [some 11, some 12, some 13, some 14, some 15, some 16, some 17, some 18, some 19, some 10] 10 (Pl [some (.agg #[.int .i64 v.p, .int .i64 v.c, .int .i64 v.h, .int .i64 v.s]), some (.agg #[.int .i64 v.p, .int .i64 v.c, .int .i64 v.h, .int .i64 v.s]), some (.agg #[.slice Ao n1 co, .slice At n2 ct]), some (.bool c0), some (.int .i64 d), some (.agg #[.int .i64 v.p, .int .i64 v.c, .int .i64 v.h, .int .i64 v.s]), some (.agg #[.int .i64 x, .int .i64 y]), some (.bool c1), some (.int .i64 z), some (.int .i64 z)]) (fun L vals w' => Below w1.heap.size w1 w') (by kernel_rfl) (by kernel_rfl) (by kernel_rfl) (by kernel_rfl) (by kernel_rfl) (by kernel_rfl) (by kernel_rfl) ?g0_2 ?gst_2 ?gfin_2
  case g0_2 => exact (Below.refl _ _).drew
  case gst_2 =>
    refine RelFrom.run rfl (fun L vals A w9 hno hdl hcl hu hp h0 F K hK => ?_) ?_
    · have e4 : A.tmps[4]?.getD undef = .pointer (some ⟨w.heap.size, 0, none⟩) := h0 4 (fun j _ hj => absurd (List.mem_of_getElem? hj) (by decide))
      clear hu h0 hp
      have KK := HK.out.below F
      have rq := KK.rv.c4
      have q0 := rq.1
      have q1 := rq.2.1
      have q2 := rq.2.2.1
      have q3 := rq.2.2.2
      have rz := KK.rb.c2
      have z0 := rz.1
      have z1 := rz.2
      have rr := KK.rr.c2
      have r0 := rr.1
      have r1 := rr.2
      clear KK rq rz rr
      go_simp
      exact hK.out _ w9 (Pl.fix rfl) (F)
    refine RelFrom.run rfl (fun L vals A w9 hno hdl hcl hu hp h0 F K hK => ?_) ?_
    · have e4 : A.tmps[4]?.getD undef = .pointer (some ⟨w.heap.size, 0, none⟩) := h0 4 (fun j _ hj => absurd (List.mem_of_getElem? hj) (by decide))
      clear hu h0 hp
      have KK := HK.out.below F
      have rq := KK.rv.c4
      have q0 := rq.1
      have q1 := rq.2.1
      have q2 := rq.2.2.1
      have q3 := rq.2.2.2
      have rz := KK.rb.c2
      have z0 := rz.1
      have z1 := rz.2
      have rr := KK.rr.c2
      have r0 := rr.1
      have r1 := rr.2
      clear KK rq rz rr
      go_simp
      exact hK.out _ w9 (Pl.fix rfl) (F)
    refine RelFrom.run rfl (fun L vals A w9 hno hdl hcl hu hp h0 F K hK => ?_) ?_
    · have e5 : A.tmps[5]?.getD undef = .pointer (some ⟨w.heap.size + 1, 0, none⟩) := h0 5 (fun j _ hj => absurd (List.mem_of_getElem? hj) (by decide))
      clear hu h0 hp
      have KK := HK.out.below F
      have rq := KK.rv.c4
      have q0 := rq.1
      have q1 := rq.2.1
      have q2 := rq.2.2.1
      have q3 := rq.2.2.2
      have rz := KK.rb.c2
      have z0 := rz.1
      have z1 := rz.2
      have rr := KK.rr.c2
      have r0 := rr.1
      have r1 := rr.2
      clear KK rq rz rr
      go_simp
      exact hK.out _ w9 (Pl.fix rfl) (F)
    refine RelFrom.run rfl (fun L vals A w9 hno hdl hcl hu hp h0 F K hK => ?_) ?_
    · have e12 : A.tmps[12]?.getD undef = .agg #[.int .i64 v.p, .int .i64 v.c, .int .i64 v.h, .int .i64 v.s] := (hu 1 12 (by kernel_rfl) rfl).trans (hp 1 (by kernel_rfl) _ rfl)
      have e13 : A.tmps[13]?.getD undef = .agg #[.slice Ao n1 co, .slice At n2 ct] := (hu 2 13 (by kernel_rfl) rfl).trans (hp 2 (by kernel_rfl) _ rfl)
      clear hu h0 hp
      go_simp
      refine (C0.out w9 (HK.out.below F).bel).mono ?_
      rintro e w6 ⟨rfl, hb6⟩
      exact hK.out _ w6 (Pl.fix rfl) (F.trans (hb6.mono F.size))
    refine RelFrom.run rfl (fun L vals A w9 hno hdl hcl hu hp h0 F K hK => ?_) ?_
    · have e3 : A.tmps[3]?.getD undef = .int .i64 d := h0 3 (fun j _ hj => absurd (List.mem_of_getElem? hj) (by decide))
      clear hu h0 hp
      have KK := HK.out.below F
      have rq := KK.rv.c4
      have q0 := rq.1
      have q1 := rq.2.1
      have q2 := rq.2.2.1
      have q3 := rq.2.2.2
      have rz := KK.rb.c2
      have z0 := rz.1
      have z1 := rz.2
      have rr := KK.rr.c2
      have r0 := rr.1
      have r1 := rr.2
      clear KK rq rz rr
      go_simp
      exact hK.out _ w9 (Pl.fix rfl) (F)
    refine RelFrom.run rfl (fun L vals A w9 hno hdl hcl hu hp h0 F K hK => ?_) ?_
    · have e4 : A.tmps[4]?.getD undef = .pointer (some ⟨w.heap.size, 0, none⟩) := h0 4 (fun j _ hj => absurd (List.mem_of_getElem? hj) (by decide))
      clear hu h0 hp
      have KK := HK.out.below F
      have rq := KK.rv.c4
      have q0 := rq.1
      have q1 := rq.2.1
      have q2 := rq.2.2.1
      have q3 := rq.2.2.2
      have rz := KK.rb.c2
      have z0 := rz.1
      have z1 := rz.2
      have rr := KK.rr.c2
      have r0 := rr.1
      have r1 := rr.2
      clear KK rq rz rr
      go_simp
      exact hK.out _ w9 (Pl.fix rfl) (F)
    refine RelFrom.run rfl (fun L vals A w9 hno hdl hcl hu hp h0 F K hK => ?_) ?_
    · have e6 : A.tmps[6]?.getD undef = .pointer (some ⟨w.heap.size + 2, 0, none⟩) := h0 6 (fun j _ hj => absurd (List.mem_of_getElem? hj) (by decide))
      clear hu h0 hp
      have KK := HK.out.below F
      have rq := KK.rv.c4
      have q0 := rq.1
      have q1 := rq.2.1
      have q2 := rq.2.2.1
      have q3 := rq.2.2.2
      have rz := KK.rb.c2
      have z0 := rz.1
      have z1 := rz.2
      have rr := KK.rr.c2
      have r0 := rr.1
      have r1 := rr.2
      clear KK rq rz rr
      go_simp
      exact hK.out _ w9 (Pl.fix rfl) (F)
    refine RelFrom.run rfl (fun L vals A w9 hno hdl hcl hu hp h0 F K hK => ?_) ?_
    · have e16 : A.tmps[16]?.getD undef = .agg #[.int .i64 v.p, .int .i64 v.c, .int .i64 v.h, .int .i64 v.s] := (hu 5 16 (by kernel_rfl) rfl).trans (hp 5 (by kernel_rfl) _ rfl)
      have e17 : A.tmps[17]?.getD undef = .agg #[.int .i64 x, .int .i64 y] := (hu 6 17 (by kernel_rfl) rfl).trans (hp 6 (by kernel_rfl) _ rfl)
      clear hu h0 hp
      go_simp
      refine (C1.out w9).mono ?_
      rintro e w6 ⟨rfl, hb6⟩
      exact hK.out _ w6 (Pl.fix rfl) (F.trans (hb6.mono F.size))
    refine RelFrom.run rfl (fun L vals A w9 hno hdl hcl hu hp h0 F K hK => ?_) ?_
    · have e11 : A.tmps[11]?.getD undef = .agg #[.int .i64 v.p, .int .i64 v.c, .int .i64 v.h, .int .i64 v.s] := (hu 0 11 (by kernel_rfl) rfl).trans (hp 0 (by kernel_rfl) _ rfl)
      have e14 : A.tmps[14]?.getD undef = .bool c0 := (hu 3 14 (by kernel_rfl) rfl).trans (hp 3 (by kernel_rfl) _ rfl)
      have e15 : A.tmps[15]?.getD undef = .int .i64 d := (hu 4 15 (by kernel_rfl) rfl).trans (hp 4 (by kernel_rfl) _ rfl)
      have e18 : A.tmps[18]?.getD undef = .bool c1 := (hu 7 18 (by kernel_rfl) rfl).trans (hp 7 (by kernel_rfl) _ rfl)
      clear hu h0 hp
      go_simp
      refine (C2.out w9).mono ?_
      rintro e w6 ⟨rfl, hb6⟩
      exact hK.out _ w6 (Pl.fix rfl) (F.trans (hb6.mono F.size))
    refine RelFrom.run rfl (fun L vals A w9 hno hdl hcl hu hp h0 F K hK => ?_) ?_
    · have e19 : A.tmps[19]?.getD undef = .int .i64 z := (hu 8 19 (by kernel_rfl) rfl).trans (hp 8 (by kernel_rfl) _ rfl)
      clear hu h0 hp
      have KK := HK.out.below F
      have rq := KK.rv.c4
      have q0 := rq.1
      have q1 := rq.2.1
      have q2 := rq.2.2.1
      have q3 := rq.2.2.2
      have rz := KK.rb.c2
      have z0 := rz.1
      have z1 := rz.2
      have rr := KK.rr.c2
      have r0 := rr.1
      have r1 := rr.2
      clear KK rq rz rr
      go_simp
      exact hK.out _ w9 (Pl.fix rfl) (F)
    exact RelFrom.nil (by decide)
  case gfin_2 =>
    intro vals w9 hp F
    simp only [Fr, Act.put, List.setIfInBounds_toArray, List.set_cons_zero, List.set_cons_succ, Nat.reduceAdd]
    have h9 : vals 9 = .int .i64 z := hp 9 (by decide) _ rfl
    have K := HK.out.below F
    rw [h9]
    clear F hp h9 HK
    obtain ⟨q0, q1, q2, q3⟩ := K.rv.c4
    obtain ⟨z0, z1⟩ := K.rb.c2
    obtain ⟨r0, r1⟩ := K.rr.c2
    have hl1 := K.rv.lt
    have hl2 := K.rb.lt
    have hl3 := K.rr.lt
    by_cases h0 : z = 0
    · have hLR := HR.out
      rw [if_pos h0] at hLR
      have HG := Lib.hid (fun _ : Unit => Prod.mk.inj hLR)
      have e0 : (z != 0) = false := by simp [h0]
      have CL := Lib.hid (CL.out h0 w9 K.bel)
      have H0 := Lib.hid h0
      clear h0 HR hLR
      go_wp2_with fail
      refine CL.out.mono ?_
      rintro e w4 ⟨rfl, hb4⟩
      have K := K.below hb4
      go_wp2_with fail
      go_ret2
      refine ⟨?_, K.bel⟩
      rw [(HG.out ()).1, (HG.out ()).2]
      rfl
    · have hLR := HR.out
      rw [if_neg h0] at hLR
      have HG := Lib.hid (fun _ : Unit => Prod.mk.inj hLR)
      have e0 : (z != 0) = true := by simp [h0]
      clear h0 HR hLR CL
      go_wp2_with fail
      go_ret2
      refine ⟨?_, K.bel⟩
      rw [(HG.out ()).1, (HG.out ()).2]
      rfl

set_option maxHeartbeats 4000000 in
set_option maxRecDepth 100000 in
theorem luckX_s (v : Vr) (b : Bd) (Ao At : Option Addr) (co ct : Nat) (x y d : Int) (w : World) (ho : RdS w w.heap.size 1 enI Ao b.1) (ht : RdS w w.heap.size 1 enI At b.2) (hA : Ao = none → co = 0) (hT : At = none → ct = 0) :
    Calls Try.prog 7 #[.agg #[.int .i64 v.p, .int .i64 v.c, .int .i64 v.h, .int .i64 v.s], .agg #[.slice Ao b.1.length co, .slice At b.2.length ct], .agg #[.int .i64 x, .int .i64 y], .int .i64 d] w fun e w' => e = .returned (.tuple #[.int .i64 (luckR v b x y d).1, .int .i64 (luckR v b x y d).2]) ∧ Below w.heap.size w w' := by
  obtain ⟨z, hz⟩ : ∃ z, codeT v (okB v b) (okR v x y) d = z := ⟨_, rfl⟩
  have hR0 : luckR v b x y d = if z = 0 then (luckP v d.toNat b x y, 0) else (0, z) := by unfold luckR; rw [hz]
  obtain ⟨Rz, hRz⟩ : ∃ r, luckR v b x y d = r := ⟨_, rfl⟩
  rw [hRz] at hR0 ⊢
  obtain ⟨g1, g2⟩ := Rz
  have HR := Lib.hid hR0
  simp only
  clear hR0 hRz
  have C2 := Lib.hid (fun (w9 : World) (hw : Below w.heap.size w w9) => code_s v b Ao At co ct x y d z hz w9 ((ho.below hw (Nat.le_refl _)).more hw.size) ((ht.below hw (Nat.le_refl _)).more hw.size))
  have CL := Lib.hid (fun (h : z = 0) (w9 : World) (hw : Below w.heap.size w w9) => show Calls Try.prog 23 #[.agg #[.int .i64 v.p, .int .i64 v.c, .int .i64 v.h, .int .i64 v.s], .agg #[.slice Ao b.1.length co, .slice At b.2.length ct], .agg #[.int .i64 x, .int .i64 y], .int .i64 d] w9 fun e w' => e = .returned (.int .i64 (luckP v d.toNat b x y)) ∧ Below w9.heap.size w9 w' from by
    have hk := codeT_zero (hz.trans h)
    have hr := okR_iff.1 hk.2.1
    obtain ⟨dn, rfl⟩ : ∃ n : Nat, d = (n : Int) := ⟨d.toNat, by omega⟩
    rw [Int.toNat_natCast]
    exact luck_s v b hk.1 Ao At co ct x y (by omega) (by omega) dn (by omega) w9 ((ho.below hw (Nat.le_refl _)).more hw.size) ((ht.below hw (Nat.le_refl _)).more hw.size) hA hT)
  obtain ⟨n1, hn1⟩ : ∃ n, b.1.length = n := ⟨_, rfl⟩
  obtain ⟨n2, hn2⟩ : ∃ n, b.2.length = n := ⟨_, rfl⟩
  rw [hn1, hn2] at C2 CL ⊢
  clear ho ht hA hT hz hn1 hn2
  go_enter Try.func7, Try.ntmps7
  go_upto_region 1 with (fail)
  refine wp_gen (fun W' => B3 w W' v [.slice Ao n1 co, .slice At n2 ct] x y) ⟨by go_grown, ((RowB.new _ _ _).alloc _).alloc _, RowB.alloc (RowB.new' _ _ _ (by simp)) _, RowB.new' _ _ _ (by simp)⟩ ?_
  intro w1 K
  obtain ⟨q0, q1, q2, q3⟩ := K.rv.c4
  obtain ⟨z0, z1⟩ := K.rb.c2
  obtain ⟨r0, r1⟩ := K.rr.c2
  have hl1 := K.rv.lt
  have hl2 := K.rb.lt
  have hl3 := K.rr.lt
  go_wp2_with fail
  refine (C2.out w1 K.bel).mono ?_
  rintro e w2 ⟨rfl, hb2⟩
  have K := K.below hb2
  clear q0 q1 q2 q3 z0 z1 r0 r1 hl1 hl2 hl3 hb2
  obtain ⟨q0, q1, q2, q3⟩ := K.rv.c4
  obtain ⟨z0, z1⟩ := K.rb.c2
  obtain ⟨r0, r1⟩ := K.rr.c2
  have hl1 := K.rv.lt
  have hl2 := K.rb.lt
  have hl3 := K.rr.lt
  by_cases h0 : z = 0
  · have hLR := HR.out
    rw [if_pos h0] at hLR
    have HG := Lib.hid (fun _ : Unit => Prod.mk.inj hLR)
    have e0 : (z != 0) = false := by simp [h0]
    have CL := Lib.hid (CL.out h0 w2 K.bel)
    have H0 := Lib.hid h0
    clear h0 HR hLR
    go_wp2_with fail
    refine CL.out.mono ?_
    rintro e w4 ⟨rfl, hb4⟩
    have K := K.below hb4
    go_wp2_with fail
    go_ret2
    refine ⟨?_, K.bel⟩
    rw [(HG.out ()).1, (HG.out ()).2]
    rfl
  · have hLR := HR.out
    rw [if_neg h0] at hLR
    have HG := Lib.hid (fun _ : Unit => Prod.mk.inj hLR)
    have e0 : (z != 0) = true := by simp [h0]
    clear h0 HR hLR CL
    go_wp2_with fail
    go_ret2
    refine ⟨?_, K.bel⟩
    rw [(HG.out ()).1, (HG.out ()).2]
    rfl
end Go.Proofs.Ytfgkkmhafdbicaa.Bd29
