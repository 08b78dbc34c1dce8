/-
  RateMatch, of the program and of the reference. Conditions: each theorem's own.
-/
import Derived.Test.YtjmckpaemmjcmaaDoorChance
import Derived.Deep.RegionHeld3
import Derived.Deep.DeepCutAuto
import Derived.StillTailTactics
set_option linter.unusedVariables false
namespace Go.Proofs.YtjmckpaemmjcmaaDoor.RMatch
open Go.ChangeShapes Go.WideShapes Go.ChangeAt Go.RowKit Base Rating Chance

def wgt (x : Int) : Int := max 100 (500 - x)
/-- The change of a rating with experience x. -/
def chg (L p x : Int) : Int := 4 * fac L * wgt x * (1000 - p) / 100000
def up (v c : Int) : Int := min (v + c) 1000000
def down (v c : Int) : Int := max (v - c) 0
def more (x L : Int) : Int := min (x + L) 100000
theorem wgt_bd {x : Int} (h : 0 ≤ x) : 100 ≤ wgt x ∧ wgt x ≤ 500 := by unfold wgt; omega
theorem chg_bd {L p x : Int} (hp0 : 0 ≤ p) (hp1 : p ≤ 1000) (hx : 0 ≤ x) : 0 ≤ 4 * fac L * wgt x * (1000 - p) ∧ 4 * fac L * wgt x * (1000 - p) ≤ 1000000000 ∧ 0 ≤ 4 * fac L * wgt x ∧ 4 * fac L * wgt x ≤ 1000000 := by
  have h1 := fac_bd L
  have h2 := wgt_bd hx
  have h3 := mul_bd (show 0 ≤ 4 * fac L by omega) (show 4 * fac L ≤ 2000 by omega) (show 0 ≤ wgt x by omega) h2.2
  have h4 := mul_bd h3.1 h3.2 (show 0 ≤ 1000 - p by omega) (show 1000 - p ≤ 1000 by omega)
  omega
theorem wgtI (x : Int) (w : World) (h0 : 0 ≤ x) (h1 : x ≤ 100000) : Calls Tryd.prog 60 #[.int .i64 x] w fun e w' => e = .returned (.int .i64 (wgt x)) ∧ w = w' := by
  by_cases h : x ≤ 400
  · have HV := Lib.hid (show 500 - x = wgt x by unfold wgt; omega)
    go_enter Tryd.func60, Tryd.ntmps60
    go_wp2
    all_goals go_ret
    all_goals exact ⟨ret1 (by first | exact HV.out | (rw [← HV.out]; omega)), rfl⟩
  · have HV := Lib.hid (show 100 = wgt x by unfold wgt; omega)
    replace h := Int.not_le.1 h
    go_enter Tryd.func60, Tryd.ntmps60
    go_wp2
    all_goals go_ret
    all_goals exact ⟨ret1 (by first | exact HV.out | (rw [← HV.out]; omega)), rfl⟩
theorem wgtS (x : Int) (w : World) (h0 : 0 ≤ x) (h1 : x ≤ 100000) : Calls Tryd.prog 61 #[.int .i64 x] w fun e w' => e = .returned (.int .i64 (wgt x)) ∧ w = w' := by
  by_cases h : x ≤ 400
  · have HV := Lib.hid (show 500 - x = wgt x by unfold wgt; omega)
    go_enter Tryd.func61, Tryd.ntmps61
    go_wp2
    all_goals go_ret
    all_goals exact ⟨ret1 (by first | exact HV.out | (rw [← HV.out]; omega)), rfl⟩
  · have HV := Lib.hid (show 100 = wgt x by unfold wgt; omega)
    replace h := Int.not_le.1 h
    go_enter Tryd.func61, Tryd.ntmps61
    go_wp2
    all_goals go_ret
    all_goals exact ⟨ret1 (by first | exact HV.out | (rw [← HV.out]; omega)), rfl⟩

set_option maxHeartbeats 1000000 in
theorem chgI (v x L p : Int) (b1 b2 : Nat) (w : World) (hx0 : 0 ≤ x) (hx1 : x ≤ 100000) (l1 : 1 ≤ L) (l2 : L ≤ 25) (hp0 : 0 ≤ p) (hp1 : p ≤ 1000) (c1 : w.cell? ⟨b1, 0, none⟩ = some (.int .i64 L)) (c2 : w.cell? ⟨b2, 0, none⟩ = some (.int .i64 p)) :
    Calls Tryd.prog 59 #[.agg #[.int .i64 v, .int .i64 x], .pointer (some ⟨b1, 0, none⟩), .pointer (some ⟨b2, 0, none⟩)] w fun e w' => e = .returned (.int .i64 (chg L p x)) ∧ Below w.heap.size w w' := by
  have CF := Lib.hid (fun w0 => fac_impl L w0 l1 l2)
  have CW := Lib.hid (fun w0 => wgtI x w0 hx0 hx1)
  have HB := chg_bd (L := L) hp0 hp1 hx0
  have hf := fac_bd L
  have hw := wgt_bd hx0
  have HV : Hid (chg L p x = 4 * fac L * wgt x * (1000 - p) / 100000) := rfl
  generalize fac L = f at *
  generalize wgt x = g at *
  have lt1 := World.block_lt_of_cell? w _ c1
  have lt2 := World.block_lt_of_cell? w _ c2
  have e1 : IntKind.i64.wrap (4 * f) = 4 * f := IntWalk.i64_in _ (by omega)
  have e2 : IntKind.i64.wrap (4 * f * g) = 4 * f * g := IntWalk.i64_in _ (by omega)
  have e3 : IntKind.i64.wrap (1000 - p) = 1000 - p := IntWalk.i64_in _ (by omega)
  have e4 : IntKind.i64.wrap (4 * f * g * (1000 - p)) = 4 * f * g * (1000 - p) := IntWalk.i64_in _ (by omega)
  have e5 : Int.tdiv (4 * f * g * (1000 - p)) 100000 = 4 * f * g * (1000 - p) / 100000 := Int.tdiv_eq_ediv_of_nonneg (by omega)
  have e6 : IntKind.i64.wrap (4 * f * g * (1000 - p) / 100000) = 4 * f * g * (1000 - p) / 100000 := IntWalk.i64_in _ (by omega)
  go_enter Tryd.func59, Tryd.ntmps59
  go_wp2_with fail
  refine wp_gen (fun W' => Below w.heap.size w W' ∧ RowB W' w.heap.size 33 [.int .i64 v, .int .i64 x]) ⟨by go_grown, RowB.new _ _ _⟩ ?_
  rintro W1 ⟨hbW, rb⟩
  have d1 := (hbW.cell (p := ⟨b1, 0, none⟩) lt1).trans c1
  have d2 := (hbW.cell (p := ⟨b2, 0, none⟩) lt2).trans c2
  obtain ⟨p0, p1⟩ := rb.c2
  clear c1 c2
  go_region_held3 (fun w' => w'.cell? ⟨b1, 0, none⟩ = some (.int .i64 L) ∧ w'.cell? ⟨b2, 0, none⟩ = some (.int .i64 p) ∧ w'.cell? ⟨w.heap.size, 1, none⟩ = some (.int .i64 x)) (first | exact ⟨d1, d2, p1⟩ | go_keep) (first | (go_at_call 47; refine (CF.out _).mono ?_; rintro e w1 ⟨rfl, rfl⟩) | (go_at_call 60; refine (CW.out _).mono ?_; rintro e w1 ⟨rfl, rfl⟩) | fail)
  go_wp2_with fail
  go_ret
  exact ⟨ret1 (by rw [HV.out]), by first | exact hbW.drew | exact hbW | exact below_drewN hbW _⟩

set_option maxHeartbeats 1000000 in
theorem chgS (v x L p : Int) (w : World) (hx0 : 0 ≤ x) (hx1 : x ≤ 100000) (l1 : 1 ≤ L) (l2 : L ≤ 25) (hp0 : 0 ≤ p) (hp1 : p ≤ 1000) :
    Calls Tryd.prog 58 #[.agg #[.int .i64 v, .int .i64 x], .int .i64 p, .int .i64 L] w fun e w' => e = .returned (.int .i64 (chg L p x)) ∧ Below w.heap.size w w' := by
  have CF := Lib.hid (fun w0 => fac_spec L w0 l1 l2)
  have CW := Lib.hid (fun w0 => wgtS x w0 hx0 hx1)
  have HB := chg_bd (L := L) hp0 hp1 hx0
  have hf := fac_bd L
  have hw := wgt_bd hx0
  have HV : Hid (chg L p x = 4 * fac L * wgt x * (1000 - p) / 100000) := rfl
  generalize fac L = f at *
  generalize wgt x = g at *
  have e1 : IntKind.i64.wrap (4 * f) = 4 * f := IntWalk.i64_in _ (by omega)
  have e2 : IntKind.i64.wrap (4 * f * g) = 4 * f * g := IntWalk.i64_in _ (by omega)
  have e3 : IntKind.i64.wrap (1000 - p) = 1000 - p := IntWalk.i64_in _ (by omega)
  have e4 : IntKind.i64.wrap (4 * f * g * (1000 - p)) = 4 * f * g * (1000 - p) := IntWalk.i64_in _ (by omega)
  have e5 : Int.tdiv (4 * f * g * (1000 - p)) 100000 = 4 * f * g * (1000 - p) / 100000 := Int.tdiv_eq_ediv_of_nonneg (by omega)
  have e6 : IntKind.i64.wrap (4 * f * g * (1000 - p) / 100000) = 4 * f * g * (1000 - p) / 100000 := IntWalk.i64_in _ (by omega)
  go_enter Tryd.func58, Tryd.ntmps58
  go_wp2_with fail
  refine wp_gen (fun W' => Below w.heap.size w W' ∧ RowB W' w.heap.size 33 [.int .i64 v, .int .i64 x]) ⟨by go_grown, RowB.new _ _ _⟩ ?_
  rintro W1 ⟨hbW, rb⟩
  obtain ⟨p0, p1⟩ := rb.c2
  go_region_held3 (fun w' => w'.cell? ⟨w.heap.size, 1, none⟩ = some (.int .i64 x)) (first | exact p1 | go_keep) (first | (go_at_call 56; refine (CF.out _).mono ?_; rintro e w1 ⟨rfl, rfl⟩) | (go_at_call 61; refine (CW.out _).mono ?_; rintro e w1 ⟨rfl, rfl⟩) | fail)
  go_wp2_with fail
  go_ret
  exact ⟨ret1 (by rw [HV.out]), by first | exact hbW.drew | exact hbW | exact below_drewN hbW _⟩

def rp (v1 v2 L : Int) : Int := ch (v1 - v2) L
theorem ch_bd2 (d L : Int) : 0 ≤ ch d L ∧ ch d L ≤ 1000 := by
  unfold ch
  split
  · have := chN_bd (-d) L (by omega); omega
  · have := chN_bd d L (by omega); omega
theorem chg_bd2 {L p x : Int} (hp0 : 0 ≤ p) (hp1 : p ≤ 1000) (hx : 0 ≤ x) : 0 ≤ chg L p x ∧ chg L p x ≤ 10000 := by
  have := chg_bd (L := L) hp0 hp1 hx
  unfold chg
  omega
theorem min_if (a b : Int) : (if b < a then b else a) = min a b := by
  by_cases h : b < a
  · rw [if_pos h]; omega
  · rw [if_neg h]; omega
theorem max_if (a b : Int) : (if a < b then b else a) = max a b := by
  by_cases h : a < b
  · rw [if_pos h]; omega
  · rw [if_neg h]; omega

set_option maxHeartbeats 8000000 in
set_option maxRecDepth 100000 in
theorem rmI (v1 x1 v2 x2 L : Int) (w : World) (a0 : 0 ≤ v1) (a1 : v1 ≤ 1000000) (b0 : 0 ≤ x1) (b1 : x1 ≤ 100000) (c0 : 0 ≤ v2) (c1 : v2 ≤ 1000000) (d0 : 0 ≤ x2) (d1 : x2 ≤ 100000) (l1 : 1 ≤ L) (l2 : L ≤ 25) (tb : ∀ i : Nat, i < 11 → w.cell? ⟨0, i, none⟩ = some (.int .i64 (tab.getD i 0))) (hz : 0 < w.heap.size) :
    Calls Tryd.prog 50 #[.agg #[.int .i64 v1, .int .i64 x1], .agg #[.int .i64 v2, .int .i64 x2], .int .i64 L] w fun e w' => e = .returned (.tuple #[.agg #[.int .i64 (up v1 (chg L (rp v1 v2 L) x1)), .int .i64 (more x1 L)], .agg #[.int .i64 (down v2 (chg L (rp v1 v2 L) x2)), .int .i64 (more x2 L)]]) ∧ Below w.heap.size w w' := by
  have T := Lib.hid (fun (w' : World) (hb : Below w.heap.size w w') (i : Nat) (hi : i < 11) => (hb.cell (p := ⟨0, i, none⟩) hz).trans (tb i hi))
  clear tb
  go_enter Tryd.func50, Tryd.ntmps50
  go_wp2_with fail
  refine (ch_impl (v1 - v2) L _ (by omega) (by omega) l1 l2 (T.out _ (by go_grown))).mono ?_
  rintro e w1 ⟨rfl, hb1⟩
  have hbw : Below w.heap.size w w1 := Below.then_ (by go_grown) hb1 (by go_size)
  have ra : RowB w1 w.heap.size 33 [.int .i64 v1, .int .i64 x1] := (((((RowB.new w _ _).alloc _).alloc _).alloc _).alloc _).below hb1 (by go_size)
  have rl : RowB w1 (w.heap.size + 1) 33 [.int .i64 v2, .int .i64 x2] := ((((RowB.new' (w.alloc _) _ _ (by simp)).alloc _).alloc _).alloc _).below hb1 (by go_size)
  have rL : RowB w1 (w.heap.size + 1 + 1) 2 [.int .i64 L] := (((RowB.new' ((w.alloc _).alloc _) _ _ (by simp)).alloc _).alloc _).below hb1 (by go_size)
  have r6 : RowB w1 (w.heap.size + 1 + 1 + 1) 33 [.int .i64 0, .int .i64 0] := ((RowB.new' (((w.alloc _).alloc _).alloc _) _ _ (by simp)).alloc _).below hb1 (by go_size)
  have r7 : RowB w1 (w.heap.size + 1 + 1 + 1 + 1) 33 [.int .i64 0, .int .i64 0] := (RowB.new' ((((w.alloc _).alloc _).alloc _).alloc _) _ _ (by simp)).below hb1 (by go_size)
  have hz1 : w.heap.size + 5 ≤ w1.heap.size := by have := hb1.size; simp at this; omega
  clear hb1
  have HP : Hid (ch (v1 - v2) L = rp v1 v2 L) := rfl
  rw [HP.out]
  have hp := ch_bd2 (v1 - v2) L
  rw [HP.out] at hp
  clear HP
  generalize hpp : rp v1 v2 L = p at *
  have HPP := Lib.hid hpp; clear hpp
  obtain ⟨hp0, hp1⟩ := hp
  have hc1 := chg_bd2 (L := L) hp0 hp1 b0
  have hc2 := chg_bd2 (L := L) hp0 hp1 d0
  go_wp2_with fail
  refine wp_gen (fun W' => Below w1.heap.size w1 W' ∧ RowB W' w1.heap.size 2 [.int .i64 p]) ⟨by go_grown, RowB.new _ _ _⟩ ?_
  rintro w2 ⟨hb2, rp⟩
  have hbw := hbw.trans (hb2.mono hbw.size)
  have ra := ra.below hb2 ra.lt
  have rl := rl.below hb2 rl.lt
  have rL := rL.below hb2 rL.lt
  have r6 := r6.below hb2 r6.lt
  have r7 := r7.below hb2 r7.lt
  have hz2 := rp.lt
  clear hb2
  go_region_held3 (fun w' => (w'.cell? ⟨w.heap.size, 0, none⟩ = some (.int .i64 v1) ∧ w'.cell? ⟨w.heap.size, 1, none⟩ = some (.int .i64 x1)) ∧ (w'.cell? ⟨w.heap.size + 1, 0, none⟩ = some (.int .i64 v2) ∧ w'.cell? ⟨w.heap.size + 1, 1, none⟩ = some (.int .i64 x2))) (first | exact ⟨ra.c2, rl.c2⟩ | exact ⟨ra3.c2, rl3.c2⟩ | exact ⟨ra4.c2, rl4.c2⟩ | go_keep) (first | (go_at_call 59; refine (chgI v2 x2 L p (w.heap.size + 1 + 1) w1.heap.size w3 d0 d1 l1 l2 hp0 hp1 (RowB.c1 rL3) (RowB.c1 rp3)).mono ?_; rintro e w4 ⟨rfl, hb4⟩; have hb4' : Below w3.heap.size w3 w4 := (by first | exact hb4 | exact ((Below.refl _ _).drew).trans hb4); have ra4 := ra3.below hb4' (by omega); have rl4 := rl3.below hb4' (by omega); have rL4 := rL3.below hb4' (by omega); have r64 := r63.below hb4' (by omega); have r74 := r73.below hb4' (by omega); have hbw4 := hbw3.trans (hb4'.mono hbw3.size); have hz4 := hb4'.size) | (go_at_call 59; refine (chgI v2 x2 L p (w.heap.size + 1 + 1) w1.heap.size w3.drew d0 d1 l1 l2 hp0 hp1 (RowB.c1 rL3) (RowB.c1 rp3)).mono ?_; rintro e w4 ⟨rfl, hb4⟩; have hb4' : Below w3.heap.size w3 w4 := (by first | exact hb4 | exact ((Below.refl _ _).drew).trans hb4); have ra4 := ra3.below hb4' (by omega); have rl4 := rl3.below hb4' (by omega); have rL4 := rL3.below hb4' (by omega); have r64 := r63.below hb4' (by omega); have r74 := r73.below hb4' (by omega); have hbw4 := hbw3.trans (hb4'.mono hbw3.size); have hz4 := hb4'.size) | (go_at_call 59; refine (chgI v1 x1 L p (w.heap.size + 1 + 1) w1.heap.size w2.drew b0 b1 l1 l2 hp0 hp1 (RowB.c1 rL) (RowB.c1 rp)).mono ?_; rintro e w3 ⟨rfl, hb3⟩; have hb3' : Below w2.heap.size w2 w3 := (by first | exact hb3 | exact ((Below.refl _ _).drew).trans hb3); have hz3 : w2.heap.size ≤ w3.heap.size := hb3'.size; have ra3 := ra.below hb3' (by omega); have rl3 := rl.below hb3' (by omega); have rL3 := rL.below hb3' (by omega); have r63 := r6.below hb3' (by omega); have r73 := r7.below hb3' (by omega); have rp3 := rp.below hb3' (by omega); have hbw3 := hbw.trans (hb3'.mono hbw.size)) | (go_at_call 59; refine (chgI v1 x1 L p (w.heap.size + 1 + 1) w1.heap.size w2 b0 b1 l1 l2 hp0 hp1 (RowB.c1 rL) (RowB.c1 rp)).mono ?_; rintro e w3 ⟨rfl, hb3⟩; have hb3' : Below w2.heap.size w2 w3 := (by first | exact hb3 | exact ((Below.refl _ _).drew).trans hb3); have hz3 : w2.heap.size ≤ w3.heap.size := hb3'.size; have ra3 := ra.below hb3' (by omega); have rl3 := rl.below hb3' (by omega); have rL3 := rL.below hb3' (by omega); have r63 := r6.below hb3' (by omega); have r73 := r7.below hb3' (by omega); have rp3 := rp.below hb3' (by omega); have hbw3 := hbw.trans (hb3'.mono hbw.size)) | fail)
  have hm1 : (if (1000000 : Int) < v1 + chg L p x1 then 1000000 else v1 + chg L p x1) = up v1 (chg L p x1) := min_if _ _
  have hm2 : (if v2 - chg L p x2 < 0 then (0 : Int) else v2 - chg L p x2) = down v2 (chg L p x2) := max_if _ _
  have hm2' : (if v2 < chg L p x2 then (0 : Int) else v2 - chg L p x2) = down v2 (chg L p x2) := by
    rw [← hm2]
    by_cases h : v2 < chg L p x2
    · rw [if_pos h, if_pos (by omega)]
    · rw [if_neg h, if_neg (by omega)]
  have hm3 : (if (100000 : Int) < x1 + L then 100000 else x1 + L) = more x1 L := min_if _ _
  have hm4 : (if (100000 : Int) < x2 + L then 100000 else x2 + L) = more x2 L := min_if _ _
  generalize hq_u : chg L p x1 = u at *
  have HQ_u := Lib.hid hq_u; clear hq_u
  generalize hq_d : chg L p x2 = d at *
  have HQ_d := Lib.hid hq_d; clear hq_d
  generalize hq_m1 : up v1 u = m1 at *
  have HQ_m1 := Lib.hid hq_m1; clear hq_m1
  generalize hq_m2 : down v2 d = m2 at *
  have HQ_m2 := Lib.hid hq_m2; clear hq_m2
  generalize hq_m3 : more x1 L = m3 at *
  have HQ_m3 := Lib.hid hq_m3; clear hq_m3
  generalize hq_m4 : more x2 L = m4 at *
  have HQ_m4 := Lib.hid hq_m4; clear hq_m4
  clear ra rl rL r6 r7 rp ra3 rl3 rL3 r63 r73 rp3 hb4' hb3' hb4 hb3 hbw hbw3
  have f1 := ra4.frozen
  have f2 := rl4.frozen
  obtain ⟨k0, k1⟩ := ra4.c2
  obtain ⟨k2, k3⟩ := rl4.c2
  have k4 := rL4.c1
  have hn1 := ra4.lt
  have hn7 := r74.lt
  go_upto_region 8 with (fail)
  refine wp_gen (fun W' => Below w.heap.size w W' ∧ RowB W' w.heap.size 33 [.int .i64 m1, .int .i64 m3] ∧ RowB W' (w.heap.size + 1) 33 [.int .i64 m2, .int .i64 m4] ∧ RowB W' (w.heap.size + 1 + 1 + 1) 33 [.int .i64 0, .int .i64 0] ∧ RowB W' (w.heap.size + 1 + 1 + 1 + 1) 33 [.int .i64 0, .int .i64 0]) ⟨?_, ?_, ?_, ?_, ?_⟩ ?_
  · exact (((hbw4.setCell (by simp <;> omega) _).setCell (by simp <;> omega) _).setCell (by simp <;> omega) _).setCell (by simp <;> omega) _
  · exact RowB.other (RowB.set (RowB.other (RowB.set ra4 0 _) (by simp <;> omega) _) 1 _) (by simp <;> omega) _
  · exact RowB.set (RowB.other (RowB.set (RowB.other rl4 (by simp <;> omega) _) 0 _) (by simp <;> omega) _) 1 _
  · exact (RowB.other (RowB.other (RowB.other (RowB.other r64 (by simp <;> omega) _) (by simp <;> omega) _) (by simp <;> omega) _) (by simp <;> omega) _)
  · exact (RowB.other (RowB.other (RowB.other (RowB.other r74 (by simp <;> omega) _) (by simp <;> omega) _) (by simp <;> omega) _) (by simp <;> omega) _)
  clear k0 k1 k2 k3 k4 f1 f2 ra4 rl4 rL4 r64 r74 hbw4 hm1 hm2 hm2' hm3 hm4
  rintro W5 ⟨hb5, ra, rl, r6, r7⟩
  obtain ⟨k0, k1⟩ := ra.c2
  obtain ⟨k2, k3⟩ := rl.c2
  obtain ⟨s0, s1⟩ := r6.c2
  obtain ⟨s2, s3⟩ := r7.c2
  have f6 := r6.frozen
  have f7 := r7.frozen
  have hn7 := r7.lt
  go_region
  all_goals
    go_wp2_with fail
    refine bp_gen (fun W' => Below w.heap.size w W' ∧ RowB W' (w.heap.size + 1 + 1 + 1) 33 [.int .i64 m1, .int .i64 m3] ∧ RowB W' (w.heap.size + 1 + 1 + 1 + 1) 33 [.int .i64 m2, .int .i64 m4]) ⟨((((hb5.setCell (by simp <;> omega) _).setCell (by simp <;> omega) _).setCell (by simp <;> omega) _).setCell (by simp <;> omega) _).drew, RowB.drew (RowB.other (RowB.other (RowB.set (RowB.set r6 0 _) 1 _) (by simp <;> omega) _) (by simp <;> omega) _), RowB.drew (RowB.set (RowB.set (RowB.other (RowB.other r7 (by simp <;> omega) _) (by simp <;> omega) _) 0 _) 1 _)⟩ ?_
    rintro W6 ⟨hb6, q6, q7⟩
    obtain ⟨t0, t1⟩ := q6.c2
    obtain ⟨t2, t3⟩ := q7.c2
    refine bodyPost_ret (v := .tuple #[.agg #[.int .i64 m1, .int .i64 m3], .agg #[.int .i64 m2, .int .i64 m4]]) (by simp [results, Tryd.results50, go_sem, t0, t1, t2, t3]) rfl ?_
    exact ⟨by rw [HPP.out, HQ_u.out, HQ_d.out, HQ_m1.out, HQ_m2.out, HQ_m3.out, HQ_m4.out], hb6⟩

set_option maxHeartbeats 1000000 in
theorem afS (v x c L : Int) (w : World) (a0 : 0 ≤ v) (a1 : v ≤ 1000000) (b0 : 0 ≤ x) (b1 : x ≤ 100000) (c0 : -10000 ≤ c) (c1 : c ≤ 10000) (l1 : 1 ≤ L) (l2 : L ≤ 25) (m1 m3 : Int) (h1 : m1 = min 1000000 (max 0 (v + c))) (h3 : m3 = min 100000 (x + L)) :
    Calls Tryd.prog 57 #[.agg #[.int .i64 v, .int .i64 x], .int .i64 c, .int .i64 L] w fun e w' => e = .returned (.agg #[.int .i64 m1, .int .i64 m3]) ∧ Below w.heap.size w w' := by
  obtain ⟨q, hq⟩ : ∃ q, max 0 (v + c) = q := ⟨_, rfl⟩
  have k1 : (if 0 < v + c then v + c else 0) = q := by rw [← hq]; exact max_if _ _
  have k2 : (if q < 1000000 then q else 1000000) = m1 := by rw [h1, hq]; exact min_if _ _
  have k3 : (if x + L < 100000 then x + L else 100000) = m3 := by rw [h3]; exact min_if _ _
  clear h1 h3 hq
  go_enter Tryd.func57, Tryd.ntmps57
  go_wp2_with fail
  refine bp_gen (fun W' => Below w.heap.size w W' ∧ RowB W' (w.heap.size + 1) 33 [.int .i64 m1, .int .i64 m3]) ⟨by go_grown, RowB.new' _ _ _ (by simp)⟩ ?_
  rintro W6 ⟨hb6, q6⟩
  obtain ⟨t0, t1⟩ := q6.c2
  refine bodyPost_ret (v := .agg #[.int .i64 m1, .int .i64 m3]) (by simp [results, Tryd.results57, go_sem, t0, t1]) rfl ?_
  exact ⟨rfl, hb6⟩

end Go.Proofs.YtjmckpaemmjcmaaDoor.RMatch
