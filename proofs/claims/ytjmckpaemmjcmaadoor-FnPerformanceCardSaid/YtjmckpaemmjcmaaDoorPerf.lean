/-
  PerformanceOf, of the program and of the reference. Conditions: each theorem's own.
-/
import Derived.Test.YtjmckpaemmjcmaaDoorChance
import Derived.Deep.RegionHeld3
set_option linter.unusedVariables false
namespace Go.Proofs.YtjmckpaemmjcmaaDoor.Perf
open Go.ChangeShapes Go.WideShapes Go.ChangeAt Go.RowKit Base Rating Chance

theorem retbb {a b : Bool} (h : a = b) : Ending.returned (.bool a) = Ending.returned (.bool b) := by rw [h]
/-- Is the value v enough for so many wins? -/
def enough (r g k v : Int) : Bool := decide (1000 * k ≤ ch (v - r) 1 * g)
theorem ch_bd (d : Int) : 0 ≤ ch d 1 ∧ ch d 1 ≤ 1000 := by
  unfold ch
  split
  · have := chN_bd (-d) 1 (by omega); omega
  · have := chN_bd d 1 (by omega); omega
def bsF (r g k : Int) : Nat → Int → Int → Int
  | 0, l, _ => l
  | f + 1, l, h => if l < h then (if enough r g k ((l + h) / 2) then bsF r g k f l ((l + h) / 2) else bsF r g k f ((l + h) / 2 + 1) h) else l
theorem bs_step {r g k l h V : Int} (hl : l < h) (H : ∃ f : Nat, h - l < 2 ^ f ∧ bsF r g k f l h = V) :
    (enough r g k ((l + h) / 2) = true → ∃ f : Nat, (l + h) / 2 - l < 2 ^ f ∧ bsF r g k f l ((l + h) / 2) = V) ∧ (enough r g k ((l + h) / 2) = false → ∃ f : Nat, h - ((l + h) / 2 + 1) < 2 ^ f ∧ bsF r g k f ((l + h) / 2 + 1) h = V) := by
  obtain ⟨f, h1, h2⟩ := H
  cases f with
  | zero => simp at h1; omega
  | succ f =>
    have hp : (2 : Int) ^ (f + 1) = 2 * 2 ^ f := by rw [Int.pow_succ]; omega
    rw [hp] at h1
    rw [bsF, if_pos hl] at h2
    refine ⟨fun he => ⟨f, by omega, by rw [if_pos he] at h2; exact h2⟩, fun he => ⟨f, by omega, by rw [he] at h2; exact h2⟩⟩
theorem pow20 : (1000000 : Int) - 0 < 2 ^ 20 := by decide
theorem bs_end {r g k l V : Int} (H : ∃ f : Nat, l - l < 2 ^ f ∧ bsF r g k f l l = V) : l = V := by
  obtain ⟨f, _, h2⟩ := H
  cases f with
  | zero => exact h2
  | succ f => rw [bsF, if_neg (by omega)] at h2; exact h2
def peOk (r k g : Int) : Bool := decide (0 ≤ r ∧ r ≤ 1000000) && (decide (1 ≤ g ∧ g ≤ 1000) && decide (0 ≤ k ∧ k ≤ g))
def peC (r k g : Int) : Int := if peOk r k g then (if enough r g k 1000000 then 0 else 4) else 2
def peV (r k g : Int) : Int := if peC r k g = 0 then bsF r g k 20 0 1000000 else 0

set_option maxHeartbeats 1000000 in
theorem closure (v r g k : Int) (b1 b2 b3 : Nat) (w : World) (hr0 : 0 ≤ r) (hr1 : r ≤ 1000000) (hv0 : 0 ≤ v) (hv1 : v ≤ 1000000) (hg0 : 1 ≤ g) (hg1 : g ≤ 1000) (hk0 : 0 ≤ k) (hk1 : k ≤ 1000) (tb : ∀ i : Nat, i < 11 → w.cell? ⟨0, i, none⟩ = some (.int .i64 (tab.getD i 0))) (hz : 0 < w.heap.size)
    (c1 : w.cell? ⟨b1, 0, none⟩ = some (.int .i64 r)) (c2 : w.cell? ⟨b2, 0, none⟩ = some (.int .i64 g)) (c3 : w.cell? ⟨b3, 0, none⟩ = some (.int .i64 k)) :
    Calls Tryd.prog 43 #[.int .i64 v, .pointer (some ⟨b1, 0, none⟩), .pointer (some ⟨b2, 0, none⟩), .pointer (some ⟨b3, 0, none⟩)] w fun e w' => e = .returned (.bool (enough r g k v)) ∧ Below w.heap.size w w' := by
  have C := Lib.hid (ch_impl (v - r) 1 w.drew (by omega) (by omega) (by omega) (by omega) tb)
  have C' := Lib.hid (ch_impl (v - r) 1 w (by omega) (by omega) (by omega) (by omega) tb)
  have HV : Hid (enough r g k v = decide (1000 * k ≤ ch (v - r) 1 * g)) := rfl
  have hb := ch_bd (v - r)
  generalize ch (v - r) 1 = c at *
  obtain ⟨m0, m1⟩ := mul_bd hb.1 hb.2 (show 0 ≤ g by omega) hg1
  have l1 := World.block_lt_of_cell? w _ c1
  have l2 := World.block_lt_of_cell? w _ c2
  have l3 := World.block_lt_of_cell? w _ c3
  have e1 : IntKind.i64.wrap (v - r) = v - r := IntWalk.i64_in _ (by omega)
  have e2 : IntKind.i64.wrap (c * g) = c * g := IntWalk.i64_in _ (by omega)
  have e3 : IntKind.i64.wrap (1000 * k) = 1000 * k := IntWalk.i64_in _ (by omega)
  clear tb
  go_enter Tryd.func43, Tryd.ntmps43
  go_wp2_with fail
  go_region_held3 (fun w' => w'.cell? ⟨b1, 0, none⟩ = some (.int .i64 r) ∧ w'.cell? ⟨b2, 0, none⟩ = some (.int .i64 g) ∧ w'.cell? ⟨b3, 0, none⟩ = some (.int .i64 k)) (first | exact ⟨c1, c2, c3⟩ | exact ⟨d1, d2, d3⟩ | go_keep) (first | (go_at_call 42; refine (C.out).mono ?_; rintro e w1 ⟨rfl, hb1⟩; have d1 := (hb1.cell (p := ⟨b1, 0, none⟩) l1).trans c1; have d2 := (hb1.cell (p := ⟨b2, 0, none⟩) l2).trans c2; have d3 := (hb1.cell (p := ⟨b3, 0, none⟩) l3).trans c3) | (go_at_call 42; refine (C'.out).mono ?_; rintro e w1 ⟨rfl, hb1⟩; have d1 := (hb1.cell (p := ⟨b1, 0, none⟩) l1).trans c1; have d2 := (hb1.cell (p := ⟨b2, 0, none⟩) l2).trans c2; have d3 := (hb1.cell (p := ⟨b3, 0, none⟩) l3).trans c3) | fail)
  go_wp2_with fail
  go_ret
  exact ⟨retbb (by rw [HV.out]), by first | exact hb1 | exact ((Below.refl _ _).drew).trans hb1 | exact hb1.drew⟩
set_option maxHeartbeats 4000000 in
theorem pe_impl (r k g : Int) (w : World) (tb : ∀ i : Nat, i < 11 → w.cell? ⟨0, i, none⟩ = some (.int .i64 (tab.getD i 0))) (hz : 0 < w.heap.size) :
    Calls Tryd.prog 13 #[.int .i64 r, .int .i64 k, .int .i64 g] w fun e w' => e = .returned (.tuple #[.int .i64 (peV r k g), .int .i64 (peC r k g)]) ∧ Below w.heap.size w w' := by
  by_cases u1 : 0 ≤ r
  · by_cases u2 : r ≤ 1000000
    · by_cases u3 : 1 ≤ g
      · by_cases u4 : g ≤ 1000
        · by_cases u5 : 0 ≤ k
          · by_cases u6 : k ≤ g
            · have T := Lib.hid (fun (w' : World) (hb : Below w.heap.size w w') (i : Nat) (hi : i < 11) => (hb.cell (p := ⟨0, i, none⟩) hz).trans (tb i hi))
              have HOK := Lib.hid (show peOk r k g = true by unfold peOk; simp; omega)
              clear tb
              cases he : enough r g k 1000000
              · have HC := Lib.hid (show 4 = peC r k g by unfold peC; rw [if_pos HOK.out, he]; rfl)
                have HV := Lib.hid (show 0 = peV r k g by unfold peV; rw [if_neg (by rw [← HC.out]; decide)])
                have HE := Lib.hid he; clear he
                go_enter Tryd.func13, Tryd.ntmps13
                go_wp2_with (first | (go_at_call 43; refine (closure 1000000 r g k w.heap.size (w.heap.size + 1 + 1) (w.heap.size + 1) _ u1 u2 (by omega) (by omega) u3 u4 u5 (by omega) (T.out _ (by go_grown)) (by go_size) ?d1 ?d2 ?d3).mono ?_) | (go_at_call 40; go_in))
                case d1 => go_simp
                case d2 => go_simp
                case d3 => go_simp
                rw [HE.out]
                rintro e w2 ⟨rfl, hb2⟩
                go_wp2_with fail
                go_ret2
                exact ⟨ret2 HV.out HC.out, Below.then_ (by go_grown) hb2 (by go_size)⟩
              · have HC := Lib.hid (show 0 = peC r k g by unfold peC; rw [if_pos HOK.out, he]; rfl)
                have HV := Lib.hid (show bsF r g k 20 0 1000000 = peV r k g by unfold peV; rw [if_pos HC.out.symm])
                have H0 : Hid (∃ f : Nat, (1000000 : Int) - 0 < 2 ^ f ∧ bsF r g k f 0 1000000 = peV r k g) := Lib.hid ⟨20, pow20, HV.out⟩
                have HE := Lib.hid he; clear he HV
                generalize peV r k g = V at *
                go_enter Tryd.func13, Tryd.ntmps13
                go_wp2_with (first | (go_at_call 43; refine (closure 1000000 r g k w.heap.size (w.heap.size + 1 + 1) (w.heap.size + 1) _ u1 u2 (by omega) (by omega) u3 u4 u5 (by omega) (T.out _ (by go_grown)) (by go_size) ?d1 ?d2 ?d3).mono ?_) | (go_at_call 40; go_in))
                case d1 => go_simp
                case d2 => go_simp
                case d3 => go_simp
                rw [HE.out]
                rintro e w2 ⟨rfl, hb2⟩
                have hbw : Below w.heap.size w w2 := Below.then_ (by go_grown) hb2 (by go_size)
                have hz2 : w.heap.size ≤ w2.heap.size := hbw.size
                have CC := Lib.hid (fun (w' : World) (hb : Below w2.heap.size w2 w') => show w'.cell? ⟨w.heap.size, 0, none⟩ = some (.int .i64 r) ∧ w'.cell? ⟨w.heap.size + 1 + 1, 0, none⟩ = some (.int .i64 g) ∧ w'.cell? ⟨w.heap.size + 1, 0, none⟩ = some (.int .i64 k) from by
                  have k1 := (((RowB.new w 2 [Value.int .i64 r]).alloc _).alloc _).below hb2 (by go_size)
                  have k2 : RowB w2 (w.heap.size + 1) 2 [Value.int .i64 k] := ((RowB.new' (w.alloc _) 2 [Value.int .i64 k] (by simp)).alloc _).below hb2 (by simp)
                  have k3 : RowB w2 (w.heap.size + 1 + 1) 2 [Value.int .i64 g] := (RowB.new' ((w.alloc _).alloc _) 2 [Value.int .i64 g] (by simp)).below hb2 (by simp)
                  exact ⟨(k1.below hb k1.lt).c1, (k3.below hb k3.lt).c1, (k2.below hb k2.lt).c1⟩)
                go_wp2_with fail
                go_loopw [9, 10] (fun lv hv wr => ∃ l h : Int, lv = .int .i64 l ∧ hv = .int .i64 h ∧ 0 ≤ l ∧ l ≤ h ∧ h ≤ 1000000 ∧ Hid (∃ f : Nat, h - l < 2 ^ f ∧ bsF r g k f l h = V) ∧ Below w2.heap.size w2 wr) (fun lv hv _ => (intOf hv - intOf lv).toNat)
                case atStart => exact ⟨0, 1000000, rfl, rfl, by omega, by omega, by omega, H0, Below.refl _ _⟩
                case round =>
                  obtain ⟨l, h, rfl, rfl, hl0, hlh, hh, HF, hb⟩ := hrel
                  have hbz := hb.size
                  clear H0
                  by_cases hlt : l < h
                  · obtain ⟨s1, s2⟩ := bs_step hlt HF.out
                    have hm : Hid ((l + h) / 2 = (l + h) / 2) := rfl
                    have m0 : 0 ≤ (l + h) / 2 := by omega
                    have m1 : (l + h) / 2 ≤ 1000000 := by omega
                    have m2 : l ≤ (l + h) / 2 := by omega
                    have m3 : (l + h) / 2 < h := by omega
                    have lh0 : 0 ≤ l + h := by omega
                    have S1 := Lib.hid s1
                    have S2 := Lib.hid s2
                    clear s1 s2 HF
                    cases he2 : enough r g k ((l + h) / 2)
                    · have H2 := Lib.hid (S2.out he2)
                      have HE2 := Lib.hid he2
                      clear S1 S2 he2
                      go_wp2_with (go_at_call 43; refine (closure ((l + h) / 2) r g k w.heap.size (w.heap.size + 1 + 1) (w.heap.size + 1) _ u1 u2 m0 m1 u3 u4 u5 (by omega) (T.out _ (hbw.trans (hb.mono (by omega)))) (by omega) (CC.out _ hb).1 (CC.out _ hb).2.1 (CC.out _ hb).2.2).mono ?_; rw [HE2.out]; rintro e w4 ⟨rfl, hb4⟩)
                      go_roundw
                      case rel => exact ⟨_, _, rfl, rfl, by omega, by omega, by omega, H2, hb.trans (hb4.mono (by have := hb.size; omega))⟩
                      case measure => simp [intOf]; omega
                    · have H2 := Lib.hid (S1.out he2)
                      have HE2 := Lib.hid he2
                      clear S1 S2 he2
                      go_wp2_with (go_at_call 43; refine (closure ((l + h) / 2) r g k w.heap.size (w.heap.size + 1 + 1) (w.heap.size + 1) _ u1 u2 m0 m1 u3 u4 u5 (by omega) (T.out _ (hbw.trans (hb.mono (by omega)))) (by omega) (CC.out _ hb).1 (CC.out _ hb).2.1 (CC.out _ hb).2.2).mono ?_; rw [HE2.out]; rintro e w4 ⟨rfl, hb4⟩)
                      go_roundw
                      case rel => exact ⟨_, _, rfl, rfl, by omega, by omega, by omega, H2, hb.trans (hb4.mono (by have := hb.size; omega))⟩
                      case measure => simp [intOf]; omega
                  · obtain rfl : l = h := by omega
                    have HV := Lib.hid (bs_end HF.out)
                    clear HF
                    go_wp2_with fail
                    go_ret2
                    exact ⟨ret2 HV.out HC.out, hbw.trans (hb.mono (by omega))⟩
            · have HC := Lib.hid (show 2 = peC r k g by unfold peC; rw [if_neg (by unfold peOk; simp; omega)])
              have HV := Lib.hid (show 0 = peV r k g by unfold peV; rw [if_neg (by rw [← HC.out]; decide)])
              have hd : decide (k ≤ g) = false := decide_eq_false u6
              replace u6 := Int.not_le.1 u6
              go_enter Tryd.func13, Tryd.ntmps13
              go_wp2
              go_ret2
              exact ⟨ret2 HV.out HC.out, by go_grown⟩
          · have HC := Lib.hid (show 2 = peC r k g by unfold peC; rw [if_neg (by unfold peOk; simp; omega)])
            have HV := Lib.hid (show 0 = peV r k g by unfold peV; rw [if_neg (by rw [← HC.out]; decide)])
            have hd : decide (0 ≤ k) = false := decide_eq_false u5
            replace u5 := Int.not_le.1 u5
            go_enter Tryd.func13, Tryd.ntmps13
            go_wp2
            go_ret2
            exact ⟨ret2 HV.out HC.out, by go_grown⟩
        · have HC := Lib.hid (show 2 = peC r k g by unfold peC; rw [if_neg (by unfold peOk; simp; omega)])
          have HV := Lib.hid (show 0 = peV r k g by unfold peV; rw [if_neg (by rw [← HC.out]; decide)])
          have hd : decide (g ≤ 1000) = false := decide_eq_false u4
          replace u4 := Int.not_le.1 u4
          go_enter Tryd.func13, Tryd.ntmps13
          go_wp2
          go_ret2
          exact ⟨ret2 HV.out HC.out, by go_grown⟩
      · have HC := Lib.hid (show 2 = peC r k g by unfold peC; rw [if_neg (by unfold peOk; simp; omega)])
        have HV := Lib.hid (show 0 = peV r k g by unfold peV; rw [if_neg (by rw [← HC.out]; decide)])
        have hd : decide (1 ≤ g) = false := decide_eq_false u3
        replace u3 := Int.not_le.1 u3
        go_enter Tryd.func13, Tryd.ntmps13
        go_wp2
        go_ret2
        exact ⟨ret2 HV.out HC.out, by go_grown⟩
    · have HC := Lib.hid (show 2 = peC r k g by unfold peC; rw [if_neg (by unfold peOk; simp; omega)])
      have HV := Lib.hid (show 0 = peV r k g by unfold peV; rw [if_neg (by rw [← HC.out]; decide)])
      have hd : decide (r ≤ 1000000) = false := decide_eq_false u2
      replace u2 := Int.not_le.1 u2
      go_enter Tryd.func13, Tryd.ntmps13
      go_wp2
      go_ret2
      exact ⟨ret2 HV.out HC.out, by go_grown⟩
  · have HC := Lib.hid (show 2 = peC r k g by unfold peC; rw [if_neg (by unfold peOk; simp; omega)])
    have HV := Lib.hid (show 0 = peV r k g by unfold peV; rw [if_neg (by rw [← HC.out]; decide)])
    have hd : decide (0 ≤ r) = false := decide_eq_false u1
    replace u1 := Int.not_le.1 u1
    go_enter Tryd.func13, Tryd.ntmps13
    go_wp2
    go_ret2
    exact ⟨ret2 HV.out HC.out, by go_grown⟩

set_option maxHeartbeats 4000000 in
theorem pe_spec (r k g : Int) (w : World) :
    Calls Tryd.prog 12 #[.int .i64 r, .int .i64 k, .int .i64 g] w fun e w' => e = .returned (.tuple #[.int .i64 (peV r k g), .int .i64 (peC r k g)]) ∧ Below w.heap.size w w' := by
  by_cases u1 : 0 ≤ r
  · by_cases u2 : r ≤ 1000000
    · by_cases u3 : 1 ≤ g
      · by_cases u4 : g ≤ 1000
        · by_cases u5 : 0 ≤ k
          · by_cases u6 : k ≤ g
            · have HOK := Lib.hid (show peOk r k g = true by unfold peOk; simp; omega)
              have HCH := Lib.hid (fun w0 => ch_spec (1000000 - r) 1 w0 (by omega) (by omega) (by omega) (by omega))
              have hcb := ch_bd (1000000 - r)
              have HE0 : Hid (enough r g k 1000000 = decide (1000 * k ≤ ch (1000000 - r) 1 * g)) := rfl
              generalize ch (1000000 - r) 1 = c at *
              obtain ⟨n0, n1⟩ := mul_bd hcb.1 hcb.2 (show 0 ≤ g by omega) u4
              cases he : enough r g k 1000000
              · have HC := Lib.hid (show 4 = peC r k g by unfold peC; rw [if_pos HOK.out, he]; rfl)
                have HV := Lib.hid (show 0 = peV r k g by unfold peV; rw [if_neg (by rw [← HC.out]; decide)])
                have HE := Lib.hid he; clear he
                have g1 : c * g < 1000 * k := Int.not_le.1 (of_decide_eq_false (by rw [← HE0.out, HE.out]))
                clear HE0
                go_enter Tryd.func12, Tryd.ntmps12
                go_wp2_with (first | (go_at_call 39; refine (HCH.out _).mono ?_; rintro e w2 ⟨rfl, hb2⟩) | (go_at_call 37; go_in))
                all_goals go_ret2
                all_goals exact ⟨ret2 HV.out HC.out, hb2⟩
              · have HC := Lib.hid (show 0 = peC r k g by unfold peC; rw [if_pos HOK.out, he]; rfl)
                have HV := Lib.hid (show bsF r g k 20 0 1000000 = peV r k g by unfold peV; rw [if_pos HC.out.symm])
                have H0 : Hid (∃ f : Nat, (1000000 : Int) - 0 < 2 ^ f ∧ bsF r g k f 0 1000000 = peV r k g) := Lib.hid ⟨20, pow20, HV.out⟩
                have HE := Lib.hid he; clear he HV
                generalize peV r k g = V at *
                have g1 : 1000 * k ≤ c * g := of_decide_eq_true (by rw [← HE0.out, HE.out])
                clear HE0
                go_enter Tryd.func12, Tryd.ntmps12
                go_wp2_with (first | (go_at_call 39; refine (HCH.out _).mono ?_; rintro e w2 ⟨rfl, hb2⟩) | (go_at_call 37; go_in))
                have hbw : Below w.heap.size w w2 := hb2
                have hz2 : w.heap.size ≤ w2.heap.size := hbw.size
                go_loopw [8, 9] (fun lv hv wr => ∃ l h : Int, lv = .int .i64 l ∧ hv = .int .i64 h ∧ 0 ≤ l ∧ l ≤ h ∧ h ≤ 1000000 ∧ Hid (∃ f : Nat, h - l < 2 ^ f ∧ bsF r g k f l h = V) ∧ Below w2.heap.size w2 wr) (fun lv hv _ => (intOf hv - intOf lv).toNat)
                case atStart => exact ⟨0, 1000000, rfl, rfl, by omega, by omega, by omega, H0, Below.refl _ _⟩
                case round =>
                  obtain ⟨l, h, rfl, rfl, hl0, hlh, hh, HF, hb⟩ := hrel
                  have hbz := hb.size
                  clear H0
                  by_cases hlt : l < h
                  · obtain ⟨s1, s2⟩ := bs_step hlt HF.out
                    have hm : Hid ((l + h) / 2 = (l + h) / 2) := rfl
                    have m0 : 0 ≤ (l + h) / 2 := by omega
                    have m1 : (l + h) / 2 ≤ 1000000 := by omega
                    have m2 : l ≤ (l + h) / 2 := by omega
                    have m3 : (l + h) / 2 < h := by omega
                    have lh0 : 0 ≤ l + h := by omega
                    have S1 := Lib.hid s1
                    have S2 := Lib.hid s2
                    clear s1 s2 HF
                    cases he2 : enough r g k ((l + h) / 2)
                    · have H2 := Lib.hid (S2.out he2)
                      have HE2 := Lib.hid he2
                      clear S1 S2 he2
                      have HCM := Lib.hid (fun w0 => ch_spec ((l + h) / 2 - r) 1 w0 (by omega) (by omega) (by omega) (by omega))
                      have hcm := ch_bd ((l + h) / 2 - r)
                      have HEM : Hid (enough r g k ((l + h) / 2) = decide (1000 * k ≤ ch ((l + h) / 2 - r) 1 * g)) := rfl
                      generalize ch ((l + h) / 2 - r) 1 = cm at *
                      obtain ⟨q0, q1⟩ := mul_bd hcm.1 hcm.2 (show 0 ≤ g by omega) u4
                      have g2 : ¬ (1000 * k ≤ cm * g) := of_decide_eq_false (by rw [← HEM.out, HE2.out])
                      replace g2 := Int.not_le.1 g2
                      clear hcm n0 n1 g1
                      go_wp2_with (go_at_call 39; refine (HCM.out _).mono ?_; rintro e w4 ⟨rfl, hb4⟩)
                      go_roundw
                      case rel => exact ⟨_, _, rfl, rfl, by omega, by omega, by omega, H2, hb.trans (hb4.mono (by have := hb.size; omega))⟩
                      case measure => simp [intOf]; omega
                    · have H2 := Lib.hid (S1.out he2)
                      have HE2 := Lib.hid he2
                      clear S1 S2 he2
                      have HCM := Lib.hid (fun w0 => ch_spec ((l + h) / 2 - r) 1 w0 (by omega) (by omega) (by omega) (by omega))
                      have hcm := ch_bd ((l + h) / 2 - r)
                      have HEM : Hid (enough r g k ((l + h) / 2) = decide (1000 * k ≤ ch ((l + h) / 2 - r) 1 * g)) := rfl
                      generalize ch ((l + h) / 2 - r) 1 = cm at *
                      obtain ⟨q0, q1⟩ := mul_bd hcm.1 hcm.2 (show 0 ≤ g by omega) u4
                      have g2 : 1000 * k ≤ cm * g := of_decide_eq_true (by rw [← HEM.out, HE2.out])
                      clear hcm n0 n1 g1
                      go_wp2_with (go_at_call 39; refine (HCM.out _).mono ?_; rintro e w4 ⟨rfl, hb4⟩)
                      go_roundw
                      case rel => exact ⟨_, _, rfl, rfl, by omega, by omega, by omega, H2, hb.trans (hb4.mono (by have := hb.size; omega))⟩
                      case measure => simp [intOf]; omega
                  · obtain rfl : l = h := by omega
                    have HV := Lib.hid (bs_end HF.out)
                    clear HF
                    go_wp2_with fail
                    go_ret2
                    exact ⟨ret2 HV.out HC.out, hbw.trans (hb.mono (by omega))⟩
            · have HC := Lib.hid (show 2 = peC r k g by unfold peC; rw [if_neg (by unfold peOk; simp; omega)])
              have HV := Lib.hid (show 0 = peV r k g by unfold peV; rw [if_neg (by rw [← HC.out]; decide)])
              have hd : decide (k ≤ g) = false := decide_eq_false u6
              replace u6 := Int.not_le.1 u6
              go_enter Tryd.func12, Tryd.ntmps12
              go_wp2
              go_ret2
              exact ⟨ret2 HV.out HC.out, by go_grown⟩
          · have HC := Lib.hid (show 2 = peC r k g by unfold peC; rw [if_neg (by unfold peOk; simp; omega)])
            have HV := Lib.hid (show 0 = peV r k g by unfold peV; rw [if_neg (by rw [← HC.out]; decide)])
            have hd : decide (0 ≤ k) = false := decide_eq_false u5
            replace u5 := Int.not_le.1 u5
            go_enter Tryd.func12, Tryd.ntmps12
            go_wp2
            go_ret2
            exact ⟨ret2 HV.out HC.out, by go_grown⟩
        · have HC := Lib.hid (show 2 = peC r k g by unfold peC; rw [if_neg (by unfold peOk; simp; omega)])
          have HV := Lib.hid (show 0 = peV r k g by unfold peV; rw [if_neg (by rw [← HC.out]; decide)])
          have hd : decide (g ≤ 1000) = false := decide_eq_false u4
          replace u4 := Int.not_le.1 u4
          go_enter Tryd.func12, Tryd.ntmps12
          go_wp2
          go_ret2
          exact ⟨ret2 HV.out HC.out, by go_grown⟩
      · have HC := Lib.hid (show 2 = peC r k g by unfold peC; rw [if_neg (by unfold peOk; simp; omega)])
        have HV := Lib.hid (show 0 = peV r k g by unfold peV; rw [if_neg (by rw [← HC.out]; decide)])
        have hd : decide (1 ≤ g) = false := decide_eq_false u3
        replace u3 := Int.not_le.1 u3
        go_enter Tryd.func12, Tryd.ntmps12
        go_wp2
        go_ret2
        exact ⟨ret2 HV.out HC.out, by go_grown⟩
    · have HC := Lib.hid (show 2 = peC r k g by unfold peC; rw [if_neg (by unfold peOk; simp; omega)])
      have HV := Lib.hid (show 0 = peV r k g by unfold peV; rw [if_neg (by rw [← HC.out]; decide)])
      have hd : decide (r ≤ 1000000) = false := decide_eq_false u2
      replace u2 := Int.not_le.1 u2
      go_enter Tryd.func12, Tryd.ntmps12
      go_wp2
      go_ret2
      exact ⟨ret2 HV.out HC.out, by go_grown⟩
  · have HC := Lib.hid (show 2 = peC r k g by unfold peC; rw [if_neg (by unfold peOk; simp; omega)])
    have HV := Lib.hid (show 0 = peV r k g by unfold peV; rw [if_neg (by rw [← HC.out]; decide)])
    have hd : decide (0 ≤ r) = false := decide_eq_false u1
    replace u1 := Int.not_le.1 u1
    go_enter Tryd.func12, Tryd.ntmps12
    go_wp2
    go_ret2
    exact ⟨ret2 HV.out HC.out, by go_grown⟩

theorem lawPerformanceOf (r k g : Int) (W : World) (w0 : (Lit.int .i64 r).wf = true) (w1 : (Lit.int .i64 k).wf = true) (w2 : (Lit.int .i64 g).wf = true) (tb : ∀ i : Nat, i < 11 → W.cell? ⟨0, i, none⟩ = some (.int .i64 (tab.getD i 0))) (hz : 0 < W.heap.size) :
    Calls Tryd.prog 4 #[.int .i64 r, .int .i64 k, .int .i64 g] W fun e w' => e = .returned (.bool true) ∧ Below W.heap.size W w' := by
  have e1 : (peV r k g != peV r k g) = false := by simp
  have e2 : (peC r k g != peC r k g) = false := by simp
  have T := Lib.hid tb
  clear tb
  go_enter Tryd.func4, Tryd.ntmps4
  go_wp2_with fail
  refine (pe_spec r k g _).mono ?_
  rintro e w1 ⟨rfl, q1⟩
  go_wp2_with fail
  refine (pe_impl r k g _ (fun i hi => (q1.cell (p := ⟨0, i, none⟩) hz).trans (T.out i hi)) (Nat.lt_of_lt_of_le hz q1.size)).mono ?_
  rintro e w2 ⟨rfl, hb2⟩
  go_wp2_with fail
  go_ret
  exact ⟨rfl, q1.trans (hb2.mono q1.size)⟩

end Go.Proofs.YtjmckpaemmjcmaaDoor.Perf
