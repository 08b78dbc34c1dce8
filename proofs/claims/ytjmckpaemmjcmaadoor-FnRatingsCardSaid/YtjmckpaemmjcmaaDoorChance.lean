/-
  The chance of a player, of the program and of the reference. Conditions: each theorem's own.
-/
import Derived.Test.YtjmckpaemmjcmaaDoorRating
import Derived.Deep.QuietTactic
import Derived.BigQuiet
import Derived.Deep.Draws
set_option linter.unusedVariables false
namespace Go.Proofs.YtjmckpaemmjcmaaDoor.Chance
open Go.ChangeShapes Go.WideShapes Go.ChangeAt Go.RowKit Base Rating

def tab : List Int := [500, 557, 613, 666, 715, 760, 799, 834, 863, 888, 909]
/-- The chance at a scaled difference of at least 0. -/
def chP (x : Int) : Int := if 2000 ≤ x then 909 else tab.getD (x / 200).toNat 0 + (tab.getD ((x / 200).toNat + 1) 0 - tab.getD (x / 200).toNat 0) * (x % 200) / 200
def chN (d L : Int) : Int := chP (d * fac L / 10000)
def ch (d L : Int) : Int := if d < 0 then 1000 - chN (-d) L else chN d L

theorem facGo_bd (L : Int) : ∀ n : Nat, 0 ≤ facGo L n ∧ facGo L n ≤ n
  | 0 => by unfold facGo; omega
  | n + 1 => by
    have := facGo_bd L n
    unfold facGo
    split <;> omega
theorem fac_bd (L : Int) : 0 ≤ fac L ∧ fac L ≤ 500 := facGo_bd L 500
theorem mul_bd {a b A B : Int} (a0 : 0 ≤ a) (a1 : a ≤ A) (b0 : 0 ≤ b) (b1 : b ≤ B) : 0 ≤ a * b ∧ a * b ≤ A * B := ⟨Int.mul_nonneg a0 b0, Int.mul_le_mul a1 b1 b0 (by omega)⟩
theorem tab_step (k : Nat) (h : k ≤ 9) : 500 ≤ tab.getD k 0 ∧ tab.getD k 0 ≤ 909 ∧ 0 ≤ tab.getD (k + 1) 0 - tab.getD k 0 ∧ tab.getD (k + 1) 0 - tab.getD k 0 ≤ 57 := by
  have key : ∀ m : Fin 10, 500 ≤ tab.getD m.val 0 ∧ tab.getD m.val 0 ≤ 909 ∧ 0 ≤ tab.getD (m.val + 1) 0 - tab.getD m.val 0 ∧ tab.getD (m.val + 1) 0 - tab.getD m.val 0 ≤ 57 := by decide
  exact key ⟨k, by omega⟩

set_option maxHeartbeats 1000000 in
theorem pos_impl (d L : Int) (w : World) (h0 : 0 ≤ d) (h1 : d ≤ 1000000) (l1 : 1 ≤ L) (l2 : L ≤ 25) (tb : ∀ i : Nat, i < 11 → w.cell? ⟨0, i, none⟩ = some (.int .i64 (tab.getD i 0))) :
    Calls Tryd.prog 42 #[.int .i64 d, .int .i64 L] w fun e w' => e = .returned (.int .i64 (chN d L)) ∧ Below w.heap.size w w' := by
  have hb := fac_bd L
  unfold chN
  have C := fun w0 => fac_impl L w0 l1 l2
  generalize fac L = f at hb C
  have C := Lib.hid C
  obtain ⟨f0, f1⟩ := hb
  obtain ⟨p0, p1⟩ := mul_bd h0 h1 f0 f1
  generalize hxe : d * f / 10000 = x
  have x0 : 0 ≤ x := by rw [← hxe]; omega
  by_cases hx : 2000 ≤ x
  · have HV := Lib.hid (show chP x = 909 by unfold chP; rw [if_pos hx])
    go_enter Tryd.func42, Tryd.ntmps42
    go_wp2_with (go_at_call 47; refine (C.out _).mono ?_; rintro r w' ⟨rfl, rfl⟩)
    go_ret
    exact ⟨ret1 (by rw [HV.out]), Below.refl _ _⟩
  · obtain ⟨k, hk⟩ : ∃ k : Nat, x / 200 = k := ⟨(x / 200).toNat, by omega⟩
    obtain ⟨r, hr⟩ : ∃ r : Int, x % 200 = r := ⟨_, rfl⟩
    have k9 : k ≤ 9 := by omega
    have r0 : 0 ≤ r := by omega
    have r1 : r ≤ 199 := by omega
    have HV : chP x = tab.getD k 0 + (tab.getD (k + 1) 0 - tab.getD k 0) * r / 200 := by
      unfold chP
      rw [if_neg hx, hk, hr]
      simp
    obtain ⟨t0, t1, t2, t3⟩ := tab_step k k9
    have c0 := tb k (by omega)
    have c1 := tb (k + 1) (by omega)
    generalize tab.getD k 0 = a at *
    generalize tab.getD (k + 1) 0 = b at *
    have HV := Lib.hid HV
    obtain ⟨m0, m1⟩ := mul_bd t2 t3 r0 r1
    have hx' : ¬ 2000 ≤ x := hx
    clear tb
    have e1 : IntKind.i64.wrap ((k : Int) + 1) = (k : Int) + 1 := IntWalk.i64_in _ (by omega)
    have e2 : IntKind.i64.wrap (b - a) = b - a := IntWalk.i64_in _ (by omega)
    have e3 : IntKind.i64.wrap ((b - a) * r) = (b - a) * r := IntWalk.i64_in _ (by omega)
    have e4 : IntKind.i64.wrap (a + (b - a) * r / 200) = a + (b - a) * r / 200 := IntWalk.i64_in _ (by omega)
    go_enter Tryd.func42, Tryd.ntmps42
    go_wp2_with (go_at_call 47; refine (C.out _).mono ?_; rintro r w' ⟨rfl, rfl⟩)
    go_quiet (fail)
    go_wp2
    go_ret
    exact ⟨ret1 (by rw [HV.out]), below_drewN (Below.refl _ _) _⟩
set_option maxHeartbeats 1000000 in
theorem pos_spec (d L : Int) (w : World) (h0 : 0 ≤ d) (h1 : d ≤ 1000000) (l1 : 1 ≤ L) (l2 : L ≤ 25) :
    Calls Tryd.prog 39 #[.int .i64 d, .int .i64 L] w fun e w' => e = .returned (.int .i64 (chN d L)) ∧ Below w.heap.size w w' := by
  have hb := fac_bd L
  unfold chN
  have C := fun w0 => fac_spec L w0 l1 l2
  generalize fac L = f at hb C
  have C := Lib.hid C
  obtain ⟨f0, f1⟩ := hb
  obtain ⟨p0, p1⟩ := mul_bd h0 h1 f0 f1
  generalize hxe : d * f / 10000 = x
  have x0 : 0 ≤ x := by rw [← hxe]; omega
  by_cases hx : 2000 ≤ x
  · have HV := Lib.hid (show chP x = 909 by unfold chP; rw [if_pos hx])
    go_enter Tryd.func39, Tryd.ntmps39
    go_wp2_with (go_at_call 56; refine (C.out _).mono ?_; rintro r w' ⟨rfl, rfl⟩)
    go_ret
    exact ⟨ret1 (by rw [HV.out]), by go_grown⟩
  · obtain ⟨k, hk⟩ : ∃ k : Nat, x / 200 = k := ⟨(x / 200).toNat, by omega⟩
    obtain ⟨r, hr⟩ : ∃ r : Int, x % 200 = r := ⟨_, rfl⟩
    have k9 : k ≤ 9 := by omega
    have r0 : 0 ≤ r := by omega
    have r1 : r ≤ 199 := by omega
    have HV : chP x = tab.getD k 0 + (tab.getD (k + 1) 0 - tab.getD k 0) * r / 200 := by
      unfold chP
      rw [if_neg hx, hk, hr]
      simp
    obtain ⟨t0, t1, t2, t3⟩ := tab_step k k9
    have tb : ∀ i : Nat, i < 11 → (w.alloc (.cells #[.int .i64 500, .int .i64 557, .int .i64 613, .int .i64 666, .int .i64 715, .int .i64 760, .int .i64 799, .int .i64 834, .int .i64 863, .int .i64 888, .int .i64 909] 2)).cell? ⟨w.heap.size, i, none⟩ = some (.int .i64 (tab.getD i 0)) := fun i hi => by
      refine ((RowB.new w 2 [.int .i64 500, .int .i64 557, .int .i64 613, .int .i64 666, .int .i64 715, .int .i64 760, .int .i64 799, .int .i64 834, .int .i64 863, .int .i64 888, .int .i64 909]).cell i).trans ?_
      have key : ∀ m : Fin 11, ([.int .i64 500, .int .i64 557, .int .i64 613, .int .i64 666, .int .i64 715, .int .i64 760, .int .i64 799, .int .i64 834, .int .i64 863, .int .i64 888, .int .i64 909] : List Value)[m.val]? = some (.int .i64 (tab.getD m.val 0)) := fun m => by
        match m with
        | 0 => rfl
        | 1 => rfl
        | 2 => rfl
        | 3 => rfl
        | 4 => rfl
        | 5 => rfl
        | 6 => rfl
        | 7 => rfl
        | 8 => rfl
        | 9 => rfl
        | 10 => rfl
      exact key ⟨i, hi⟩
    have c0 := tb k (by omega)
    have c1 := tb (k + 1) (by omega)
    generalize tab.getD k 0 = a at *
    generalize tab.getD (k + 1) 0 = b at *
    have HV := Lib.hid HV
    obtain ⟨m0, m1⟩ := mul_bd t2 t3 r0 r1
    have hx' : ¬ 2000 ≤ x := hx
    clear tb
    have e1 : IntKind.i64.wrap ((k : Int) + 1) = (k : Int) + 1 := IntWalk.i64_in _ (by omega)
    have e2 : IntKind.i64.wrap (b - a) = b - a := IntWalk.i64_in _ (by omega)
    have e3 : IntKind.i64.wrap ((b - a) * r) = (b - a) * r := IntWalk.i64_in _ (by omega)
    have e4 : IntKind.i64.wrap (a + (b - a) * r / 200) = a + (b - a) * r / 200 := IntWalk.i64_in _ (by omega)
    go_enter Tryd.func39, Tryd.ntmps39
    go_wp2_with (go_at_call 56; refine (C.out _).mono ?_; rintro r w' ⟨rfl, rfl⟩)
    go_quiet (fail)
    go_wp2
    go_ret
    exact ⟨ret1 (by rw [HV.out]), below_drewN (by go_grown) _⟩

theorem chP_bd (x : Int) (h : 0 ≤ x) : 500 ≤ chP x ∧ chP x ≤ 1000 := by
  unfold chP
  split
  · omega
  · obtain ⟨k, hk⟩ : ∃ k : Nat, (x / 200).toNat = k := ⟨_, rfl⟩
    rw [hk]
    obtain ⟨t0, t1, t2, t3⟩ := tab_step k (by omega)
    obtain ⟨m0, m1⟩ := mul_bd t2 t3 (show 0 ≤ x % 200 by omega) (show x % 200 ≤ 199 by omega)
    omega
theorem chN_bd (d L : Int) (h : 0 ≤ d) : 500 ≤ chN d L ∧ chN d L ≤ 1000 := by
  refine chP_bd _ ?_
  have := Int.mul_nonneg h (fac_bd L).1
  omega

set_option maxHeartbeats 1000000 in
theorem ch_impl (d L : Int) (w : World) (h0 : -1000000 ≤ d) (h1 : d ≤ 1000000) (l1 : 1 ≤ L) (l2 : L ≤ 25) (tb : ∀ i : Nat, i < 11 → w.cell? ⟨0, i, none⟩ = some (.int .i64 (tab.getD i 0))) :
    Calls Tryd.prog 42 #[.int .i64 d, .int .i64 L] w fun e w' => e = .returned (.int .i64 (ch d L)) ∧ Below w.heap.size w w' := by
  by_cases hd : d < 0
  · have HV := Lib.hid (show ch d L = 1000 - chN (-d) L by unfold ch; rw [if_pos hd])
    have C := pos_impl (-d) L w (by omega) (by omega) l1 l2 tb
    have hb := chN_bd (-d) L (by omega)
    generalize chN (-d) L = c at *
    have C := Lib.hid C
    clear tb
    obtain ⟨b0, b1⟩ := hb
    go_enter Tryd.func42, Tryd.ntmps42
    go_wp2_with (go_at_call 42; refine (C.out).mono ?_; rintro r w1 ⟨rfl, hb1⟩)
    go_ret
    exact ⟨ret1 (by rw [HV.out]), hb1⟩
  · have HV : ch d L = chN d L := by unfold ch; rw [if_neg hd]
    rw [HV]
    exact pos_impl d L w (by omega) h1 l1 l2 tb

set_option maxHeartbeats 1000000 in
theorem ch_spec (d L : Int) (w : World) (h0 : -1000000 ≤ d) (h1 : d ≤ 1000000) (l1 : 1 ≤ L) (l2 : L ≤ 25) :
    Calls Tryd.prog 39 #[.int .i64 d, .int .i64 L] w fun e w' => e = .returned (.int .i64 (ch d L)) ∧ Below w.heap.size w w' := by
  by_cases hd : d < 0
  · have HV := Lib.hid (show ch d L = 1000 - chN (-d) L by unfold ch; rw [if_pos hd])
    have C := pos_spec (-d) L w (by omega) (by omega) l1 l2
    have hb := chN_bd (-d) L (by omega)
    generalize chN (-d) L = c at *
    have C := Lib.hid C
    clear l1
    obtain ⟨b0, b1⟩ := hb
    go_enter Tryd.func39, Tryd.ntmps39
    go_wp2_with (go_at_call 39; refine (C.out).mono ?_; rintro r w1 ⟨rfl, hb1⟩)
    go_ret
    exact ⟨ret1 (by rw [HV.out]), hb1⟩
  · have HV : ch d L = chN d L := by unfold ch; rw [if_neg hd]
    rw [HV]
    exact pos_spec d L w (by omega) h1 l1 l2

theorem ret2 {a b c d : Int} (h1 : a = c) (h2 : b = d) : Ending.returned (.tuple #[.int .i64 a, .int .i64 b]) = Ending.returned (.tuple #[.int .i64 c, .int .i64 d]) := by rw [h1, h2]
def wcV (d L : Int) : Int := if (-1000000 ≤ d ∧ d ≤ 1000000) ∧ (1 ≤ L ∧ L ≤ 25) then ch d L else 0
def wcC (d L : Int) : Int := if (-1000000 ≤ d ∧ d ≤ 1000000) ∧ (1 ≤ L ∧ L ≤ 25) then 0 else 2

set_option maxHeartbeats 1000000 in
theorem wc_impl (d L : Int) (w : World) (tb : ∀ i : Nat, i < 11 → w.cell? ⟨0, i, none⟩ = some (.int .i64 (tab.getD i 0))) :
    Calls Tryd.prog 11 #[.int .i64 d, .int .i64 L] w fun e w' => e = .returned (.tuple #[.int .i64 (wcV d L), .int .i64 (wcC d L)]) ∧ Below w.heap.size w w' := by
  by_cases g : (-1000000 ≤ d ∧ d ≤ 1000000) ∧ (1 ≤ L ∧ L ≤ 25)
  · obtain ⟨⟨h0, h1⟩, l1, l2⟩ := g
    have V1 := Lib.hid (show wcV d L = ch d L by unfold wcV; rw [if_pos ⟨⟨h0, h1⟩, l1, l2⟩])
    have V2 := Lib.hid (show wcC d L = 0 by unfold wcC; rw [if_pos ⟨⟨h0, h1⟩, l1, l2⟩])
    have C := Lib.hid (ch_impl d L w h0 h1 l1 l2 tb)
    clear tb
    go_enter Tryd.func11, Tryd.ntmps11
    go_wp2_with (first | (go_at_call 42; refine (C.out).mono ?_; rintro r w1 ⟨rfl, hb1⟩) | go_in)
    go_ret2
    exact ⟨ret2 (by rw [V1.out]) (by rw [V2.out]), hb1⟩
  · have V1 := Lib.hid (show wcV d L = 0 by unfold wcV; rw [if_neg g])
    have V2 := Lib.hid (show wcC d L = 2 by unfold wcC; rw [if_neg g])
    clear tb
    by_cases u1 : -1000000 ≤ d <;> by_cases u2 : d ≤ 1000000 <;> by_cases u3 : 1 ≤ L <;> by_cases u4 : L ≤ 25
    all_goals try (exfalso; omega)
    all_goals clear g
    all_goals
      go_enter Tryd.func11, Tryd.ntmps11
      try have hd1 : decide (-1000000 ≤ d) = false := decide_eq_false (by omega)
      try have hd2 : decide (d ≤ 1000000) = false := decide_eq_false (by omega)
      try have hd3 : decide (1 ≤ L) = false := decide_eq_false (by omega)
      try have hd4 : decide (L ≤ 25) = false := decide_eq_false (by omega)
      go_wp2
      all_goals go_ret2
      all_goals exact ⟨ret2 (by rw [V1.out]) (by rw [V2.out]), Below.refl _ _⟩

set_option maxHeartbeats 1000000 in
theorem wc_spec (d L : Int) (w : World) :
    Calls Tryd.prog 10 #[.int .i64 d, .int .i64 L] w fun e w' => e = .returned (.tuple #[.int .i64 (wcV d L), .int .i64 (wcC d L)]) ∧ Below w.heap.size w w' := by
  by_cases g : (-1000000 ≤ d ∧ d ≤ 1000000) ∧ (1 ≤ L ∧ L ≤ 25)
  · obtain ⟨⟨h0, h1⟩, l1, l2⟩ := g
    have V1 := Lib.hid (show wcV d L = ch d L by unfold wcV; rw [if_pos ⟨⟨h0, h1⟩, l1, l2⟩])
    have V2 := Lib.hid (show wcC d L = 0 by unfold wcC; rw [if_pos ⟨⟨h0, h1⟩, l1, l2⟩])
    have C := Lib.hid (ch_spec d L w h0 h1 l1 l2)
    skip
    go_enter Tryd.func10, Tryd.ntmps10
    go_wp2_with (first | (go_at_call 39; refine (C.out).mono ?_; rintro r w1 ⟨rfl, hb1⟩) | go_in)
    go_ret2
    exact ⟨ret2 (by rw [V1.out]) (by rw [V2.out]), hb1⟩
  · have V1 := Lib.hid (show wcV d L = 0 by unfold wcV; rw [if_neg g])
    have V2 := Lib.hid (show wcC d L = 2 by unfold wcC; rw [if_neg g])
    skip
    by_cases u1 : -1000000 ≤ d <;> by_cases u2 : d ≤ 1000000 <;> by_cases u3 : 1 ≤ L <;> by_cases u4 : L ≤ 25
    all_goals try (exfalso; omega)
    all_goals clear g
    all_goals
      go_enter Tryd.func10, Tryd.ntmps10
      try have hd1 : decide (-1000000 ≤ d) = false := decide_eq_false (by omega)
      try have hd2 : decide (d ≤ 1000000) = false := decide_eq_false (by omega)
      try have hd3 : decide (1 ≤ L) = false := decide_eq_false (by omega)
      try have hd4 : decide (L ≤ 25) = false := decide_eq_false (by omega)
      go_wp2
      all_goals go_ret2
      all_goals exact ⟨ret2 (by rw [V1.out]) (by rw [V2.out]), Below.refl _ _⟩

theorem lawWinningChance (d L : Int) (W : World) (w0 : (Lit.int .i64 d).wf = true) (w1 : (Lit.int .i64 L).wf = true) (tb : ∀ i : Nat, i < 11 → W.cell? ⟨0, i, none⟩ = some (.int .i64 (tab.getD i 0))) (hz : 0 < W.heap.size) :
    Calls Tryd.prog 3 #[.int .i64 d, .int .i64 L] W fun e w' => e = .returned (.bool true) ∧ Below W.heap.size W w' := by
  have e1 : (wcV d L != wcV d L) = false := by simp
  have e2 : (wcC d L != wcC d L) = false := by simp
  have T := Lib.hid tb
  clear tb
  go_enter Tryd.func3, Tryd.ntmps3
  go_wp2_with fail
  refine (wc_spec d L _).mono ?_
  rintro e w1 ⟨rfl, q1⟩
  go_wp2_with fail
  refine (wc_impl d L _ (fun i hi => (q1.cell (p := ⟨0, i, none⟩) hz).trans (T.out i hi))).mono ?_
  rintro e w2 ⟨rfl, hb2⟩
  go_wp2_with fail
  go_ret
  exact ⟨rfl, q1.trans (hb2.mono q1.size)⟩
end Go.Proofs.YtjmckpaemmjcmaaDoor.Chance
