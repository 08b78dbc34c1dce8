/-
  The contract of the reference's l32Pairs. Conditions: each theorem's own.
-/
import Derived.Test.YtoicppnkkhajeaaPairs
import Derived.Test.YtoicppnkkhajeaaOrderS
set_option linter.unusedVariables false
namespace Go.Proofs.Ytoicppnkkhajeaa.PairsS
open Go.ChangeShapes Go.WideShapes Go.ChangeAt Go.RowKit Base Ints Tourn1 Order Own OrderS Pairs

theorem okT_parts {size : Int} {R : List Int} (h : okT size R = true) : okSz size = true ∧ (R.length : Int) < size ∧ ∀ x ∈ R, x = 0 ∨ x = 1 := by
  unfold okT at h
  simp only [Bool.and_eq_true, decide_eq_true_eq, List.all_eq_true] at h
  refine ⟨h.1, h.2.1, fun x hx => ?_⟩
  have := of_decide_eq_true (h.2.2 x hx)
  omega

theorem wn_lt {R l : List Int} {k : Nat} {x y : Int} (h : R[k]? = some x) (hy : l[2 * k + x.toNat]? = some y) (hx : x = 0 ∨ x = 1) : wn R l k = y := by
  have hk := (List.getElem?_eq_some_iff.1 h).1
  unfold wn
  rw [if_pos hk, List.getD_eq_getElem?_getD, h]
  rcases hx with rfl | rfl
  · rw [if_neg (by decide), List.getD_eq_getElem?_getD]
    simp at hy
    rw [hy]; rfl
  · rw [if_pos (by rfl), List.getD_eq_getElem?_getD]
    simp at hy
    rw [hy]; rfl
theorem wn_ge {R l : List Int} {k : Nat} (h : R.length ≤ k) : wn R l k = -1 := by unfold wn; rw [if_neg (by omega)]

set_option maxHeartbeats 4000000 in
set_option maxRecDepth 100000 in
theorem pairs_spec (n : Nat) (A : Option Addr) (cp B : Nat) (R : List Int) (w : World) (hB : B ≤ w.heap.size) (hr : RdS w B 1 enI A R) (ok : okT (n : Int) R = true) :
    Calls Try.prog 56 #[.agg #[.int .i64 n, .slice A R.length cp]] w fun e w' => (∃ v, e = .returned v ∧ OwnS w' w.heap.size w'.heap.size 2 1 enI v (pl R (seeds n) (n - 2))) ∧ Below w.heap.size w w' := by
  obtain ⟨i0, hi0, hz0, hz1, hz2⟩ := info_parts Ints.info
  obtain ⟨hs, hRn, hR⟩ := okT_parts ok
  have hR := Lib.hid hR
  clear ok
  obtain ⟨h2, h32, hsl, _⟩ := seeds_facts hs
  have C := fun w0 => order_spec n w0 hs
  clear hs
  generalize seeds (n : Int) = s at *
  have hsl : s.length = n := by omega
  have HS := Lib.hid hsl; clear hsl
  obtain ⟨q, hq⟩ : ∃ q, R.length = q := ⟨_, rfl⟩
  rw [hq] at hRn
  have HQ := Lib.hid hq
  rw [hq]
  clear hq
  go_enter Try.func56, Try.ntmps56
  go_wp2_with fail
  refine (C _).mono ?_
  rintro e w1 ⟨⟨v1, rfl, ho⟩, hb1⟩
  have rb := (RowB.new _ _ _).below hb1 (by simp)
  have hb1' : Below w.heap.size w w1 := Below.then_ (by go_grown) hb1 (by simp)
  simp only [World.size_alloc] at hb1 ho
  have hz1' : w.heap.size + 1 ≤ w1.heap.size := by simpa using hb1.size
  clear C
  obtain ⟨p0, p1⟩ := rb.c2
  go_wp2_with fail
  clear p0 p1
  go_loopw [3, 4] (fun v kk wr => ∃ k : Nat, k + 2 ≤ n ∧ kk = .int .i64 k ∧ OwnS wr (w.heap.size + 1) wr.heap.size 2 1 enI v (pl R s k) ∧ Below (w.heap.size + 1) w1 wr) (fun _ kk _ => n - (intOf kk).toNat)
  case atStart => exact ⟨0, by omega, rfl, ho, Below.refl _ _⟩
  case round =>
    obtain ⟨k, hk, rfl, hown, hb⟩ := hrel
    obtain ⟨p0, p1⟩ := (rb.below hb (Nat.lt_succ_self _)).c2
    have hbz := hb.size
    have hr' := hr.below (hb1'.trans (hb.mono (Nat.le_succ _))) hB
    obtain ⟨A', c', hv, hrd⟩ := hown.form enI_len
    have hpl : (pl R s k).length = n + k := by rw [pl_len, HS.out]
    rw [hpl] at hv
    have HP := Lib.hid hpl; clear hpl
    subst hv
    by_cases hlt : k + 2 < n
    · have hg : (n : Int) + (k : Int) < 2 * ((n : Int) - 1) := by omega
      by_cases hkq : k < q
      · obtain ⟨b, off, x, rfl, hbb, hx, hc⟩ := rdI_at hr' (by rw [HQ.out]; exact hkq)
        have hx01 := hR.out x (List.mem_of_getElem? hx)
        rcases hx01 with rfl | rfl
        · obtain ⟨b', off', y, rfl, hbb', hy, hc'⟩ := rdI_at hrd (i := 2 * k) (by rw [HP.out]; omega)
          have HW := Lib.hid (wn_lt hx (by simpa using hy) (.inl rfl))
          clear hx hy
          go_wp2_with (at_builtin; refine wpL_app rfl _ _ _ rfl (w.heap.size + 1) wr.heap.size 2 i0 (.int .i64 0) 1 8 Try.underlying22 hi0 hz0 hz1 hz2 rfl (by decide) enI_len one_I _ (pl R s k) [y] rfl (hown.alloc _) ⟨wr.heap.size, 0, none⟩ 1 1 rfl rfl (news_new (RowB.new _ _ _)) (by decide) ?c1 ?c2 ?c3 ?_)
          case c1 => rw [HP.out]; unfold maxLen; omega
          case c2 => rw [HP.out]; omega
          case c3 => go_size
          intro g cap w4 hown4 hgr4 hat4 hlt4
          have hb4 : Below (w.heap.size + 1) w1 w4 := (hb.alloc (by omega) _).grown hgr4 (by go_size) (fun g hg => (hown.block g hg).1)
          have hown5 : OwnS w4 (w.heap.size + 1) w4.heap.size 2 1 enI (.slice (some ⟨g, 0, none⟩) ((pl R s k).length + 1) cap) (pl R s (k + 1)) := by
            rw [pl, HW.out]; exact hown4
          clear hown hown4 hgr4 hat4 hb hrd p0 p1
          go_wp2_with fail
          go_roundw
          case rel => exact ⟨k + 1, by omega, by go_num, hown5, hb4⟩
          case measure => simp [intOf]; omega
        · obtain ⟨b', off', y, rfl, hbb', hy, hc'⟩ := rdI_at hrd (i := 2 * k + 1) (by rw [HP.out]; omega)
          have HW := Lib.hid (wn_lt hx (by simpa using hy) (.inr rfl))
          clear hx hy
          go_wp2_with (at_builtin; refine wpL_app rfl _ _ _ rfl (w.heap.size + 1) wr.heap.size 2 i0 (.int .i64 0) 1 8 Try.underlying22 hi0 hz0 hz1 hz2 rfl (by decide) enI_len one_I _ (pl R s k) [y] rfl (hown.alloc _) ⟨wr.heap.size, 0, none⟩ 1 1 rfl rfl (news_new (RowB.new _ _ _)) (by decide) ?c1 ?c2 ?c3 ?_)
          case c1 => rw [HP.out]; unfold maxLen; omega
          case c2 => rw [HP.out]; omega
          case c3 => go_size
          intro g cap w4 hown4 hgr4 hat4 hlt4
          have hb4 : Below (w.heap.size + 1) w1 w4 := (hb.alloc (by omega) _).grown hgr4 (by go_size) (fun g hg => (hown.block g hg).1)
          have hown5 : OwnS w4 (w.heap.size + 1) w4.heap.size 2 1 enI (.slice (some ⟨g, 0, none⟩) ((pl R s k).length + 1) cap) (pl R s (k + 1)) := by
            rw [pl, HW.out]; exact hown4
          clear hown hown4 hgr4 hat4 hb hrd p0 p1
          go_wp2_with fail
          go_roundw
          case rel => exact ⟨k + 1, by omega, by go_num, hown5, hb4⟩
          case measure => simp [intOf]; omega
      · have HW := Lib.hid (wn_ge (R := R) (l := pl R s k) (k := k) (by rw [HQ.out]; omega))
        have hd : decide ((k : Int) < (q : Int)) = false := decide_eq_false (by omega)
        go_wp2_with (at_builtin; refine wpL_app rfl _ _ _ rfl (w.heap.size + 1) wr.heap.size 2 i0 (.int .i64 0) 1 8 Try.underlying22 hi0 hz0 hz1 hz2 rfl (by decide) enI_len one_I _ (pl R s k) [-1] rfl (hown.alloc _) ⟨wr.heap.size, 0, none⟩ 1 1 rfl rfl (news_new (RowB.new _ _ _)) (by decide) ?c1 ?c2 ?c3 ?_)
        case c1 => rw [HP.out]; unfold maxLen; omega
        case c2 => rw [HP.out]; omega
        case c3 => go_size
        intro g cap w4 hown4 hgr4 hat4 hlt4
        have hb4 : Below (w.heap.size + 1) w1 w4 := (hb.alloc (by omega) _).grown hgr4 (by go_size) (fun g hg => (hown.block g hg).1)
        have hown5 : OwnS w4 (w.heap.size + 1) w4.heap.size 2 1 enI (.slice (some ⟨g, 0, none⟩) ((pl R s k).length + 1) cap) (pl R s (k + 1)) := by
          rw [pl, HW.out]; exact hown4
        clear hown hown4 hgr4 hat4 hb hrd p0 p1
        go_wp2_with fail
        go_roundw
        case rel => exact ⟨k + 1, by omega, by go_num, hown5, hb4⟩
        case measure => simp [intOf]; omega
    · obtain rfl : n = k + 2 := by omega
      have hd : decide ((((k + 2 : Nat) : Int)) + (k : Int) < 2 * (((k + 2 : Nat) : Int) - 1)) = false := decide_eq_false (by omega)
      go_wp2_with fail
      go_ret
      exact ⟨⟨_, rfl, hown.less (Nat.le_succ _)⟩, hb1'.trans (hb.mono (Nat.le_succ _))⟩
end Go.Proofs.Ytoicppnkkhajeaa.PairsS
