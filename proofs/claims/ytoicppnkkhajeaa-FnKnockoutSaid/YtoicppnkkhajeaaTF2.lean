/-
  OpenMatches, of the program and of the reference. Conditions: each theorem's own.
-/
import Derived.Test.YtoicppnkkhajeaaTF1
set_option linter.unusedVariables false
namespace Go.Proofs.Ytoicppnkkhajeaa.TF2
open Go.ChangeShapes Go.WideShapes Go.ChangeAt Go.RowKit Base Ints Tourn1 Order Own OrderS Pairs PairsS Bracket TF1

theorem tup_eq {v : Value} {c c' : Int} (h : c = c') : Ending.returned (.tuple #[v, .int .i64 c]) = Ending.returned (.tuple #[v, .int .i64 c']) := by rw [h]
def tC (size : Int) (R : List Int) : Int := if okT size R then 0 else 1
/-- Is match k open? -/
def opP (size : Int) (R : List Int) (k : Nat) : Bool := decide (wi size R k < 0) && (decide (0 ≤ en size R (2 * k)) && decide (0 ≤ en size R (2 * k + 1)))
def opL (size : Int) (R : List Int) : List Int := if okT size R then pick (opP size R) (size.toNat - 1) else []
theorem opL_len (size : Int) (R : List Int) : (opL size R).length ≤ 1048576 := by
  unfold opL
  cases h : okT size R
  · simp
  · have h1 := (seeds_facts (okT_parts h).1).2.1
    have h2 := pick_len (opP size R) (size.toNat - 1)
    simp only [if_true]
    omega

set_option maxHeartbeats 4000000 in
set_option maxRecDepth 100000 in
theorem op_impl (size : Int) (A : Option Addr) (cp B : Nat) (R : List Int) (w : World) (hB : B ≤ w.heap.size) (hr : RdS w B 1 enI A R) (h64 : I64 size) :
    Calls Try.prog 31 #[.agg #[.int .i64 size, .slice A R.length cp]] w fun e w' => (∃ v, e = .returned (.tuple #[v, .int .i64 (tC size R)]) ∧ OwnS w' w.heap.size w'.heap.size 2 1 enI v (opL size R)) ∧ Below w.heap.size w w' := by
  obtain ⟨i0, hi0, hz0, hz1, hz2⟩ := info_parts Ints.info
  have HR := Lib.hid (fun (w' : World) (hb : Below w.heap.size w w') => hr.below hb hB)
  cases hok : okT size R
  · have HVL := Lib.hid (show (opL size R) = [] by simp [opL, hok])
    have HVC := Lib.hid (show 1 = (tC size R) by simp [tC, hok])
    have HO := Lib.hid hok; clear hok
    go_enter Try.func31, Try.ntmps31
    go_wp2_with (go_at_call 23; refine (isI size A cp B R _ (by go_size) (HR.out _ (by go_grown)) h64 false HO.out).mono ?_; rintro e w1 ⟨rfl, hb1⟩)
    have hb1' : Below w.heap.size w w1 := Below.then_ (by go_grown) hb1 (by go_size)
    have hz1' := hb1'.size
    go_ret2
    refine ⟨⟨_, tup_eq HVC.out, ?_⟩, by go_grown⟩
    rw [HVL.out]
    exact OwnS.nil_ _ _ _ _ _ _
  · obtain ⟨h2, h32, _, _⟩ := seeds_facts (okT_parts hok).1
    obtain ⟨n, hn⟩ : ∃ n, n = size.toNat - 1 := ⟨_, rfl⟩
    have HN := Lib.hid hn
    have hn31 : n ≤ 31 := by omega
    have HVL := Lib.hid (show opL size R = pick (opP size R) n by simp [opL, hok, hn])
    have HVC := Lib.hid (show 0 = tC size R by simp [tC, hok])
    have HQL := Lib.hid (fun k => pick_len (opP size R) k)
    have HO := Lib.hid hok; clear hok hn
    go_enter Try.func31, Try.ntmps31
    go_wp2_with fail
    refine (isI size A cp B R _ (by go_size) (HR.out _ (by go_grown)) h64 true HO.out).mono ?_
    rintro e w1 ⟨rfl, hb1⟩
    have hb1' : Below w.heap.size w w1 := Below.then_ (by go_grown) hb1 (by go_size)
    have hz1' := hb1'.size
    have rb := (RowB.new _ _ _).below hb1 (by go_size)
    obtain ⟨p0, p1⟩ := rb.c2
    go_wp2_with fail
    refine (bracketZ size A cp B R _ (by go_size) (HR.out _ hb1') HO.out).mono ?_
    rintro e w3 ⟨⟨v, rfl, ho⟩, hb3⟩
    have hb3' : Below w.heap.size w w3 := hb1'.trans (hb3.mono hz1')
    have hz3 := hb3.size
    have rb := rb.below hb3 rb.lt
    clear p0 p1
    obtain ⟨Av, cv, rfl, hrd⟩ := ho.form enM_len
    rw [seg_len]
    rw [← HN.out]
    go_wp2_with fail
    go_loopw [4, 13] (fun v i wr => ∃ k : Nat, k ≤ n ∧ i = .int .i64 k ∧ OwnS wr w3.heap.size wr.heap.size 2 1 enI v (pick (opP size R) k) ∧ Below w3.heap.size w3 wr) (fun _ i _ => n - (intOf i).toNat)
    case atStart => exact ⟨0, Nat.zero_le _, rfl, OwnS.nil_ _ _ _ _ _ _, Below.refl _ _⟩
    case round =>
      obtain ⟨k, hk, rfl, hown, hb⟩ := hrel
      have hbz := hb.size
      by_cases hlt : k < n
      · obtain ⟨b, off, x, rfl, hbb, hx, c0, c1, c2, c3, c4⟩ := rdM_at (hrd.below hb (Nat.le_refl _)) (i := k) (by rw [seg_len, ← HN.out]; omega)
        rw [seg_at _ _ _ _ (by rw [← HN.out]; omega), Nat.zero_add] at hx
        obtain rfl : bm size R k = x := by simpa using hx
        clear hx
        simp only [bm] at c0 c1 c2 c3 c4
        have HP : Hid (opP size R k = (decide (wi size R k < 0) && (decide (0 ≤ en size R (2 * k)) && decide (0 ≤ en size R (2 * k + 1))))) := rfl
        generalize en size R (2 * k) = a0 at *
        generalize en size R (2 * k + 1) = a1 at *
        generalize wi size R k = wk at *
        by_cases g1 : wk < 0
        · by_cases g2 : 0 ≤ a0
          · by_cases g3 : 0 ≤ a1
            · have HS := Lib.hid (pick_yes (opP size R) k (by rw [HP.out]; simp [g1, g2, g3]))
              go_wp2_with (at_builtin; refine wpL_app rfl _ _ _ rfl w3.heap.size wr.heap.size 2 i0 (.int .i64 0) 1 8 Try.underlying22 hi0 hz0 hz1 hz2 rfl (by decide) enI_len one_I _ (pick (opP size R) k) [(k : Int)] rfl ((hown.alloc _).alloc _) ⟨wr.heap.size + 1, 0, none⟩ 1 1 rfl rfl (news_new (RowB.new' (wr.alloc _) _ _ (by simp))) (by decide) ?c1 ?c2 ?c3 ?_)
              case c1 => have := HQL.out k; unfold maxLen; omega
              case c2 => have := HQL.out k; omega
              case c3 => go_size
              intro g4 cap4 w4 hown4 hgr4 hat4 hlt4
              have hb4 : Below w3.heap.size w3 w4 := ((hb.alloc (by omega) _).alloc (by go_size) _).grown hgr4 (by go_size) (fun g hg => (hown.block g hg).1)
              have hown5 : OwnS w4 w3.heap.size w4.heap.size 2 1 enI (.slice (some ⟨g4, 0, none⟩) ((pick (opP size R) k).length + 1) cap4) (pick (opP size R) (k + 1)) := by
                rw [HS.out]; exact hown4
              clear hown hown4 hgr4 hat4 hb
              go_wp2_with fail
              go_roundw
              case rel => exact ⟨k + 1, by omega, by go_num, hown5, hb4⟩
              case measure => simp [intOf]; omega
            · have HS := Lib.hid (pick_no (opP size R) k (by rw [HP.out]; simp [g3]))
              have hd : decide (0 ≤ a1) = false := decide_eq_false g3
              replace g3 := Int.not_le.1 g3
              go_wp2_with fail
              go_roundw
              case rel =>
                refine ⟨k + 1, by omega, by go_num, ?_, hb.alloc (by omega) _⟩
                rw [HS.out]
                exact OwnS.more (hown.alloc _) (by go_size)
              case measure => simp [intOf]; omega
          · have HS := Lib.hid (pick_no (opP size R) k (by rw [HP.out]; simp [g2]))
            have hd : decide (0 ≤ a0) = false := decide_eq_false g2
            replace g2 := Int.not_le.1 g2
            go_wp2_with fail
            go_roundw
            case rel =>
              refine ⟨k + 1, by omega, by go_num, ?_, hb.alloc (by omega) _⟩
              rw [HS.out]
              exact OwnS.more (hown.alloc _) (by go_size)
            case measure => simp [intOf]; omega
        · have HS := Lib.hid (pick_no (opP size R) k (by rw [HP.out]; simp [g1]))
          have hd : decide (wk < 0) = false := decide_eq_false g1
          replace g1 := Int.not_lt.1 g1
          go_wp2_with fail
          go_roundw
          case rel =>
            refine ⟨k + 1, by omega, by go_num, ?_, hb.alloc (by omega) _⟩
            rw [HS.out]
            exact OwnS.more (hown.alloc _) (by go_size)
          case measure => simp [intOf]; omega
      · obtain rfl : k = n := by omega
        go_wp2_with fail
        go_ret2
        refine ⟨⟨_, tup_eq HVC.out, ?_⟩, hb3'.trans (hb.mono (by omega))⟩
        rw [HVL.out]
        exact hown.less (by omega)

set_option maxHeartbeats 4000000 in
set_option maxRecDepth 100000 in
theorem op_spec (size : Int) (A : Option Addr) (cp B : Nat) (R : List Int) (w : World) (hB : B ≤ w.heap.size) (hr : RdS w B 1 enI A R) (h64 : I64 size) :
    Calls Try.prog 30 #[.agg #[.int .i64 size, .slice A R.length cp]] w fun e w' => (∃ v, e = .returned (.tuple #[v, .int .i64 (tC size R)]) ∧ OwnS w' w.heap.size w'.heap.size 2 1 enI v (opL size R)) ∧ Below w.heap.size w w' := by
  obtain ⟨i0, hi0, hz0, hz1, hz2⟩ := info_parts Ints.info
  have HR := Lib.hid (fun (w' : World) (hb : Below w.heap.size w w') => hr.below hb hB)
  cases hok : okT size R
  · have HVL := Lib.hid (show (opL size R) = [] by simp [opL, hok])
    have HVC := Lib.hid (show 1 = (tC size R) by simp [tC, hok])
    have HO := Lib.hid hok; clear hok
    go_enter Try.func30, Try.ntmps30
    go_wp2_with (go_at_call 21; refine (isS size A cp B R _ (by go_size) (HR.out _ (by go_grown)) h64 false HO.out).mono ?_; rintro e w1 ⟨rfl, hb1⟩)
    have hb1' : Below w.heap.size w w1 := Below.then_ (by go_grown) hb1 (by go_size)
    have hz1' := hb1'.size
    go_ret2
    refine ⟨⟨_, tup_eq HVC.out, ?_⟩, by go_grown⟩
    rw [HVL.out]
    exact (RowB.new _ 2 []).own (xs := []) enI_len (by go_size) (by simp) (by decide)
  · obtain ⟨h2, h32, _, _⟩ := seeds_facts (okT_parts hok).1
    obtain ⟨n, hn⟩ : ∃ n, n = size.toNat - 1 := ⟨_, rfl⟩
    have HN := Lib.hid hn
    have hn31 : n ≤ 31 := by omega
    have hn1 : (n : Int) + 1 ≤ size := by omega
    have hn2 : size ≤ (n : Int) + 1 := by omega
    have hq := (okT_parts hok).2.1
    have HWS := Lib.hid (fun (k : Nat) (hk : k < n) => wi_sign R (okT_parts hok).1 (k := k) (by omega))
    have HVL := Lib.hid (show opL size R = pick (opP size R) n by simp [opL, hok, hn])
    have HVC := Lib.hid (show 0 = tC size R by simp [tC, hok])
    have HQL := Lib.hid (fun k => pick_len (opP size R) k)
    have HO := Lib.hid hok; clear hok hn
    go_enter Try.func30, Try.ntmps30
    go_wp2_with fail
    refine (isS size A cp B R _ (by go_size) (HR.out _ (by go_grown)) h64 true HO.out).mono ?_
    rintro e w1 ⟨rfl, hb1⟩
    have hb1' : Below w.heap.size w w1 := Below.then_ (by go_grown) hb1 (by go_size)
    have hz1' := hb1'.size
    have rb := (RowB.new _ _ _).below hb1 (by go_size)
    obtain ⟨p0, p1⟩ := rb.c2
    go_wp2_with fail
    refine (pairsZ size A cp B R _ (by go_size) (HR.out _ hb1') HO.out).mono ?_
    rintro e w3 ⟨⟨v, rfl, ho⟩, hb3⟩
    have hb3' : Below w.heap.size w w3 := hb1'.trans (hb3.mono hz1')
    have hz3 := hb3.size
    have rb := rb.below hb3 rb.lt
    clear p0 p1
    obtain ⟨Av, cv, rfl, hrd⟩ := ho.form enI_len
    rw [seg_len]
    obtain ⟨p0, p1⟩ := rb.c2
    have rblt := rb.lt
    have hqn : R.length ≤ n := by omega
    have HP0 := Lib.hid (pick_none (opP size R) R.length (fun i hi => by have := (HWS.out i (by omega)).2.2.1 hi; simp [opP]; omega))
    have hm2 : 2 * n ≤ 2 * size.toNat - 2 := by have := HN.out; omega
    have hm3 : 2 * size.toNat - 2 ≤ 2 * n := by have := HN.out; omega
    go_wp2_with fail
    clear p0 p1
    go_loopw [5, 6] (fun v i wr => ∃ k : Nat, R.length ≤ k ∧ k ≤ n ∧ i = .int .i64 k ∧ OwnS wr w3.heap.size wr.heap.size 2 1 enI v (pick (opP size R) k) ∧ Below w3.heap.size w3 wr) (fun _ i _ => n - (intOf i).toNat)
    case atStart =>
      refine ⟨R.length, Nat.le_refl _, by omega, rfl, ?_, by go_grown⟩
      rw [HP0.out]
      exact (RowB.new _ 2 []).own (xs := []) enI_len (Nat.le_refl _) (by simp) (by decide)
    case round =>
      obtain ⟨k, hk0, hk, rfl, hown, hb⟩ := hrel
      have hbz := hb.size
      obtain ⟨p0, p1⟩ := (rb.below hb rblt).c2
      by_cases hlt : k < n
      · obtain ⟨b, off, x, rfl, hbb, hx, hc⟩ := rdI_at (hrd.below hb (Nat.le_refl _)) (i := 2 * k) (by rw [seg_len]; omega)
        obtain ⟨b', off', y, he, _, hy, hc'⟩ := rdI_at (hrd.below hb (Nat.le_refl _)) (i := 2 * k + 1) (by rw [seg_len]; omega)
        simp only [Option.some.injEq, Addr.mk.injEq, and_true] at he
        obtain ⟨rfl, rfl⟩ := he
        rw [seg_at _ _ _ _ (by omega), Nat.zero_add] at hx hy
        obtain rfl : en size R (2 * k) = x := by simpa using hx
        obtain rfl : en size R (2 * k + 1) = y := by simpa using hy
        clear hx hy
        have HP : Hid (opP size R k = (decide (0 ≤ en size R (2 * k)) && decide (0 ≤ en size R (2 * k + 1)))) := by
          have h1 := (HWS.out k hlt).2.2.2 hk0
          unfold opP
          rw [h1]; rfl
        generalize en size R (2 * k) = a0 at *
        generalize en size R (2 * k + 1) = a1 at *
        have hg : (k : Int) < size - 1 := by omega
        have x1 : 2 * (k : Int) < ((2 * size.toNat - 2 : Nat) : Int) := by omega
        have x2 : 2 * (k : Int) + 1 < ((2 * size.toNat - 2 : Nat) : Int) := by omega
        by_cases g2 : 0 ≤ a0
        · by_cases g3 : 0 ≤ a1
          · have HS := Lib.hid (pick_yes (opP size R) k (by rw [HP.out]; simp [g2, g3]))
            go_wp2_with (at_builtin; refine wpL_app rfl _ _ _ rfl w3.heap.size wr.heap.size 2 i0 (.int .i64 0) 1 8 Try.underlying22 hi0 hz0 hz1 hz2 rfl (by decide) enI_len one_I _ (pick (opP size R) k) [(k : Int)] rfl (hown.alloc _) ⟨wr.heap.size, 0, none⟩ 1 1 rfl rfl (news_new (RowB.new _ _ _)) (by decide) ?c1 ?c2 ?c3 ?_)
            case c1 => have := HQL.out k; unfold maxLen; omega
            case c2 => have := HQL.out k; omega
            case c3 => go_size
            intro g4 cap4 w4 hown4 hgr4 hat4 hlt4
            have hb4 : Below w3.heap.size w3 w4 := (hb.alloc (by omega) _).grown hgr4 (by go_size) (fun g hg => (hown.block g hg).1)
            have hown5 : OwnS w4 w3.heap.size w4.heap.size 2 1 enI (.slice (some ⟨g4, 0, none⟩) ((pick (opP size R) k).length + 1) cap4) (pick (opP size R) (k + 1)) := by
              rw [HS.out]; exact hown4
            clear hown hown4 hgr4 hat4 hb
            go_wp2_with fail
            go_roundw
            case rel => exact ⟨k + 1, by omega, by omega, by go_num, hown5, hb4⟩
            case measure => simp [intOf]; omega
          · have HS := Lib.hid (pick_no (opP size R) k (by rw [HP.out]; simp [g3]))
            have hd : decide (0 ≤ a1) = false := decide_eq_false g3
            replace g3 := Int.not_le.1 g3
            go_wp2_with fail
            go_roundw
            case rel =>
              refine ⟨k + 1, by omega, by omega, by go_num, ?_, hb⟩
              rw [HS.out]
              exact OwnS.more hown (by go_size)
            case measure => simp [intOf]; omega
        · have HS := Lib.hid (pick_no (opP size R) k (by rw [HP.out]; simp [g2]))
          have hd : decide (0 ≤ a0) = false := decide_eq_false g2
          replace g2 := Int.not_le.1 g2
          go_wp2_with fail
          go_roundw
          case rel =>
            refine ⟨k + 1, by omega, by omega, by go_num, ?_, hb⟩
            rw [HS.out]
            exact OwnS.more hown (by go_size)
          case measure => simp [intOf]; omega
      · obtain rfl : k = n := by omega
        have hd : decide ((k : Int) < size - 1) = false := decide_eq_false (by omega)
        go_wp2_with fail
        go_ret2
        refine ⟨⟨_, tup_eq HVC.out, ?_⟩, hb3'.trans (hb.mono (by omega))⟩
        rw [HVL.out]
        exact hown.less (by omega)

end Go.Proofs.Ytoicppnkkhajeaa.TF2
