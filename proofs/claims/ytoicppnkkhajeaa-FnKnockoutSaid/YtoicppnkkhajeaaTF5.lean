/-
  MatchesOfEntrant, of the program and of the reference. Conditions: each theorem's own.
-/
import Derived.Test.YtoicppnkkhajeaaTF2
set_option linter.unusedVariables false
namespace Go.Proofs.Ytoicppnkkhajeaa.TF5
open Go.ChangeShapes Go.WideShapes Go.ChangeAt Go.RowKit Base Ints Tourn1 Order Own OrderS Pairs PairsS Bracket TF1 TF2

/-- Is an entrant known to play in match k? -/
def meP (size : Int) (R : List Int) (x : Int) (k : Nat) : Bool := decide (en size R (2 * k) = x) || decide (en size R (2 * k + 1) = x)
def meC (size : Int) (R : List Int) (x : Int) : Int := if okT size R then (if decide (0 ≤ x ∧ x ≤ size - 1) then 0 else 4) else 1
def meL (size : Int) (R : List Int) (x : Int) : List Int := if meC size R x = 0 then pick (meP size R x) (size.toNat - 1) else []
theorem meL_len (size : Int) (R : List Int) (x : Int) : (meL size R x).length ≤ 1048576 := by
  unfold meL
  by_cases h : meC size R x = 0
  · have ho : okT size R = true := by
      cases h1 : okT size R
      · simp [meC, h1] at h
      · rfl
    have h1 := (seeds_facts (okT_parts ho).1).2.1
    have h2 := pick_len (meP size R x) (size.toNat - 1)
    rw [if_pos h]
    omega
  · rw [if_neg h]; simp

set_option maxHeartbeats 4000000 in
set_option maxRecDepth 100000 in
theorem me_impl (size : Int) (A : Option Addr) (cp B : Nat) (R : List Int) (x : Int) (w : World) (hB : B ≤ w.heap.size) (hr : RdS w B 1 enI A R) (h64 : I64 size) :
    Calls Try.prog 38 #[.agg #[.int .i64 size, .slice A R.length cp], .int .i64 x] w fun e w' => (∃ v, e = .returned (.tuple #[v, .int .i64 (meC size R x)]) ∧ OwnS w' w.heap.size w'.heap.size 2 1 enI v (meL size R x)) ∧ Below w.heap.size w w' := by
  obtain ⟨i0, hi0, hz0, hz1, hz2⟩ := info_parts Ints.info
  have HR := Lib.hid (fun (w' : World) (hb : Below w.heap.size w w') => hr.below hb hB)
  cases hok : okT size R
  · have HVL := Lib.hid (show (meL size R x) = [] by simp [meL, meC, hok])
    have HVC := Lib.hid (show 1 = (meC size R x) by simp [meC, hok])
    have HO := Lib.hid hok; clear hok
    go_enter Try.func38, Try.ntmps38
    go_wp2_with (go_at_call 23; refine (isI size A cp B R _ (by go_size) (HR.out _ (by go_grown)) h64 false HO.out).mono ?_; rintro e w1 ⟨rfl, hb1⟩)
    have hb1' : Below w.heap.size w w1 := Below.then_ (by go_grown) hb1 (by go_size)
    have hz1' := hb1'.size
    go_ret2
    refine ⟨⟨_, tup_eq HVC.out, ?_⟩, by go_grown⟩
    rw [HVL.out]
    exact OwnS.nil_ _ _ _ _ _ _
  · have h2 := (seeds_facts (okT_parts hok).1).1
    have h32 := (seeds_facts (okT_parts hok).1).2.1
    cases hin : decide (0 ≤ x ∧ x ≤ size - 1)
    · have HVC := Lib.hid (show 4 = meC size R x by simp [meC, hok, hin])
      have HVL := Lib.hid (show meL size R x = [] by unfold meL; rw [if_neg (by rw [← HVC.out]; decide)])
      have HO := Lib.hid hok; clear hok
      have HI := Lib.hid hin; clear hin
      go_enter Try.func38, Try.ntmps38
      go_wp2_with fail
      refine (isI size A cp B R _ (by go_size) (HR.out _ (by go_grown)) h64 true HO.out).mono ?_
      rintro e w1 ⟨rfl, hb1⟩
      have hb1' : Below w.heap.size w w1 := Below.then_ (by go_grown) hb1 (by go_size)
      have hz1' := hb1'.size
      have rb := (RowB.new _ _ _).below hb1 (by go_size)
      obtain ⟨p0, p1⟩ := rb.c2
      go_wp2_with (go_at_call 57; refine (winI _ _ _ false HI.out _).mono ?_; rintro e w2 ⟨rfl, rfl⟩)
      go_ret2
      refine ⟨⟨_, tup_eq HVC.out, ?_⟩, by go_grown⟩
      rw [HVL.out]
      exact OwnS.nil_ _ _ _ _ _ _
    · have HVC := Lib.hid (show 0 = meC size R x by simp [meC, hok, hin])
      obtain ⟨n, hn⟩ : ∃ n, n = size.toNat - 1 := ⟨_, rfl⟩
      have HN := Lib.hid hn
      have hn31 : n ≤ 31 := by omega
      have hn1 : (n : Int) + 1 ≤ size := by omega
      have hn2 : size ≤ (n : Int) + 1 := by omega
      have HVL := Lib.hid (show meL size R x = pick (meP size R x) n by unfold meL; rw [if_pos HVC.out.symm, hn])
      have HQL := Lib.hid (fun k => pick_len (meP size R x) k)
      have hm2 : 2 * n ≤ 2 * size.toNat - 2 := by omega
      have hm3 : 2 * size.toNat - 2 ≤ 2 * n := by omega
      have HO := Lib.hid hok; clear hok hn
      have HI := Lib.hid hin; clear hin
      go_enter Try.func38, Try.ntmps38
      go_wp2_with fail
      refine (isI size A cp B R _ (by go_size) (HR.out _ (by go_grown)) h64 true HO.out).mono ?_
      rintro e w1 ⟨rfl, hb1⟩
      have hb1' : Below w.heap.size w w1 := Below.then_ (by go_grown) hb1 (by go_size)
      have hz1' := hb1'.size
      have rb := (RowB.new _ _ _).below hb1 (by go_size)
      obtain ⟨p0, p1⟩ := rb.c2
      go_wp2_with (go_at_call 57; refine (winI _ _ _ true HI.out _).mono ?_; rintro e w2 ⟨rfl, rfl⟩)
      refine (bracketZ size A cp B R _ (by go_size) (HR.out _ hb1') HO.out).mono ?_
      rintro e w3 ⟨⟨v, rfl, ho⟩, hb3⟩
      have hb3' : Below w.heap.size w w3 := hb1'.trans (hb3.mono hz1')
      have hz3 := hb3.size
      have rb := rb.below hb3 rb.lt
      clear p0 p1
      obtain ⟨Av, cv, rfl, hrd⟩ := ho.form enM_len
      rw [seg_len]
      rw [← HN.out]
      go_wp2_with fail
      go_loopw [6, 21] (fun v i wr => ∃ k : Nat, k ≤ n ∧ i = .int .i64 k ∧ OwnS wr w3.heap.size wr.heap.size 2 1 enI v (pick (meP size R x) k) ∧ Below w3.heap.size w3 wr) (fun _ i _ => n - (intOf i).toNat)
      case atStart => exact ⟨0, Nat.zero_le _, rfl, OwnS.nil_ _ _ _ _ _ _, Below.refl _ _⟩
      case round =>
        obtain ⟨k, hk, rfl, hown, hb⟩ := hrel
        have hbz := hb.size
        by_cases hlt : k < n
        · obtain ⟨b, off, y, rfl, hbb, hx, c0, c1, c2, c3, c4⟩ := rdM_at (hrd.below hb (Nat.le_refl _)) (i := k) (by rw [seg_len, ← HN.out]; omega)
          rw [seg_at _ _ _ _ (by rw [← HN.out]; omega), Nat.zero_add] at hx
          obtain rfl : bm size R k = y := by simpa using hx
          clear hx
          simp only [bm] at c0 c1 c2 c3 c4
          have HP : Hid (meP size R x k = (decide (en size R (2 * k) = x) || decide (en size R (2 * k + 1) = x))) := rfl
          generalize en size R (2 * k) = a0 at *
          generalize en size R (2 * k + 1) = a1 at *
          generalize wi size R k = wk at *
          by_cases g1 : a0 = x
          · subst g1
            have HS := Lib.hid (pick_yes (meP size R a0) k (by rw [HP.out]; simp))
            go_wp2_with (at_builtin; refine wpL_app rfl _ _ _ rfl w3.heap.size wr.heap.size 2 i0 (.int .i64 0) 1 8 Try.underlying22 hi0 hz0 hz1 hz2 rfl (by decide) enI_len one_I _ (pick (meP size R a0) k) [(k : Int)] rfl ((hown.alloc _).alloc _) ⟨wr.heap.size + 1, 0, none⟩ 1 1 rfl rfl (news_new (RowB.new' (wr.alloc _) _ _ (by simp))) (by decide) ?c1 ?c2 ?c3 ?_)
            case c1 => have := HQL.out k; unfold maxLen; omega
            case c2 => have := HQL.out k; omega
            case c3 => go_size
            intro g4 cap4 w4 hown4 hgr4 hat4 hlt4
            have hb4 : Below w3.heap.size w3 w4 := ((hb.alloc (by omega) _).alloc (by go_size) _).grown hgr4 (by go_size) (fun g hg => (hown.block g hg).1)
            have hown5 : OwnS w4 w3.heap.size w4.heap.size 2 1 enI (.slice (some ⟨g4, 0, none⟩) ((pick (meP size R a0) k).length + 1) cap4) (pick (meP size R a0) (k + 1)) := by
              rw [HS.out]; exact hown4
            clear hown hown4 hgr4 hat4 hb
            go_wp2_with fail
            go_roundw
            case rel => exact ⟨k + 1, by omega, by go_num, hown5, hb4⟩
            case measure => simp [intOf]; omega
          · have e1 : (a0 == x) = false := by simp [g1]
            by_cases g2 : a1 = x
            · subst g2
              have HS := Lib.hid (pick_yes (meP size R a1) k (by rw [HP.out]; simp))
              clear g1
              go_wp2_with (at_builtin; refine wpL_app rfl _ _ _ rfl w3.heap.size wr.heap.size 2 i0 (.int .i64 0) 1 8 Try.underlying22 hi0 hz0 hz1 hz2 rfl (by decide) enI_len one_I _ (pick (meP size R a1) k) [(k : Int)] rfl ((hown.alloc _).alloc _) ⟨wr.heap.size + 1, 0, none⟩ 1 1 rfl rfl (news_new (RowB.new' (wr.alloc _) _ _ (by simp))) (by decide) ?c1 ?c2 ?c3 ?_)
              case c1 => have := HQL.out k; unfold maxLen; omega
              case c2 => have := HQL.out k; omega
              case c3 => go_size
              intro g4 cap4 w4 hown4 hgr4 hat4 hlt4
              have hb4 : Below w3.heap.size w3 w4 := ((hb.alloc (by omega) _).alloc (by go_size) _).grown hgr4 (by go_size) (fun g hg => (hown.block g hg).1)
              have hown5 : OwnS w4 w3.heap.size w4.heap.size 2 1 enI (.slice (some ⟨g4, 0, none⟩) ((pick (meP size R a1) k).length + 1) cap4) (pick (meP size R a1) (k + 1)) := by
                rw [HS.out]; exact hown4
              clear hown hown4 hgr4 hat4 hb
              go_wp2_with fail
              go_roundw
              case rel => exact ⟨k + 1, by omega, by go_num, hown5, hb4⟩
              case measure => simp [intOf]; omega
            · have e2 : (a1 == x) = false := by simp [g2]
              have HS := Lib.hid (pick_no (meP size R x) k (by rw [HP.out]; simp [g1, g2]))
              clear g1 g2
              go_wp2_with fail
              go_roundw
              case rel =>
                refine ⟨k + 1, by omega, by go_num, ?_, hb.alloc (by omega) _⟩
                rw [HS.out]
                exact OwnS.more (hown.alloc _) (by go_size)
              case measure => simp [intOf]; omega
        · obtain rfl : k = n := by omega
          go_wp2_with fail
          go_ret2
          refine ⟨⟨_, tup_eq HVC.out, ?_⟩, hb3'.trans (hb.mono (by omega))⟩
          rw [HVL.out]
          exact hown.less (by omega)

set_option maxHeartbeats 4000000 in
set_option maxRecDepth 100000 in
theorem me_spec (size : Int) (A : Option Addr) (cp B : Nat) (R : List Int) (x : Int) (w : World) (hB : B ≤ w.heap.size) (hr : RdS w B 1 enI A R) (h64 : I64 size) :
    Calls Try.prog 37 #[.agg #[.int .i64 size, .slice A R.length cp], .int .i64 x] w fun e w' => (∃ v, e = .returned (.tuple #[v, .int .i64 (meC size R x)]) ∧ OwnS w' w.heap.size w'.heap.size 2 1 enI v (meL size R x)) ∧ Below w.heap.size w w' := by
  obtain ⟨i0, hi0, hz0, hz1, hz2⟩ := info_parts Ints.info
  have HR := Lib.hid (fun (w' : World) (hb : Below w.heap.size w w') => hr.below hb hB)
  cases hok : okT size R
  · have HVL := Lib.hid (show (meL size R x) = [] by simp [meL, meC, hok])
    have HVC := Lib.hid (show 1 = (meC size R x) by simp [meC, hok])
    have HO := Lib.hid hok; clear hok
    go_enter Try.func37, Try.ntmps37
    go_wp2_with (go_at_call 21; refine (isS size A cp B R _ (by go_size) (HR.out _ (by go_grown)) h64 false HO.out).mono ?_; rintro e w1 ⟨rfl, hb1⟩)
    have hb1' : Below w.heap.size w w1 := Below.then_ (by go_grown) hb1 (by go_size)
    have hz1' := hb1'.size
    go_ret2
    refine ⟨⟨_, tup_eq HVC.out, ?_⟩, by go_grown⟩
    rw [HVL.out]
    exact (RowB.new _ 2 []).own (xs := []) enI_len (by go_size) (by simp) (by decide)
  · have h2 := (seeds_facts (okT_parts hok).1).1
    have h32 := (seeds_facts (okT_parts hok).1).2.1
    cases hin : decide (0 ≤ x ∧ x ≤ size - 1)
    · have HVC := Lib.hid (show 4 = meC size R x by simp [meC, hok, hin])
      have HVL := Lib.hid (show meL size R x = [] by unfold meL; rw [if_neg (by rw [← HVC.out]; decide)])
      have HO := Lib.hid hok; clear hok
      have HI := Lib.hid hin; clear hin
      go_enter Try.func37, Try.ntmps37
      go_wp2_with fail
      refine (isS size A cp B R _ (by go_size) (HR.out _ (by go_grown)) h64 true HO.out).mono ?_
      rintro e w1 ⟨rfl, hb1⟩
      have hb1' : Below w.heap.size w w1 := Below.then_ (by go_grown) hb1 (by go_size)
      have hz1' := hb1'.size
      have rb := (RowB.new _ _ _).below hb1 (by go_size)
      obtain ⟨p0, p1⟩ := rb.c2
      go_wp2_with (go_at_call 53; refine (winS _ _ _ false HI.out _).mono ?_; rintro e w2 ⟨rfl, rfl⟩)
      go_ret2
      refine ⟨⟨_, tup_eq HVC.out, ?_⟩, by go_grown⟩
      rw [HVL.out]
      exact (RowB.new _ 2 []).own (xs := []) enI_len (by go_size) (by simp) (by decide)
    · have HVC := Lib.hid (show 0 = meC size R x by simp [meC, hok, hin])
      obtain ⟨n, hn⟩ : ∃ n, n = size.toNat - 1 := ⟨_, rfl⟩
      have HN := Lib.hid hn
      have hn31 : n ≤ 31 := by omega
      have hn1 : (n : Int) + 1 ≤ size := by omega
      have hn2 : size ≤ (n : Int) + 1 := by omega
      have HVL := Lib.hid (show meL size R x = pick (meP size R x) n by unfold meL; rw [if_pos HVC.out.symm, hn])
      have HQL := Lib.hid (fun k => pick_len (meP size R x) k)
      have hm2 : 2 * n ≤ 2 * size.toNat - 2 := by omega
      have hm3 : 2 * size.toNat - 2 ≤ 2 * n := by omega
      have HO := Lib.hid hok; clear hok hn
      have HI := Lib.hid hin; clear hin
      go_enter Try.func37, Try.ntmps37
      go_wp2_with fail
      refine (isS size A cp B R _ (by go_size) (HR.out _ (by go_grown)) h64 true HO.out).mono ?_
      rintro e w1 ⟨rfl, hb1⟩
      have hb1' : Below w.heap.size w w1 := Below.then_ (by go_grown) hb1 (by go_size)
      have hz1' := hb1'.size
      have rb := (RowB.new _ _ _).below hb1 (by go_size)
      obtain ⟨p0, p1⟩ := rb.c2
      go_wp2_with (go_at_call 53; refine (winS _ _ _ true HI.out _).mono ?_; rintro e w2 ⟨rfl, rfl⟩)
      refine (pairsZ size A cp B R _ (by go_size) (HR.out _ hb1') HO.out).mono ?_
      rintro e w3 ⟨⟨v, rfl, ho⟩, hb3⟩
      have hb3' : Below w.heap.size w w3 := hb1'.trans (hb3.mono hz1')
      have hz3 := hb3.size
      have rb := rb.below hb3 rb.lt
      clear p0 p1
      obtain ⟨Av, cv, rfl, hrd⟩ := ho.form enI_len
      rw [seg_len]
      have rblt := rb.lt
      go_wp2_with fail
      go_loopw [7, 8] (fun v i wr => ∃ k : Nat, k ≤ n ∧ i = .int .i64 k ∧ OwnS wr w3.heap.size wr.heap.size 2 1 enI v (pick (meP size R x) k) ∧ Below w3.heap.size w3 wr) (fun _ i _ => n - (intOf i).toNat)
      case atStart => exact ⟨0, Nat.zero_le _, rfl, (RowB.new _ 2 []).own (xs := []) enI_len (Nat.le_refl _) (by simp) (by decide), by go_grown⟩
      case round =>
        obtain ⟨k, hk, rfl, hown, hb⟩ := hrel
        have hbz := hb.size
        obtain ⟨p0, p1⟩ := (rb.below hb rblt).c2
        by_cases hlt : k < n
        · obtain ⟨b, off, y, rfl, hbb, hx, hc⟩ := rdI_at (hrd.below hb (Nat.le_refl _)) (i := 2 * k) (by rw [seg_len]; omega)
          obtain ⟨b', off', z, he, _, hy, hc'⟩ := rdI_at (hrd.below hb (Nat.le_refl _)) (i := 2 * k + 1) (by rw [seg_len]; omega)
          simp only [Option.some.injEq, Addr.mk.injEq, and_true] at he
          obtain ⟨rfl, rfl⟩ := he
          rw [seg_at _ _ _ _ (by omega), Nat.zero_add] at hx hy
          obtain rfl : en size R (2 * k) = y := by simpa using hx
          obtain rfl : en size R (2 * k + 1) = z := by simpa using hy
          clear hx hy
          have HP : Hid (meP size R x k = (decide (en size R (2 * k) = x) || decide (en size R (2 * k + 1) = x))) := rfl
          generalize en size R (2 * k) = a0 at *
          generalize en size R (2 * k + 1) = a1 at *
          have hg : (k : Int) < size - 1 := by omega
          have x1 : 2 * (k : Int) < ((2 * size.toNat - 2 : Nat) : Int) := by omega
          have x2 : 2 * (k : Int) + 1 < ((2 * size.toNat - 2 : Nat) : Int) := by omega
          by_cases g1 : a0 = x
          · subst g1
            have HS := Lib.hid (pick_yes (meP size R a0) k (by rw [HP.out]; simp))
            go_wp2_with (at_builtin; refine wpL_app rfl _ _ _ rfl w3.heap.size wr.heap.size 2 i0 (.int .i64 0) 1 8 Try.underlying22 hi0 hz0 hz1 hz2 rfl (by decide) enI_len one_I _ (pick (meP size R a0) k) [(k : Int)] rfl (hown.alloc _) ⟨wr.heap.size, 0, none⟩ 1 1 rfl rfl (news_new (RowB.new _ _ _)) (by decide) ?c1 ?c2 ?c3 ?_)
            case c1 => have := HQL.out k; unfold maxLen; omega
            case c2 => have := HQL.out k; omega
            case c3 => go_size
            intro g4 cap4 w4 hown4 hgr4 hat4 hlt4
            have hb4 : Below w3.heap.size w3 w4 := (hb.alloc (by omega) _).grown hgr4 (by go_size) (fun g hg => (hown.block g hg).1)
            have hown5 : OwnS w4 w3.heap.size w4.heap.size 2 1 enI (.slice (some ⟨g4, 0, none⟩) ((pick (meP size R a0) k).length + 1) cap4) (pick (meP size R a0) (k + 1)) := by
              rw [HS.out]; exact hown4
            clear hown hown4 hgr4 hat4 hb
            go_wp2_with fail
            go_roundw
            case rel => exact ⟨k + 1, by omega, by go_num, hown5, hb4⟩
            case measure => simp [intOf]; omega
          · have e1 : (a0 == x) = false := by simp [g1]
            by_cases g2 : a1 = x
            · subst g2
              have HS := Lib.hid (pick_yes (meP size R a1) k (by rw [HP.out]; simp))
              clear g1
              go_wp2_with (at_builtin; refine wpL_app rfl _ _ _ rfl w3.heap.size wr.heap.size 2 i0 (.int .i64 0) 1 8 Try.underlying22 hi0 hz0 hz1 hz2 rfl (by decide) enI_len one_I _ (pick (meP size R a1) k) [(k : Int)] rfl (hown.alloc _) ⟨wr.heap.size, 0, none⟩ 1 1 rfl rfl (news_new (RowB.new _ _ _)) (by decide) ?c1 ?c2 ?c3 ?_)
              case c1 => have := HQL.out k; unfold maxLen; omega
              case c2 => have := HQL.out k; omega
              case c3 => go_size
              intro g4 cap4 w4 hown4 hgr4 hat4 hlt4
              have hb4 : Below w3.heap.size w3 w4 := (hb.alloc (by omega) _).grown hgr4 (by go_size) (fun g hg => (hown.block g hg).1)
              have hown5 : OwnS w4 w3.heap.size w4.heap.size 2 1 enI (.slice (some ⟨g4, 0, none⟩) ((pick (meP size R a1) k).length + 1) cap4) (pick (meP size R a1) (k + 1)) := by
                rw [HS.out]; exact hown4
              clear hown hown4 hgr4 hat4 hb
              go_wp2_with fail
              go_roundw
              case rel => exact ⟨k + 1, by omega, by go_num, hown5, hb4⟩
              case measure => simp [intOf]; omega
            · have e2 : (a1 == x) = false := by simp [g2]
              have HS := Lib.hid (pick_no (meP size R x) k (by rw [HP.out]; simp [g1, g2]))
              clear g1 g2
              go_wp2_with fail
              go_roundw
              case rel =>
                refine ⟨k + 1, by omega, by go_num, ?_, hb⟩
                rw [HS.out]
                exact OwnS.more hown (by go_size)
              case measure => simp [intOf]; omega
        · obtain rfl : k = n := by omega
          have hd : decide ((k : Int) < size - 1) = false := decide_eq_false (by omega)
          go_wp2_with fail
          go_ret2
          refine ⟨⟨_, tup_eq HVC.out, ?_⟩, hb3'.trans (hb.mono (by omega))⟩
          rw [HVL.out]
          exact hown.less (by omega)

end Go.Proofs.Ytoicppnkkhajeaa.TF5
