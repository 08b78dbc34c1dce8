/-
  ConsolationOf, of the program and of the reference. Conditions: each theorem's own.
-/
import Derived.Test.YtoicppnkkhajeaaTF3
set_option linter.unusedVariables false
namespace Go.Proofs.Ytoicppnkkhajeaa.TF4
open Go.ChangeShapes Go.WideShapes Go.ChangeAt Go.RowKit Base Ints Tourn1 Order Own OrderS Pairs PairsS Bracket TF1 TF2 TF3

/-- The code and the list of the consolation. -/
def coC (size : Int) (R : List Int) : Int := if okT size R then (if size = 2 ∨ (R.length : Int) < size / 2 then 5 else 0) else 1
def coL (size : Int) (R : List Int) : List Int := if coC size R = 0 then seg (lo size R) 0 (size.toNat / 2) else []
theorem coL_len (size : Int) (R : List Int) : (coL size R).length ≤ 1048576 := by
  unfold coL
  by_cases h : coC size R = 0
  · have ho : okT size R = true := by
      cases h1 : okT size R
      · simp [coC, h1] at h
      · rfl
    have h1 := (seeds_facts (okT_parts ho).1).2.1
    rw [if_pos h, seg_len]
    omega
  · rw [if_neg h]; simp
theorem half {size : Int} (h : okSz size = true) : size / 2 = ((size.toNat / 2 : Nat) : Int) := by
  have := (seeds_facts h).1
  omega

set_option maxHeartbeats 4000000 in
set_option maxRecDepth 100000 in
theorem co_impl (size : Int) (A : Option Addr) (cp B : Nat) (R : List Int) (w : World) (hB : B ≤ w.heap.size) (hr : RdS w B 1 enI A R) (h64 : I64 size) :
    Calls Try.prog 34 #[.agg #[.int .i64 size, .slice A R.length cp]] w fun e w' => (∃ v, e = .returned (.tuple #[v, .int .i64 (coC size R)]) ∧ OwnS w' w.heap.size w'.heap.size 2 1 enI v (coL size R)) ∧ Below w.heap.size w w' := by
  obtain ⟨i0, hi0, hz0, hz1, hz2⟩ := info_parts Ints.info
  have HR := Lib.hid (fun (w' : World) (hb : Below w.heap.size w w') => hr.below hb hB)
  cases hok : okT size R
  · have HVL := Lib.hid (show (coL size R) = [] by simp [coL, coC, hok])
    have HVC := Lib.hid (show 1 = (coC size R) by simp [coC, hok])
    have HO := Lib.hid hok; clear hok
    go_enter Try.func34, Try.ntmps34
    go_wp2_with (go_at_call 23; refine (isI size A cp B R _ (by go_size) (HR.out _ (by go_grown)) h64 false HO.out).mono ?_; rintro e w1 ⟨rfl, hb1⟩)
    have hb1' : Below w.heap.size w w1 := Below.then_ (by go_grown) hb1 (by go_size)
    have hz1' := hb1'.size
    go_ret2
    refine ⟨⟨_, tup_eq HVC.out, ?_⟩, by go_grown⟩
    rw [HVL.out]
    exact OwnS.nil_ _ _ _ _ _ _
  · have h2 := (seeds_facts (okT_parts hok).1).1
    have h32 := (seeds_facts (okT_parts hok).1).2.1
    by_cases g1 : size = 2
    · subst g1
      have HVC := Lib.hid (show 5 = coC 2 R by unfold coC; rw [if_pos hok, if_pos (.inl rfl)])
      have HVL := Lib.hid (show coL 2 R = [] by unfold coL; rw [if_neg (by rw [← HVC.out]; decide)])
      have HO := Lib.hid hok; clear hok
      go_enter Try.func34, Try.ntmps34
      go_wp2_with fail
      refine (isI 2 A cp B R _ (by go_size) (HR.out _ (by go_grown)) h64 true HO.out).mono ?_
      rintro e w1 ⟨rfl, hb1⟩
      have hb1' : Below w.heap.size w w1 := Below.then_ (by go_grown) hb1 (by go_size)
      have hz1' := hb1'.size
      have rb := (RowB.new _ _ _).below hb1 (by go_size)
      obtain ⟨p0, p1⟩ := rb.c2
      go_wp2_with fail
      go_ret2
      refine ⟨⟨_, tup_eq HVC.out, ?_⟩, by go_grown⟩
      rw [HVL.out]
      exact OwnS.nil_ _ _ _ _ _ _
    · have e2 : (size == 2) = false := by simp [g1]
      have hh := half (okT_parts hok).1
      by_cases g2 : (R.length : Int) < size / 2
      · rw [hh] at g2
        have HVC := Lib.hid (show 5 = coC size R by unfold coC; rw [if_pos hok, if_pos (.inr (by rw [hh]; exact g2))])
        have HVL := Lib.hid (show coL size R = [] by unfold coL; rw [if_neg (by rw [← HVC.out]; decide)])
        have HO := Lib.hid hok; clear hok
        generalize size.toNat / 2 = h at *
        go_enter Try.func34, Try.ntmps34
        go_wp2_with fail
        refine (isI size A cp B R _ (by go_size) (HR.out _ (by go_grown)) h64 true HO.out).mono ?_
        rintro e w1 ⟨rfl, hb1⟩
        have hb1' : Below w.heap.size w w1 := Below.then_ (by go_grown) hb1 (by go_size)
        have hz1' := hb1'.size
        have rb := (RowB.new _ _ _).below hb1 (by go_size)
        obtain ⟨p0, p1⟩ := rb.c2
        go_wp2_with fail
        go_ret2
        refine ⟨⟨_, tup_eq HVC.out, ?_⟩, by go_grown⟩
        rw [HVL.out]
        exact OwnS.nil_ _ _ _ _ _ _
      · obtain ⟨h, hhh⟩ : ∃ h, h = size.toNat / 2 := ⟨_, rfl⟩
        rw [← hhh] at hh
        obtain ⟨n, hn⟩ : ∃ n, n = size.toNat - 1 := ⟨_, rfl⟩
        have HN := Lib.hid hn
        have hn31 : n ≤ 31 := by omega
        have hn1 : (n : Int) + 1 ≤ size := by omega
        have hn2 : size ≤ (n : Int) + 1 := by omega
        have hhn : h ≤ n := by omega
        have hhq : (h : Int) ≤ (R.length : Int) := by omega
        have HVC := Lib.hid (show 0 = coC size R by unfold coC; rw [if_pos hok, if_neg (by rw [hh]; omega)])
        have HVL := Lib.hid (show coL size R = seg (lo size R) 0 h by unfold coL; rw [if_pos HVC.out.symm, hhh])
        have hd : decide ((R.length : Int) < (h : Int)) = false := decide_eq_false (by omega)
        have HO := Lib.hid hok; clear hok hn hhh g2 g1
        have ew1 : IntKind.i64.wrap (size / 2) = (h : Int) := by rw [hh]; exact IntWalk.i64_in _ (by omega)
        have ew3 : Int.tdiv size 2 = (h : Int) := by rw [Int.tdiv_eq_ediv_of_nonneg (by omega)]; exact hh
        have ew4 : (0 : Int) ≤ size := by omega
        have ew2 : IntKind.i64.wrap (h : Int) = (h : Int) := IntWalk.i64_in _ (by omega)
        go_enter Try.func34, Try.ntmps34
        go_wp2_with fail
        refine (isI size A cp B R _ (by go_size) (HR.out _ (by go_grown)) h64 true HO.out).mono ?_
        rintro e w1 ⟨rfl, hb1⟩
        have hb1' : Below w.heap.size w w1 := Below.then_ (by go_grown) hb1 (by go_size)
        have hz1' := hb1'.size
        have rb := (RowB.new _ _ _).below hb1 (by go_size)
        obtain ⟨p0, p1⟩ := rb.c2
        have rblt := rb.lt
        go_wp2_with fail
        clear p0 p1
        go_region_held3 (fun w' => w'.cell? ⟨w.heap.size, 0, none⟩ = some (.int .i64 size) ∧ w'.cell? ⟨w.heap.size, 1, none⟩ = some (.slice A R.length cp)) (first | exact rb.c2 | exact (rb.below hb3 rblt).c2 | exact ((RowB.drew rb).below hb3 rblt).c2 | go_keep) (first | (go_at_call 58; refine (bracketY size A cp B R _ (by go_size) (HR.out _ (by first | exact hb1' | exact hb1'.drew)) HO.out).mono ?_; rintro e w3 ⟨⟨Ab, cb, rfl, hcb, ho⟩, hb3⟩; have hqc1 : (h : Int) ≤ (cb : Int) := by omega))
        have hb3' : Below w.heap.size w w3 := by first | exact hb1'.trans (hb3.mono hz1') | exact (hb1'.drew).trans (hb3.mono hz1')
        have hz3 : w1.heap.size ≤ w3.heap.size := hb3.size
        clear hd ew1 ew2 ew3 ew4
        go_wp2_with fail
        go_loopw [4, 29] (fun v i wr => ∃ k : Nat, k ≤ h ∧ i = .int .i64 k ∧ OwnS wr w3.heap.size wr.heap.size 2 1 enI v (seg (lo size R) 0 k) ∧ Below w3.heap.size w3 wr) (fun _ i _ => h - (intOf i).toNat)
        case atStart => exact ⟨0, Nat.zero_le _, rfl, OwnS.nil_ _ _ _ _ _ _, Below.refl _ _⟩
        case round =>
          obtain ⟨k, hk, rfl, hown, hb⟩ := hrel
          have hbz := hb.size
          by_cases hlt : k < h
          · obtain ⟨b, off, x, he, hbb, hx, c0, c1, c2, c3, c4⟩ := rdM_at ((ho.rd enM_len).below hb (Nat.le_refl _)) (i := k) (by rw [seg_len, ← HN.out]; omega)
            simp only [Option.some.injEq, Addr.mk.injEq, and_true] at he
            obtain ⟨rfl, rfl⟩ := he
            rw [seg_at _ _ _ _ (by rw [← HN.out]; omega), Nat.zero_add] at hx
            obtain rfl : bm size R k = x := by simpa using hx
            clear hx
            simp only [bm, Nat.zero_add] at c0 c1 c2 c3 c4
            go_wp2_with (at_builtin; refine wpL_app rfl _ _ _ rfl w3.heap.size wr.heap.size 2 i0 (.int .i64 0) 1 8 Try.underlying22 hi0 hz0 hz1 hz2 rfl (by decide) enI_len one_I _ (seg (lo size R) 0 k) [lo size R k] rfl ((hown.alloc _).alloc _) ⟨wr.heap.size + 1, 0, none⟩ 1 1 rfl rfl (news_new (RowB.new' (wr.alloc _) _ _ (by simp))) (by decide) ?c1 ?c2 ?c3 ?_)
            case c1 => rw [seg_len]; unfold maxLen; omega
            case c2 => rw [seg_len]; omega
            case c3 => go_size
            intro g4 cap4 w4 hown4 hgr4 hat4 hlt4
            have hb4 : Below w3.heap.size w3 w4 := ((hb.alloc (by omega) _).alloc (by go_size) _).grown hgr4 (by go_size) (fun g hg => (hown.block g hg).1)
            have hown5 : OwnS w4 w3.heap.size w4.heap.size 2 1 enI (.slice (some ⟨g4, 0, none⟩) ((seg (lo size R) 0 k).length + 1) cap4) (seg (lo size R) 0 (k + 1)) := by
              rw [seg_succ, Nat.zero_add]; exact hown4
            clear hown hown4 hgr4 hat4 hb
            go_wp2_with fail
            go_roundw
            case rel => exact ⟨k + 1, by omega, by go_num, hown5, hb4⟩
            case measure => simp [intOf]; omega
          · obtain rfl : k = h := by omega
            go_wp2_with fail
            go_ret2
            refine ⟨⟨_, tup_eq HVC.out, ?_⟩, hb3'.trans (hb.mono (by omega))⟩
            rw [HVL.out]
            exact hown.less (by omega)

set_option maxHeartbeats 4000000 in
set_option maxRecDepth 100000 in
theorem co_spec (size : Int) (A : Option Addr) (cp B : Nat) (R : List Int) (w : World) (hB : B ≤ w.heap.size) (hr : RdS w B 1 enI A R) (h64 : I64 size) :
    Calls Try.prog 35 #[.agg #[.int .i64 size, .slice A R.length cp]] w fun e w' => (∃ v, e = .returned (.tuple #[v, .int .i64 (coC size R)]) ∧ OwnS w' w.heap.size w'.heap.size 2 1 enI v (coL size R)) ∧ Below w.heap.size w w' := by
  obtain ⟨i0, hi0, hz0, hz1, hz2⟩ := info_parts Ints.info
  have HR := Lib.hid (fun (w' : World) (hb : Below w.heap.size w w') => hr.below hb hB)
  cases hok : okT size R
  · have HVL := Lib.hid (show (coL size R) = [] by simp [coL, coC, hok])
    have HVC := Lib.hid (show 1 = (coC size R) by simp [coC, hok])
    have HO := Lib.hid hok; clear hok
    go_enter Try.func35, Try.ntmps35
    go_wp2_with (go_at_call 21; refine (isS size A cp B R _ (by go_size) (HR.out _ (by go_grown)) h64 false HO.out).mono ?_; rintro e w1 ⟨rfl, hb1⟩)
    have hb1' : Below w.heap.size w w1 := Below.then_ (by go_grown) hb1 (by go_size)
    have hz1' := hb1'.size
    go_ret2
    refine ⟨⟨_, tup_eq HVC.out, ?_⟩, by go_grown⟩
    rw [HVL.out]
    exact (RowB.new _ 2 []).own (xs := []) enI_len (by go_size) (by simp) (by decide)
  · have h2 := (seeds_facts (okT_parts hok).1).1
    have h32 := (seeds_facts (okT_parts hok).1).2.1
    by_cases g1 : size = 2
    · subst g1
      have HVC := Lib.hid (show 5 = coC 2 R by unfold coC; rw [if_pos hok, if_pos (.inl rfl)])
      have HVL := Lib.hid (show coL 2 R = [] by unfold coL; rw [if_neg (by rw [← HVC.out]; decide)])
      have HO := Lib.hid hok; clear hok
      go_enter Try.func35, Try.ntmps35
      go_wp2_with fail
      refine (isS 2 A cp B R _ (by go_size) (HR.out _ (by go_grown)) h64 true HO.out).mono ?_
      rintro e w1 ⟨rfl, hb1⟩
      have hb1' : Below w.heap.size w w1 := Below.then_ (by go_grown) hb1 (by go_size)
      have hz1' := hb1'.size
      have rb := (RowB.new _ _ _).below hb1 (by go_size)
      obtain ⟨p0, p1⟩ := rb.c2
      go_wp2_with fail
      go_ret2
      refine ⟨⟨_, tup_eq HVC.out, ?_⟩, by go_grown⟩
      rw [HVL.out]
      exact (RowB.new _ 2 []).own (xs := []) enI_len (by go_size) (by simp) (by decide)
    · have e2 : (size == 2) = false := by simp [g1]
      have hh := half (okT_parts hok).1
      by_cases g2 : (R.length : Int) < size / 2
      · rw [hh] at g2
        have HVC := Lib.hid (show 5 = coC size R by unfold coC; rw [if_pos hok, if_pos (.inr (by rw [hh]; exact g2))])
        have HVL := Lib.hid (show coL size R = [] by unfold coL; rw [if_neg (by rw [← HVC.out]; decide)])
        have HO := Lib.hid hok; clear hok
        generalize size.toNat / 2 = h at *
        go_enter Try.func35, Try.ntmps35
        go_wp2_with fail
        refine (isS size A cp B R _ (by go_size) (HR.out _ (by go_grown)) h64 true HO.out).mono ?_
        rintro e w1 ⟨rfl, hb1⟩
        have hb1' : Below w.heap.size w w1 := Below.then_ (by go_grown) hb1 (by go_size)
        have hz1' := hb1'.size
        have rb := (RowB.new _ _ _).below hb1 (by go_size)
        obtain ⟨p0, p1⟩ := rb.c2
        go_wp2_with fail
        go_ret2
        refine ⟨⟨_, tup_eq HVC.out, ?_⟩, by go_grown⟩
        rw [HVL.out]
        exact (RowB.new _ 2 []).own (xs := []) enI_len (by go_size) (by simp) (by decide)
      · obtain ⟨h, hhh⟩ : ∃ h, h = size.toNat / 2 := ⟨_, rfl⟩
        rw [← hhh] at hh
        obtain ⟨n, hn⟩ : ∃ n, n = size.toNat - 1 := ⟨_, rfl⟩
        have HN := Lib.hid hn
        have hn31 : n ≤ 31 := by omega
        have hn1 : (n : Int) + 1 ≤ size := by omega
        have hn2 : size ≤ (n : Int) + 1 := by omega
        have hq := (okT_parts hok).2.1
        have HX := Lib.hid (okT_parts hok).2.2
        have hm2 : 2 * n ≤ 2 * size.toNat - 2 := by omega
        have hm3 : 2 * size.toNat - 2 ≤ 2 * n := by omega
        have hhn : h ≤ n := by omega
        have hhq : (h : Int) ≤ (R.length : Int) := by omega
        have HVC := Lib.hid (show 0 = coC size R by unfold coC; rw [if_pos hok, if_neg (by rw [hh]; omega)])
        have HVL := Lib.hid (show coL size R = seg (lo size R) 0 h by unfold coL; rw [if_pos HVC.out.symm, hhh])
        have hd : decide ((R.length : Int) < (h : Int)) = false := decide_eq_false (by omega)
        have HO := Lib.hid hok; clear hok hn hhh g2 g1
        go_enter Try.func35, Try.ntmps35
        go_wp2_with fail
        refine (isS size A cp B R _ (by go_size) (HR.out _ (by go_grown)) h64 true HO.out).mono ?_
        rintro e w1 ⟨rfl, hb1⟩
        have hb1' : Below w.heap.size w w1 := Below.then_ (by go_grown) hb1 (by go_size)
        have hz1' := hb1'.size
        have rb := (RowB.new _ _ _).below hb1 (by go_size)
        obtain ⟨p0, p1⟩ := rb.c2
        go_wp2_with fail
        refine (pairsZ size A cp B R _ (by go_size) (HR.out _ hb1') HO.out).mono ?_
        rintro e w3 ⟨⟨v, rfl, ho⟩, hb3⟩
        have hb3' : Below w.heap.size w w3 := hb1'.trans (hb3.mono hz1')
        have hz3 := hb3.size
        have rb := rb.below hb3 rb.lt
        clear p0 p1
        obtain ⟨Av, cv, rfl, hrd⟩ := ho.form enI_len
        rw [seg_len]
        have rblt := rb.lt
        clear hd
        go_wp2_with fail
        go_loopw [5, 6] (fun v i wr => ∃ k : Nat, k ≤ h ∧ i = .int .i64 k ∧ OwnS wr w3.heap.size wr.heap.size 2 1 enI v (seg (lo size R) 0 k) ∧ Below w3.heap.size w3 wr) (fun _ i _ => h - (intOf i).toNat)
        case atStart => exact ⟨0, Nat.zero_le _, rfl, (RowB.new _ 2 []).own (xs := []) enI_len (Nat.le_refl _) (by simp) (by decide), by go_grown⟩
        case round =>
          obtain ⟨k, hk, rfl, hown, hb⟩ := hrel
          have hbz := hb.size
          obtain ⟨p0, p1⟩ := (rb.below hb rblt).c2
          by_cases hlt : k < h
          · obtain ⟨bR, offR, x, rfl, hbR, hx, hcR⟩ := rdI_at (HR.out wr (hb3'.trans (hb.mono (by omega)))) (i := k) (by first | exact hlt | omega | (rw [HQ.out]; omega))
            have hbR' : bR < wr.heap.size := by omega
            have hdum : True := trivial
            rcases HX.out x (List.mem_of_getElem? hx) with rfl | rfl
            · obtain ⟨b, off, y, rfl, hbb, hy, hc⟩ := rdI_at (hrd.below hb (Nat.le_refl _)) (i := 2 * k + 1) (by rw [seg_len]; omega)
              rw [seg_at _ _ _ _ (by omega), Nat.zero_add, ← (wi_0 (size := size) hx).2] at hy
              obtain rfl : lo size R k = y := by simpa using hy
              clear hy hx
              have x1 : 2 * (k : Int) < ((2 * size.toNat - 2 : Nat) : Int) := by omega
              have x2 : 2 * (k : Int) + 1 < ((2 * size.toNat - 2 : Nat) : Int) := by omega
              go_wp2_with (at_builtin; refine wpL_app rfl _ _ _ rfl w3.heap.size wr.heap.size 2 i0 (.int .i64 0) 1 8 Try.underlying22 hi0 hz0 hz1 hz2 rfl (by decide) enI_len one_I _ (seg (lo size R) 0 k) [lo size R k] rfl (hown.alloc _) ⟨wr.heap.size, 0, none⟩ 1 1 rfl rfl (news_new (RowB.new _ _ _)) (by decide) ?c1 ?c2 ?c3 ?_)
              case c1 => rw [seg_len]; unfold maxLen; omega
              case c2 => rw [seg_len]; omega
              case c3 => go_size
              intro g4 cap4 w4 hown4 hgr4 hat4 hlt4
              have hb4 : Below w3.heap.size w3 w4 := (hb.alloc (by omega) _).grown hgr4 (by go_size) (fun g hg => (hown.block g hg).1)
              have hown5 : OwnS w4 w3.heap.size w4.heap.size 2 1 enI (.slice (some ⟨g4, 0, none⟩) ((seg (lo size R) 0 k).length + 1) cap4) (seg (lo size R) 0 (k + 1)) := by
                rw [seg_succ, Nat.zero_add]; exact hown4
              clear hown hown4 hgr4 hat4 hb
              go_wp2_with fail
              go_roundw
              case rel => exact ⟨k + 1, by omega, by go_num, hown5, hb4⟩
              case measure => simp [intOf]; omega
            · obtain ⟨b, off, y, rfl, hbb, hy, hc⟩ := rdI_at (hrd.below hb (Nat.le_refl _)) (i := 2 * k) (by rw [seg_len]; omega)
              rw [seg_at _ _ _ _ (by omega), Nat.zero_add, ← (wi_1 (size := size) hx).2] at hy
              obtain rfl : lo size R k = y := by simpa using hy
              clear hy hx
              have x1 : 2 * (k : Int) < ((2 * size.toNat - 2 : Nat) : Int) := by omega
              have x2 : 2 * (k : Int) + 1 < ((2 * size.toNat - 2 : Nat) : Int) := by omega
              go_wp2_with (at_builtin; refine wpL_app rfl _ _ _ rfl w3.heap.size wr.heap.size 2 i0 (.int .i64 0) 1 8 Try.underlying22 hi0 hz0 hz1 hz2 rfl (by decide) enI_len one_I _ (seg (lo size R) 0 k) [lo size R k] rfl (hown.alloc _) ⟨wr.heap.size, 0, none⟩ 1 1 rfl rfl (news_new (RowB.new _ _ _)) (by decide) ?c1 ?c2 ?c3 ?_)
              case c1 => rw [seg_len]; unfold maxLen; omega
              case c2 => rw [seg_len]; omega
              case c3 => go_size
              intro g4 cap4 w4 hown4 hgr4 hat4 hlt4
              have hb4 : Below w3.heap.size w3 w4 := (hb.alloc (by omega) _).grown hgr4 (by go_size) (fun g hg => (hown.block g hg).1)
              have hown5 : OwnS w4 w3.heap.size w4.heap.size 2 1 enI (.slice (some ⟨g4, 0, none⟩) ((seg (lo size R) 0 k).length + 1) cap4) (seg (lo size R) 0 (k + 1)) := by
                rw [seg_succ, Nat.zero_add]; exact hown4
              clear hown hown4 hgr4 hat4 hb
              go_wp2_with fail
              go_roundw
              case rel => exact ⟨k + 1, by omega, by go_num, hown5, hb4⟩
              case measure => simp [intOf]; omega
          · obtain rfl : k = h := by omega
            have hdum : True := trivial
            go_wp2_with fail
            go_ret2
            refine ⟨⟨_, tup_eq HVC.out, ?_⟩, hb3'.trans (hb.mono (by omega))⟩
            rw [HVL.out]
            exact hown.less (by omega)

end Go.Proofs.Ytoicppnkkhajeaa.TF4
