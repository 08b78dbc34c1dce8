/-
  WinnersOf, of the program and of the reference. Conditions: each theorem's own.
-/
import Derived.Test.YtoicppnkkhajeaaTF2
set_option linter.unusedVariables false
namespace Go.Proofs.Ytoicppnkkhajeaa.TF3
open Go.ChangeShapes Go.WideShapes Go.ChangeAt Go.RowKit Base Ints Tourn1 Order Own OrderS Pairs PairsS Bracket TF1 TF2

/-- The winners. -/
def wnL (size : Int) (R : List Int) : List Int := if okT size R then seg (wi size R) 0 R.length else []
theorem wnL_len (size : Int) (R : List Int) : (wnL size R).length ≤ 1048576 := by
  unfold wnL
  cases h : okT size R
  · simp
  · have h1 := (seeds_facts (okT_parts h).1).2.1
    have h2 := (okT_parts h).2.1
    simp only [if_true, seg_len]
    omega
theorem bracketY (size : Int) (A : Option Addr) (cp B : Nat) (R : List Int) (w : World) (hB : B ≤ w.heap.size) (hr : RdS w B 1 enI A R) (ok : okT size R = true) :
    Calls Try.prog 58 #[.agg #[.int .i64 size, .slice A R.length cp]] w fun e w' => (∃ g c, e = .returned (.slice (some ⟨g, 0, none⟩) (size.toNat - 1) c) ∧ ((size.toNat - 1 : Nat) : Int) ≤ (c : Int) ∧ OwnS w' w.heap.size w'.heap.size 57 5 enM (.slice (some ⟨g, 0, none⟩) (size.toNat - 1) c) (seg (bm size R) 0 (size.toNat - 1))) ∧ Below w.heap.size w w' := by
  have h2 := (seeds_facts (okT_parts ok).1).1
  refine (bracketZ size A cp B R w hB hr ok).mono ?_
  rintro e w' ⟨⟨v, rfl, ho⟩, hb⟩
  refine ⟨?_, hb⟩
  rcases ho.cases_ with ⟨rfl, he⟩ | ⟨g, c, rest, rfl, _, _, _, hc, _⟩
  · have := congrArg List.length he
    rw [seg_len] at this
    simp at this
    omega
  · rw [seg_len] at ho hc
    exact ⟨g, c, by rw [seg_len], by omega, ho⟩

set_option maxHeartbeats 4000000 in
set_option maxRecDepth 100000 in
theorem wn_impl (size : Int) (A : Option Addr) (cp B : Nat) (R : List Int) (w : World) (hB : B ≤ w.heap.size) (hr : RdS w B 1 enI A R) (h64 : I64 size) :
    Calls Try.prog 28 #[.agg #[.int .i64 size, .slice A R.length cp]] w fun e w' => (∃ v, e = .returned (.tuple #[v, .int .i64 (tC size R)]) ∧ OwnS w' w.heap.size w'.heap.size 2 1 enI v (wnL size R)) ∧ Below w.heap.size w w' := by
  obtain ⟨i0, hi0, hz0, hz1, hz2⟩ := info_parts Ints.info
  have HR := Lib.hid (fun (w' : World) (hb : Below w.heap.size w w') => hr.below hb hB)
  cases hok : okT size R
  · have HVL := Lib.hid (show (wnL size R) = [] by simp [wnL, hok])
    have HVC := Lib.hid (show 1 = (tC size R) by simp [tC, hok])
    have HO := Lib.hid hok; clear hok
    go_enter Try.func28, Try.ntmps28
    go_wp2_with (go_at_call 23; refine (isI size A cp B R _ (by go_size) (HR.out _ (by go_grown)) h64 false HO.out).mono ?_; rintro e w1 ⟨rfl, hb1⟩)
    have hb1' : Below w.heap.size w w1 := Below.then_ (by go_grown) hb1 (by go_size)
    have hz1' := hb1'.size
    go_ret2
    refine ⟨⟨_, tup_eq HVC.out, ?_⟩, by go_grown⟩
    rw [HVL.out]
    exact OwnS.nil_ _ _ _ _ _ _
  · obtain ⟨h2, h32, _, _⟩ := seeds_facts (okT_parts hok).1
    have hq := (okT_parts hok).2.1
    obtain ⟨n, hn⟩ : ∃ n, n = size.toNat - 1 := ⟨_, rfl⟩
    have HN := Lib.hid hn
    have hn31 : n ≤ 31 := by omega
    have hn1 : (n : Int) + 1 ≤ size := by omega
    have hn2 : size ≤ (n : Int) + 1 := by omega
    have HVL := Lib.hid (show wnL size R = seg (wi size R) 0 R.length by simp [wnL, hok])
    have HVC := Lib.hid (show 0 = tC size R by simp [tC, hok])
    have HO := Lib.hid hok; clear hok hn
    have hqn : R.length ≤ n := by omega
    go_enter Try.func28, Try.ntmps28
    go_wp2_with fail
    refine (isI size A cp B R _ (by go_size) (HR.out _ (by go_grown)) h64 true HO.out).mono ?_
    rintro e w1 ⟨rfl, hb1⟩
    have hb1' : Below w.heap.size w w1 := Below.then_ (by go_grown) hb1 (by go_size)
    have hz1' := hb1'.size
    have rb := (RowB.new _ _ _).below hb1 (by go_size)
    obtain ⟨p0, p1⟩ := rb.c2
    have rblt := rb.lt
    go_wp2_with fail
    clear p0 p1
    go_region_held3 (fun w' => w'.cell? ⟨w.heap.size, 0, none⟩ = some (.int .i64 size) ∧ w'.cell? ⟨w.heap.size, 1, none⟩ = some (.slice A R.length cp)) (first | exact rb.c2 | exact (rb.below hb3 rblt).c2 | exact ((RowB.drew rb).below hb3 rblt).c2 | go_keep) (first | (go_at_call 58; refine (bracketY size A cp B R _ (by go_size) (HR.out _ (by first | exact hb1' | exact hb1'.drew)) HO.out).mono ?_; rintro e w3 ⟨⟨Ab, cb, rfl, hcb, ho⟩, hb3⟩; have hqc1 : (R.length : Int) ≤ (cb : Int) := by omega))
    have hb3' : Below w.heap.size w w3 := by first | exact hb1'.trans (hb3.mono hz1') | exact (hb1'.drew).trans (hb3.mono hz1')
    have hz3 : w1.heap.size ≤ w3.heap.size := hb3.size
    obtain ⟨q, hqq⟩ : ∃ q, R.length = q := ⟨_, rfl⟩
    rw [hqq] at hq hqn HVL
    rw [hqq]
    clear hqq
    go_wp2_with fail
    go_loopw [4, 17] (fun v i wr => ∃ k : Nat, k ≤ q ∧ i = .int .i64 k ∧ OwnS wr w3.heap.size wr.heap.size 2 1 enI v (seg (wi size R) 0 k) ∧ Below w3.heap.size w3 wr) (fun _ i _ => q - (intOf i).toNat)
    case atStart => exact ⟨0, Nat.zero_le _, rfl, OwnS.nil_ _ _ _ _ _ _, Below.refl _ _⟩
    case round =>
      obtain ⟨k, hk, rfl, hown, hb⟩ := hrel
      have hbz := hb.size
      by_cases hlt : k < q
      · obtain ⟨b, off, x, he, hbb, hx, c0, c1, c2, c3, c4⟩ := rdM_at ((ho.rd enM_len).below hb (Nat.le_refl _)) (i := k) (by rw [seg_len, ← HN.out]; omega)
        simp only [Option.some.injEq, Addr.mk.injEq, and_true] at he
        obtain ⟨rfl, rfl⟩ := he
        rw [seg_at _ _ _ _ (by rw [← HN.out]; omega), Nat.zero_add] at hx
        obtain rfl : bm size R k = x := by simpa using hx
        clear hx
        simp only [bm, Nat.zero_add] at c0 c1 c2 c3 c4
        go_wp2_with (at_builtin; refine wpL_app rfl _ _ _ rfl w3.heap.size wr.heap.size 2 i0 (.int .i64 0) 1 8 Try.underlying22 hi0 hz0 hz1 hz2 rfl (by decide) enI_len one_I _ (seg (wi size R) 0 k) [wi size R k] rfl ((hown.alloc _).alloc _) ⟨wr.heap.size + 1, 0, none⟩ 1 1 rfl rfl (news_new (RowB.new' (wr.alloc _) _ _ (by simp))) (by decide) ?c1 ?c2 ?c3 ?_)
        case c1 => rw [seg_len]; unfold maxLen; omega
        case c2 => rw [seg_len]; omega
        case c3 => go_size
        intro g4 cap4 w4 hown4 hgr4 hat4 hlt4
        have hb4 : Below w3.heap.size w3 w4 := ((hb.alloc (by omega) _).alloc (by go_size) _).grown hgr4 (by go_size) (fun g hg => (hown.block g hg).1)
        have hown5 : OwnS w4 w3.heap.size w4.heap.size 2 1 enI (.slice (some ⟨g4, 0, none⟩) ((seg (wi size R) 0 k).length + 1) cap4) (seg (wi size R) 0 (k + 1)) := by
          rw [seg_succ, Nat.zero_add]; exact hown4
        clear hown hown4 hgr4 hat4 hb
        go_wp2_with fail
        go_roundw
        case rel => exact ⟨k + 1, by omega, by go_num, hown5, hb4⟩
        case measure => simp [intOf]; omega
      · obtain rfl : k = q := by omega
        go_wp2_with fail
        go_ret2
        refine ⟨⟨_, tup_eq HVC.out, ?_⟩, hb3'.trans (hb.mono (by omega))⟩
        rw [HVL.out]
        exact hown.less (by omega)

set_option maxHeartbeats 4000000 in
set_option maxRecDepth 100000 in
theorem wl_spec (size : Int) (A : Option Addr) (cp B : Nat) (R : List Int) (w : World) (hB : B ≤ w.heap.size) (hr : RdS w B 1 enI A R) (hok : okT size R = true) :
    Calls Try.prog 59 #[.agg #[.int .i64 size, .slice A R.length cp]] w fun e w' => (∃ v, e = .returned v ∧ OwnS w' w.heap.size w'.heap.size 2 1 enI v (seg (wi size R) 0 R.length)) ∧ Below w.heap.size w w' := by
  obtain ⟨i0, hi0, hz0, hz1, hz2⟩ := info_parts Ints.info
  have HR := Lib.hid (fun (w' : World) (hb : Below w.heap.size w w') => hr.below hb hB)
  obtain ⟨h2, h32, _, _⟩ := seeds_facts (okT_parts hok).1
  have hq := (okT_parts hok).2.1
  have HX := Lib.hid (okT_parts hok).2.2
  obtain ⟨n, hn⟩ : ∃ n, n = size.toNat - 1 := ⟨_, rfl⟩
  have HN := Lib.hid hn
  have hn31 : n ≤ 31 := by omega
  have hn1 : (n : Int) + 1 ≤ size := by omega
  have hn2 : size ≤ (n : Int) + 1 := by omega
  have hm2 : 2 * n ≤ 2 * size.toNat - 2 := by have := HN.out; omega
  have hm3 : 2 * size.toNat - 2 ≤ 2 * n := by have := HN.out; omega
  have HO := Lib.hid hok; clear hok hn
  have hqn : R.length ≤ n := by omega
  go_enter Try.func59, Try.ntmps59
  go_wp2_with fail
  refine (pairsZ size A cp B R _ (by go_size) (HR.out _ (by go_grown)) HO.out).mono ?_
  rintro e w3 ⟨⟨v, rfl, ho⟩, hb3⟩
  have hb3' : Below w.heap.size w w3 := Below.then_ (by go_grown) hb3 (by go_size)
  have rb := (RowB.new _ _ _).below hb3 (by go_size)
  have rblt := rb.lt
  have hz3 := hb3'.size
  obtain ⟨Av, cv, rfl, hrd⟩ := ho.form enI_len
  rw [seg_len]
  clear ho
  go_wp2_with fail
  go_loopw [4, 5] (fun v i wr => ∃ k : Nat, k ≤ R.length ∧ i = .int .i64 k ∧ OwnS wr w3.heap.size wr.heap.size 2 1 enI v (seg (wi size R) 0 k) ∧ Below w3.heap.size w3 wr) (fun _ i _ => R.length - (intOf i).toNat)
  case atStart => exact ⟨0, Nat.zero_le _, rfl, (RowB.new _ 2 []).own (xs := []) enI_len (Nat.le_refl _) (by simp) (by decide), by go_grown⟩
  case round =>
    obtain ⟨k, hk, rfl, hown, hb⟩ := hrel
    have hbz := hb.size
    obtain ⟨p0, p1⟩ := (rb.below hb rblt).c2
    by_cases hlt : k < R.length
    · obtain ⟨bR, offR, x, rfl, hbR, hx, hcR⟩ := rdI_at (HR.out wr (hb3'.trans (hb.mono (by omega)))) (i := k) (by first | exact hlt | omega | (rw [HQ.out]; omega))
      have hbR' : bR < wr.heap.size := by omega
      have hdum : True := trivial
      rcases HX.out x (List.mem_of_getElem? hx) with rfl | rfl
      · obtain ⟨b, off, y, rfl, hbb, hy, hc⟩ := rdI_at (hrd.below hb (Nat.le_refl _)) (i := 2 * k) (by rw [seg_len]; omega)
        rw [seg_at _ _ _ _ (by omega), Nat.zero_add, ← (wi_0 (size := size) hx).1] at hy
        obtain rfl : wi size R k = y := by simpa using hy
        clear hy hx
        have x1 : 2 * (k : Int) < ((2 * size.toNat - 2 : Nat) : Int) := by omega
        have x2 : 2 * (k : Int) + 1 < ((2 * size.toNat - 2 : Nat) : Int) := by omega
        go_wp2_with (at_builtin; refine wpL_app rfl _ _ _ rfl w3.heap.size wr.heap.size 2 i0 (.int .i64 0) 1 8 Try.underlying22 hi0 hz0 hz1 hz2 rfl (by decide) enI_len one_I _ (seg (wi size R) 0 k) [wi size R k] rfl (hown.alloc _) ⟨wr.heap.size, 0, none⟩ 1 1 rfl rfl (news_new (RowB.new _ _ _)) (by decide) ?c1 ?c2 ?c3 ?_)
        case c1 => rw [seg_len]; unfold maxLen; omega
        case c2 => rw [seg_len]; omega
        case c3 => go_size
        intro g4 cap4 w4 hown4 hgr4 hat4 hlt4
        have hb4 : Below w3.heap.size w3 w4 := (hb.alloc (by omega) _).grown hgr4 (by go_size) (fun g hg => (hown.block g hg).1)
        have hown5 : OwnS w4 w3.heap.size w4.heap.size 2 1 enI (.slice (some ⟨g4, 0, none⟩) ((seg (wi size R) 0 k).length + 1) cap4) (seg (wi size R) 0 (k + 1)) := by
          rw [seg_succ, Nat.zero_add]; exact hown4
        clear hown hown4 hgr4 hat4 hb
        go_wp2_with fail
        go_roundw
        case rel => exact ⟨k + 1, by omega, by go_num, hown5, hb4⟩
        case measure => simp [intOf]; omega
      · obtain ⟨b, off, y, rfl, hbb, hy, hc⟩ := rdI_at (hrd.below hb (Nat.le_refl _)) (i := 2 * k + 1) (by rw [seg_len]; omega)
        rw [seg_at _ _ _ _ (by omega), Nat.zero_add, ← (wi_1 (size := size) hx).1] at hy
        obtain rfl : wi size R k = y := by simpa using hy
        clear hy hx
        have x1 : 2 * (k : Int) < ((2 * size.toNat - 2 : Nat) : Int) := by omega
        have x2 : 2 * (k : Int) + 1 < ((2 * size.toNat - 2 : Nat) : Int) := by omega
        go_wp2_with (at_builtin; refine wpL_app rfl _ _ _ rfl w3.heap.size wr.heap.size 2 i0 (.int .i64 0) 1 8 Try.underlying22 hi0 hz0 hz1 hz2 rfl (by decide) enI_len one_I _ (seg (wi size R) 0 k) [wi size R k] rfl (hown.alloc _) ⟨wr.heap.size, 0, none⟩ 1 1 rfl rfl (news_new (RowB.new _ _ _)) (by decide) ?c1 ?c2 ?c3 ?_)
        case c1 => rw [seg_len]; unfold maxLen; omega
        case c2 => rw [seg_len]; omega
        case c3 => go_size
        intro g4 cap4 w4 hown4 hgr4 hat4 hlt4
        have hb4 : Below w3.heap.size w3 w4 := (hb.alloc (by omega) _).grown hgr4 (by go_size) (fun g hg => (hown.block g hg).1)
        have hown5 : OwnS w4 w3.heap.size w4.heap.size 2 1 enI (.slice (some ⟨g4, 0, none⟩) ((seg (wi size R) 0 k).length + 1) cap4) (seg (wi size R) 0 (k + 1)) := by
          rw [seg_succ, Nat.zero_add]; exact hown4
        clear hown hown4 hgr4 hat4 hb
        go_wp2_with fail
        go_roundw
        case rel => exact ⟨k + 1, by omega, by go_num, hown5, hb4⟩
        case measure => simp [intOf]; omega
    · obtain rfl : k = R.length := by omega
      have hdum : True := trivial
      go_wp2_with fail
      go_ret
      exact ⟨⟨_, rfl, hown.less (by omega)⟩, hb3'.trans (hb.mono (by omega))⟩

set_option maxHeartbeats 4000000 in
set_option maxRecDepth 100000 in
theorem wn_spec (size : Int) (A : Option Addr) (cp B : Nat) (R : List Int) (w : World) (hB : B ≤ w.heap.size) (hr : RdS w B 1 enI A R) (h64 : I64 size) :
    Calls Try.prog 27 #[.agg #[.int .i64 size, .slice A R.length cp]] w fun e w' => (∃ v, e = .returned (.tuple #[v, .int .i64 (tC size R)]) ∧ OwnS w' w.heap.size w'.heap.size 2 1 enI v (wnL size R)) ∧ Below w.heap.size w w' := by
  obtain ⟨i0, hi0, hz0, hz1, hz2⟩ := info_parts Ints.info
  have HR := Lib.hid (fun (w' : World) (hb : Below w.heap.size w w') => hr.below hb hB)
  cases hok : okT size R
  · have HVL := Lib.hid (show (wnL size R) = [] by simp [wnL, hok])
    have HVC := Lib.hid (show 1 = (tC size R) by simp [tC, hok])
    have HO := Lib.hid hok; clear hok
    go_enter Try.func27, Try.ntmps27
    go_wp2_with (go_at_call 21; refine (isS size A cp B R _ (by go_size) (HR.out _ (by go_grown)) h64 false HO.out).mono ?_; rintro e w1 ⟨rfl, hb1⟩)
    have hb1' : Below w.heap.size w w1 := Below.then_ (by go_grown) hb1 (by go_size)
    have hz1' := hb1'.size
    go_ret2
    refine ⟨⟨_, tup_eq HVC.out, ?_⟩, by go_grown⟩
    rw [HVL.out]
    exact (RowB.new _ 2 []).own (xs := []) enI_len (by go_size) (by simp) (by decide)
  · have HVL := Lib.hid (show wnL size R = seg (wi size R) 0 R.length by simp [wnL, hok])
    have HVC := Lib.hid (show 0 = tC size R by simp [tC, hok])
    have HO := Lib.hid hok; clear hok
    go_enter Try.func27, Try.ntmps27
    go_wp2_with fail
    refine (isS size A cp B R _ (by go_size) (HR.out _ (by go_grown)) h64 true HO.out).mono ?_
    rintro e w1 ⟨rfl, hb1⟩
    have hb1' : Below w.heap.size w w1 := Below.then_ (by go_grown) hb1 (by go_size)
    have hz1' := hb1'.size
    have rb := (RowB.new _ _ _).below hb1 (by go_size)
    obtain ⟨p0, p1⟩ := rb.c2
    go_wp2_with fail
    refine (wl_spec size A cp B R _ (by go_size) (HR.out _ hb1') HO.out).mono ?_
    rintro e w3 ⟨⟨v, rfl, ho⟩, hb3⟩
    have hb3' : Below w.heap.size w w3 := hb1'.trans (hb3.mono hz1')
    clear p0 p1
    go_wp2_with fail
    go_ret2
    refine ⟨⟨_, tup_eq HVC.out, ?_⟩, hb3'⟩
    rw [HVL.out]
    exact ho.less hz1'

end Go.Proofs.Ytoicppnkkhajeaa.TF3
