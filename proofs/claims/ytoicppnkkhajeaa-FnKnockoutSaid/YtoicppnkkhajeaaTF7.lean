/-
  AddResultOf, of the program and of the reference. Conditions: each theorem's own.
-/
import Derived.Test.YtoicppnkkhajeaaTF2
import Derived.Test.YtoicppnkkhajeaaClone
set_option linter.unusedVariables false
namespace Go.Proofs.Ytoicppnkkhajeaa.TF7
open Go.ChangeShapes Go.WideShapes Go.ChangeAt Go.RowKit Base Ints Tourn1 Order Own OrderS Pairs PairsS Bracket TF1 TF2 Pairs2

/-- The code, the size and the results. -/
def arC (size : Int) (R : List Int) (x : Int) : Int :=
  if okT size R then (if (R.length : Int) = size - 1 then 5 else if x = en size R (2 * R.length) then 0 else if x = en size R (2 * R.length + 1) then 0 else 4) else 1
def arS (size : Int) (R : List Int) (x : Int) : Int := if arC size R x = 0 then size else 0
def arL (size : Int) (R : List Int) (x : Int) : List Int := if arC size R x = 0 then R ++ [if x = en size R (2 * R.length + 1) then 1 else 0] else []
theorem arC_ok {size : Int} {R : List Int} {x : Int} (h : arC size R x = 0) : okT size R = true := by
  cases h1 : okT size R
  · simp [arC, h1] at h
  · rfl
theorem arL_len (size : Int) (R : List Int) (x : Int) : (arL size R x).length ≤ 1048576 := by
  unfold arL
  by_cases h : arC size R x = 0
  · have h1 := (okT_parts (arC_ok h)).2.1
    have h2 := (seeds_facts (okT_parts (arC_ok h)).1).2.1
    rw [if_pos h]
    simp; omega
  · rw [if_neg h]; simp
theorem ar_eq {v : Value} {s c s' c' : Int} (h : s = s' ∧ c = c') : Ending.returned (.tuple #[.agg #[.int .i64 s, v], .int .i64 c]) = Ending.returned (.tuple #[.agg #[.int .i64 s', v], .int .i64 c']) := by
  obtain ⟨rfl, rfl⟩ := h; rfl

set_option maxHeartbeats 4000000 in
set_option maxRecDepth 100000 in
theorem ar_impl (size : Int) (A : Option Addr) (cp B : Nat) (R : List Int) (x : Int) (w : World) (hB : B ≤ w.heap.size) (hr : RdS w B 1 enI A R) (h64 : I64 size) (hA : A = none → cp = 0) :
    Calls Try.prog 44 #[.agg #[.int .i64 size, .slice A R.length cp], .int .i64 x] w fun e w' => (∃ v, e = .returned (.tuple #[.agg #[.int .i64 (arS size R x), v], .int .i64 (arC size R x)]) ∧ OwnS w' w.heap.size w'.heap.size 2 1 enI v (arL size R x)) ∧ Below w.heap.size w w' := by
  obtain ⟨i0, hi0, hz0, hz1, hz2⟩ := info_parts Ints.info
  have HR := Lib.hid (fun (w' : World) (hb : Below w.heap.size w w') => hr.below hb hB)
  cases hok : okT size R
  · have HVC := Lib.hid (show 1 = arC size R x by simp [arC, hok])
    have HVS := Lib.hid (show 0 = arS size R x by unfold arS; rw [if_neg (by rw [← HVC.out]; decide)])
    have HVL := Lib.hid (show arL size R x = [] by unfold arL; rw [if_neg (by rw [← HVC.out]; decide)])
    have HO := Lib.hid hok; clear hok
    go_enter Try.func44, Try.ntmps44
    go_wp2_with fail
    refine (isI size A cp B R _ (by go_size) (HR.out _ (by go_grown)) h64 false HO.out).mono ?_
    rintro e w1 ⟨rfl, hb1⟩
    have hb1' : Below w.heap.size w w1 := Below.then_ (by go_grown) hb1 (by go_size)
    have hz1' := hb1'.size
    have rr := (RowB.new _ _ _).below hb1 (by go_size)
    have rb := ((RowB.new _ _ _).alloc _).below hb1 (by go_size)
    simp only [World.size_alloc] at rr
    obtain ⟨p0, p1⟩ := rb.c2
    obtain ⟨s0, s1⟩ := rr.c2
    have hfr := rr.frozen
    go_wp2_with fail
    refine bp_gen (fun W' => Below w.heap.size w W' ∧ RowB W' (w.heap.size + 1) 31 [.int .i64 0, .slice none 0 0]) ⟨by go_grown, (rr.set 0 _).set 1 _⟩ ?_
    rintro W5 ⟨hbw, rr5⟩
    obtain ⟨q0, q1⟩ := rr5.c2
    refine bodyPost_ret (v := .tuple #[.agg #[.int .i64 0, .slice none 0 0], .int .i64 1]) (by simp [results, Try.results44, go_sem, q0, q1]) rfl ?_
    refine ⟨⟨_, ar_eq ⟨HVS.out, HVC.out⟩, ?_⟩, hbw⟩
    rw [HVL.out]
    exact OwnS.nil_ _ _ _ _ _ _
  · have h2 := (seeds_facts (okT_parts hok).1).1
    have h32 := (seeds_facts (okT_parts hok).1).2.1
    have hq := (okT_parts hok).2.1
    by_cases g1 : (R.length : Int) = size - 1
    · have HVC := Lib.hid (show 5 = arC size R x by unfold arC; rw [if_pos hok, if_pos g1])
      have HVS := Lib.hid (show 0 = arS size R x by unfold arS; rw [if_neg (by rw [← HVC.out]; decide)])
      have HVL := Lib.hid (show arL size R x = [] by unfold arL; rw [if_neg (by rw [← HVC.out]; decide)])
      have e1 : ((R.length : Int) == size - 1) = true := by simp [g1]
      clear g1
      have HO := Lib.hid hok; clear hok
      go_enter Try.func44, Try.ntmps44
      go_wp2_with fail
      refine (isI size A cp B R _ (by go_size) (HR.out _ (by go_grown)) h64 true HO.out).mono ?_
      rintro e w1 ⟨rfl, hb1⟩
      have hb1' : Below w.heap.size w w1 := Below.then_ (by go_grown) hb1 (by go_size)
      have hz1' := hb1'.size
      have rr := (RowB.new _ _ _).below hb1 (by go_size)
      have rb := ((RowB.new _ _ _).alloc _).below hb1 (by go_size)
      simp only [World.size_alloc] at rr
      obtain ⟨p0, p1⟩ := rb.c2
      obtain ⟨s0, s1⟩ := rr.c2
      have hfr := rr.frozen
      go_wp2_with fail
      refine bp_gen (fun W' => Below w.heap.size w W' ∧ RowB W' (w.heap.size + 1) 31 [.int .i64 0, .slice none 0 0]) ⟨by go_grown, (rr.set 0 _).set 1 _⟩ ?_
      rintro W5 ⟨hbw, rr5⟩
      obtain ⟨q0, q1⟩ := rr5.c2
      refine bodyPost_ret (v := .tuple #[.agg #[.int .i64 0, .slice none 0 0], .int .i64 5]) (by simp [results, Try.results44, go_sem, q0, q1]) rfl ?_
      refine ⟨⟨_, ar_eq ⟨HVS.out, HVC.out⟩, ?_⟩, hbw⟩
      rw [HVL.out]
      exact OwnS.nil_ _ _ _ _ _ _
    · have e1 : ((R.length : Int) == size - 1) = false := by simp [g1]
      have hk : R.length + 1 < size.toNat := by omega
      have hne := Lib.hid (en_ne R (okT_parts hok).1 hk)
      have hs0 := (en_sign R (okT_parts hok).1 (i := 2 * R.length) (by omega)).2.2.1 (by omega)
      have hs1 := (en_sign R (okT_parts hok).1 (i := 2 * R.length + 1) (by omega)).2.2.1 (by omega)
      by_cases g2 : x = en size R (2 * R.length)
      · have HVC := Lib.hid (show 0 = arC size R x by unfold arC; rw [if_pos hok, if_neg g1, if_pos g2])
        have HVS := Lib.hid (show size = arS size R x by unfold arS; rw [if_pos HVC.out.symm])
        have HVL := Lib.hid (show arL size R x = R ++ [0] by unfold arL; rw [if_pos HVC.out.symm, if_neg (fun h => hne.out hs0 (g2.symm.trans h))])
        clear g1
        subst g2
        have e2 : (en size R (2 * R.length) == en size R (2 * R.length + 1)) = false := by simp [hne.out hs0]
        have HO := Lib.hid hok; clear hok
        go_enter Try.func44, Try.ntmps44
        go_wp2_with fail
        refine (isI size A cp B R _ (by go_size) (HR.out _ (by go_grown)) h64 true HO.out).mono ?_
        rintro e w1 ⟨rfl, hb1⟩
        have hb1' : Below w.heap.size w w1 := Below.then_ (by go_grown) hb1 (by go_size)
        have hz1' := hb1'.size
        have rr := (RowB.new _ _ _).below hb1 (by go_size)
        have rb := ((RowB.new _ _ _).alloc _).below hb1 (by go_size)
        simp only [World.size_alloc] at rr
        obtain ⟨p0, p1⟩ := rb.c2
        obtain ⟨s0, s1⟩ := rr.c2
        have hfr := rr.frozen
        go_wp2_with fail
        refine (bracketZ size A cp B R _ (by go_size) (HR.out _ hb1') HO.out).mono ?_
        rintro e w3 ⟨⟨v, rfl, ho⟩, hb3⟩
        have hb3' : Below w.heap.size w w3 := hb1'.trans (hb3.mono hz1')
        have hz3 := hb3.size
        have rb := rb.below hb3 rb.lt
        have rr := rr.below hb3 rr.lt
        have hrl := rr.lt
        clear p0 p1 s0 s1 hfr
        obtain ⟨p0, p1⟩ := rb.c2
        obtain ⟨s0, s1⟩ := rr.c2
        have hfr := rr.frozen
        obtain ⟨Av, cv, rfl, hrd⟩ := ho.form enM_len
        obtain ⟨b, off, y, rfl, hbb, hx, c0, c1, c2, c3, c4⟩ := rdM_at hrd (i := R.length) (by rw [seg_len]; omega)
        rw [seg_at _ _ _ _ (by omega), Nat.zero_add] at hx
        obtain rfl : bm size R R.length = y := by simpa using hx
        clear hx hrd ho
        simp only [bm] at c0 c1 c2 c3 c4
        rw [seg_len]
        have x1 : (R.length : Int) < ((size.toNat - 1 : Nat) : Int) := by omega
        go_wp2_with fail
        go_region_held3 (fun w' => w'.cell? ⟨w.heap.size, 0, none⟩ = some (.int .i64 size) ∧ w'.cell? ⟨w.heap.size, 1, none⟩ = some (.slice A R.length cp)) (first | exact (rb.alloc _).c2 | exact ((rb.alloc _).alloc _).c2 | exact rb4.c2 | exact rb5.c2 | go_keep) (first | (go_at_call 64; refine (Clone.clone A cp B R _ (by go_size) (HR.out _ ((hb3'.alloc (by omega) _).drew)) hA (by omega)).mono ?_; rintro e w4 ⟨⟨v4, rfl, o4⟩, hb4⟩; have rb4 : RowB w4 w.heap.size 31 [.int .i64 size, .slice A R.length cp] := (RowB.drew (rb.alloc _)).below hb4 (by go_size); have rr4 : RowB w4 (w.heap.size + 1) 31 [.int .i64 0, .slice none 0 0] := (RowB.drew (rr.alloc _)).below hb4 (by go_size); have hw4 : Below w.heap.size w w4 := Below.then_ ((hb3'.alloc (by omega) _).drew) hb4 (by go_size); have hz4 : w3.heap.size ≤ w4.heap.size := (by have := hb4.size; simp at this; omega); have o4 := o4.less (lo' := w3.heap.size) (by go_size)) | (go_at_call 64; refine (Clone.clone A cp B R _ (by go_size) (HR.out _ (((hb3'.alloc (by omega) _).alloc (by go_size) _).drew)) hA (by omega)).mono ?_; rintro e w4 ⟨⟨v4, rfl, o4⟩, hb4⟩; have rb4 : RowB w4 w.heap.size 31 [.int .i64 size, .slice A R.length cp] := (RowB.drew ((rb.alloc _).alloc _)).below hb4 (by go_size); have rr4 : RowB w4 (w.heap.size + 1) 31 [.int .i64 0, .slice none 0 0] := (RowB.drew ((rr.alloc _).alloc _)).below hb4 (by go_size); have rn4 : RowB w4 (w3.heap.size + 1) 2 [.int .i64 0] := (RowB.drew (RowB.new' (w3.alloc _) _ _ (by simp))).below hb4 (by go_size); have hw4 : Below w.heap.size w w4 := Below.then_ (((hb3'.alloc (by omega) _).alloc (by go_size) _).drew) hb4 (by go_size); have hz4 : w3.heap.size + 1 ≤ w4.heap.size := (by have := hb4.size; simp at this; omega); have o4 := o4.less (lo' := w3.heap.size) (by go_size)) | (refine step_app (by rfl) _ _ _ (by rfl) w3.heap.size w4.heap.size 2 i0 (.int .i64 0) 1 8 Try.underlying22 hi0 hz0 hz1 hz2 rfl (by decide) enI_len one_I _ R [0] (by rfl) (o4.alloc _) ⟨w4.heap.size, 0, none⟩ 1 1 (by rfl) (by rfl) (news_new (RowB.new _ _ _)) (by decide) (by unfold maxLen; omega) (by omega) (by first | omega | go_size | (simp; omega)) ?_; intro g5 cap5 w5 o5 hgr5 hat5 hlt5; have rb5 : RowB w5 w.heap.size 31 [.int .i64 size, .slice A R.length cp] := RowB.grown (RowB.alloc rb4 _) hgr5 (fun g hg => by have := (o4.block g hg).1; omega); have rr5 : RowB w5 (w.heap.size + 1) 31 [.int .i64 0, .slice none 0 0] := RowB.grown (RowB.alloc rr4 _) hgr5 (fun g hg => by have := (o4.block g hg).1; omega); obtain ⟨s50, s51⟩ := rr5.c2; have hfr5 := rr5.frozen; have hw5 : Below w.heap.size w w5 := (hw4.alloc (by omega) _).grown hgr5 (by first | omega | go_size | (simp; omega)) (fun g hg => by have := (o4.block g hg).1; omega); have hz5 : w3.heap.size ≤ w5.heap.size := (by have := hgr5.size; (try simp at this); omega)) | (refine step_app (by rfl) _ _ _ (by rfl) w3.heap.size w4.heap.size 2 i0 (.int .i64 0) 1 8 Try.underlying22 hi0 hz0 hz1 hz2 rfl (by decide) enI_len one_I _ R [0] (by rfl) ((o4.alloc _).drew) ⟨w4.heap.size, 0, none⟩ 1 1 (by rfl) (by rfl) (news_new (RowB.drew (RowB.new _ _ _))) (by decide) (by unfold maxLen; omega) (by omega) (by first | omega | go_size | (simp; omega)) ?_; intro g5 cap5 w5 o5 hgr5 hat5 hlt5; have rb5 : RowB w5 w.heap.size 31 [.int .i64 size, .slice A R.length cp] := RowB.grown (RowB.drew (RowB.alloc rb4 _)) hgr5 (fun g hg => by have := (o4.block g hg).1; omega); have rr5 : RowB w5 (w.heap.size + 1) 31 [.int .i64 0, .slice none 0 0] := RowB.grown (RowB.drew (RowB.alloc rr4 _)) hgr5 (fun g hg => by have := (o4.block g hg).1; omega); obtain ⟨s50, s51⟩ := rr5.c2; have hfr5 := rr5.frozen; have hw5 : Below w.heap.size w w5 := ((hw4.alloc (by omega) _).drew).grown hgr5 (by first | omega | go_size | (simp; omega)) (fun g hg => by have := (o4.block g hg).1; omega); have hz5 : w3.heap.size ≤ w5.heap.size := (by have := hgr5.size; (try simp at this); omega)) | (refine step_app (by rfl) _ _ _ (by rfl) w3.heap.size w4.heap.size 2 i0 (.int .i64 0) 1 8 Try.underlying22 hi0 hz0 hz1 hz2 rfl (by decide) enI_len one_I _ R [0] (by rfl) o4 ⟨w3.heap.size + 1, 0, none⟩ 1 1 (by rfl) (by rfl) (news_new rn4) (by decide) (by unfold maxLen; omega) (by omega) (by first | omega | go_size | (simp; omega)) ?_; intro g5 cap5 w5 o5 hgr5 hat5 hlt5; have rb5 : RowB w5 w.heap.size 31 [.int .i64 size, .slice A R.length cp] := RowB.grown rb4 hgr5 (fun g hg => by have := (o4.block g hg).1; omega); have rr5 : RowB w5 (w.heap.size + 1) 31 [.int .i64 0, .slice none 0 0] := RowB.grown rr4 hgr5 (fun g hg => by have := (o4.block g hg).1; omega); obtain ⟨s50, s51⟩ := rr5.c2; have hfr5 := rr5.frozen; have hw5 : Below w.heap.size w w5 := (hw4).grown hgr5 (by first | omega | go_size | (simp; omega)) (fun g hg => by have := (o4.block g hg).1; omega); have hz5 : w3.heap.size ≤ w5.heap.size := (by have := hgr5.size; (try simp at this); omega)) | fail)
        all_goals
          go_wp2_with fail
          refine bp_gen (fun W' => Below w.heap.size w W' ∧ RowB W' (w.heap.size + 1) 31 [.int .i64 size, (.slice (some ⟨g5, 0, none⟩) (R.length + 1) cap5)] ∧ OwnS W' w.heap.size W'.heap.size 2 1 enI (.slice (some ⟨g5, 0, none⟩) (R.length + 1) cap5) (R ++ [0])) ⟨?_, (rr5.set 0 _).set 1 _, ?_⟩ ?_
          · exact (hw5.setCell (by simp) _).setCell (by simp) _
          · simp only [World.size_setCell]; exact ((o5.setCell (p := ⟨w.heap.size + 1, 0, none⟩) hrl _).setCell (p := ⟨w.heap.size + 1, 1, none⟩) hrl _).less (by omega)
          rintro W5 ⟨hbw, rr5, own5⟩
          obtain ⟨q0, q1⟩ := rr5.c2
          refine bodyPost_ret (v := .tuple #[.agg #[.int .i64 size, (.slice (some ⟨g5, 0, none⟩) (R.length + 1) cap5)], .int .i64 0]) (by simp [results, Try.results44, go_sem, q0, q1]) rfl ?_
          refine ⟨⟨_, ar_eq ⟨HVS.out, HVC.out⟩, ?_⟩, hbw⟩
          rw [HVL.out]
          exact own5
      · by_cases g3 : x = en size R (2 * R.length + 1)
        · have HVC := Lib.hid (show 0 = arC size R x by unfold arC; rw [if_pos hok, if_neg g1, if_neg g2, if_pos g3])
          have HVS := Lib.hid (show size = arS size R x by unfold arS; rw [if_pos HVC.out.symm])
          have HVL := Lib.hid (show arL size R x = R ++ [1] by unfold arL; rw [if_pos HVC.out.symm, if_pos g3])
          clear g1 g2
          subst g3
          have e2 : (en size R (2 * R.length) == en size R (2 * R.length + 1)) = false := by simp [hne.out hs0]
          have e3 : (en size R (2 * R.length + 1) == en size R (2 * R.length)) = false := by simp [Ne.symm (hne.out hs0)]
          have e4 : (en size R (2 * R.length + 1) != en size R (2 * R.length)) = true := by simp [Ne.symm (hne.out hs0)]
          have HO := Lib.hid hok; clear hok
          go_enter Try.func44, Try.ntmps44
          go_wp2_with fail
          refine (isI size A cp B R _ (by go_size) (HR.out _ (by go_grown)) h64 true HO.out).mono ?_
          rintro e w1 ⟨rfl, hb1⟩
          have hb1' : Below w.heap.size w w1 := Below.then_ (by go_grown) hb1 (by go_size)
          have hz1' := hb1'.size
          have rr := (RowB.new _ _ _).below hb1 (by go_size)
          have rb := ((RowB.new _ _ _).alloc _).below hb1 (by go_size)
          simp only [World.size_alloc] at rr
          obtain ⟨p0, p1⟩ := rb.c2
          obtain ⟨s0, s1⟩ := rr.c2
          have hfr := rr.frozen
          go_wp2_with fail
          refine (bracketZ size A cp B R _ (by go_size) (HR.out _ hb1') HO.out).mono ?_
          rintro e w3 ⟨⟨v, rfl, ho⟩, hb3⟩
          have hb3' : Below w.heap.size w w3 := hb1'.trans (hb3.mono hz1')
          have hz3 := hb3.size
          have rb := rb.below hb3 rb.lt
          have rr := rr.below hb3 rr.lt
          have hrl := rr.lt
          clear p0 p1 s0 s1 hfr
          obtain ⟨p0, p1⟩ := rb.c2
          obtain ⟨s0, s1⟩ := rr.c2
          have hfr := rr.frozen
          obtain ⟨Av, cv, rfl, hrd⟩ := ho.form enM_len
          obtain ⟨b, off, y, rfl, hbb, hx, c0, c1, c2, c3, c4⟩ := rdM_at hrd (i := R.length) (by rw [seg_len]; omega)
          rw [seg_at _ _ _ _ (by omega), Nat.zero_add] at hx
          obtain rfl : bm size R R.length = y := by simpa using hx
          clear hx hrd ho
          simp only [bm] at c0 c1 c2 c3 c4
          rw [seg_len]
          have x1 : (R.length : Int) < ((size.toNat - 1 : Nat) : Int) := by omega
          go_wp2_with fail
          go_region_held3 (fun w' => w'.cell? ⟨w.heap.size, 0, none⟩ = some (.int .i64 size) ∧ w'.cell? ⟨w.heap.size, 1, none⟩ = some (.slice A R.length cp)) (first | exact (rb.alloc _).c2 | exact ((rb.alloc _).alloc _).c2 | exact rb4.c2 | exact rb5.c2 | go_keep) (first | (go_at_call 64; refine (Clone.clone A cp B R _ (by go_size) (HR.out _ ((hb3'.alloc (by omega) _).drew)) hA (by omega)).mono ?_; rintro e w4 ⟨⟨v4, rfl, o4⟩, hb4⟩; have rb4 : RowB w4 w.heap.size 31 [.int .i64 size, .slice A R.length cp] := (RowB.drew (rb.alloc _)).below hb4 (by go_size); have rr4 : RowB w4 (w.heap.size + 1) 31 [.int .i64 0, .slice none 0 0] := (RowB.drew (rr.alloc _)).below hb4 (by go_size); have hw4 : Below w.heap.size w w4 := Below.then_ ((hb3'.alloc (by omega) _).drew) hb4 (by go_size); have hz4 : w3.heap.size ≤ w4.heap.size := (by have := hb4.size; simp at this; omega); have o4 := o4.less (lo' := w3.heap.size) (by go_size)) | (go_at_call 64; refine (Clone.clone A cp B R _ (by go_size) (HR.out _ (((hb3'.alloc (by omega) _).alloc (by go_size) _).drew)) hA (by omega)).mono ?_; rintro e w4 ⟨⟨v4, rfl, o4⟩, hb4⟩; have rb4 : RowB w4 w.heap.size 31 [.int .i64 size, .slice A R.length cp] := (RowB.drew ((rb.alloc _).alloc _)).below hb4 (by go_size); have rr4 : RowB w4 (w.heap.size + 1) 31 [.int .i64 0, .slice none 0 0] := (RowB.drew ((rr.alloc _).alloc _)).below hb4 (by go_size); have rn4 : RowB w4 (w3.heap.size + 1) 2 [.int .i64 1] := (RowB.drew (RowB.new' (w3.alloc _) _ _ (by simp))).below hb4 (by go_size); have hw4 : Below w.heap.size w w4 := Below.then_ (((hb3'.alloc (by omega) _).alloc (by go_size) _).drew) hb4 (by go_size); have hz4 : w3.heap.size + 1 ≤ w4.heap.size := (by have := hb4.size; simp at this; omega); have o4 := o4.less (lo' := w3.heap.size) (by go_size)) | (refine step_app (by rfl) _ _ _ (by rfl) w3.heap.size w4.heap.size 2 i0 (.int .i64 0) 1 8 Try.underlying22 hi0 hz0 hz1 hz2 rfl (by decide) enI_len one_I _ R [1] (by rfl) (o4.alloc _) ⟨w4.heap.size, 0, none⟩ 1 1 (by rfl) (by rfl) (news_new (RowB.new _ _ _)) (by decide) (by unfold maxLen; omega) (by omega) (by first | omega | go_size | (simp; omega)) ?_; intro g5 cap5 w5 o5 hgr5 hat5 hlt5; have rb5 : RowB w5 w.heap.size 31 [.int .i64 size, .slice A R.length cp] := RowB.grown (RowB.alloc rb4 _) hgr5 (fun g hg => by have := (o4.block g hg).1; omega); have rr5 : RowB w5 (w.heap.size + 1) 31 [.int .i64 0, .slice none 0 0] := RowB.grown (RowB.alloc rr4 _) hgr5 (fun g hg => by have := (o4.block g hg).1; omega); obtain ⟨s50, s51⟩ := rr5.c2; have hfr5 := rr5.frozen; have hw5 : Below w.heap.size w w5 := (hw4.alloc (by omega) _).grown hgr5 (by first | omega | go_size | (simp; omega)) (fun g hg => by have := (o4.block g hg).1; omega); have hz5 : w3.heap.size ≤ w5.heap.size := (by have := hgr5.size; (try simp at this); omega)) | (refine step_app (by rfl) _ _ _ (by rfl) w3.heap.size w4.heap.size 2 i0 (.int .i64 0) 1 8 Try.underlying22 hi0 hz0 hz1 hz2 rfl (by decide) enI_len one_I _ R [1] (by rfl) ((o4.alloc _).drew) ⟨w4.heap.size, 0, none⟩ 1 1 (by rfl) (by rfl) (news_new (RowB.drew (RowB.new _ _ _))) (by decide) (by unfold maxLen; omega) (by omega) (by first | omega | go_size | (simp; omega)) ?_; intro g5 cap5 w5 o5 hgr5 hat5 hlt5; have rb5 : RowB w5 w.heap.size 31 [.int .i64 size, .slice A R.length cp] := RowB.grown (RowB.drew (RowB.alloc rb4 _)) hgr5 (fun g hg => by have := (o4.block g hg).1; omega); have rr5 : RowB w5 (w.heap.size + 1) 31 [.int .i64 0, .slice none 0 0] := RowB.grown (RowB.drew (RowB.alloc rr4 _)) hgr5 (fun g hg => by have := (o4.block g hg).1; omega); obtain ⟨s50, s51⟩ := rr5.c2; have hfr5 := rr5.frozen; have hw5 : Below w.heap.size w w5 := ((hw4.alloc (by omega) _).drew).grown hgr5 (by first | omega | go_size | (simp; omega)) (fun g hg => by have := (o4.block g hg).1; omega); have hz5 : w3.heap.size ≤ w5.heap.size := (by have := hgr5.size; (try simp at this); omega)) | (refine step_app (by rfl) _ _ _ (by rfl) w3.heap.size w4.heap.size 2 i0 (.int .i64 0) 1 8 Try.underlying22 hi0 hz0 hz1 hz2 rfl (by decide) enI_len one_I _ R [1] (by rfl) o4 ⟨w3.heap.size + 1, 0, none⟩ 1 1 (by rfl) (by rfl) (news_new rn4) (by decide) (by unfold maxLen; omega) (by omega) (by first | omega | go_size | (simp; omega)) ?_; intro g5 cap5 w5 o5 hgr5 hat5 hlt5; have rb5 : RowB w5 w.heap.size 31 [.int .i64 size, .slice A R.length cp] := RowB.grown rb4 hgr5 (fun g hg => by have := (o4.block g hg).1; omega); have rr5 : RowB w5 (w.heap.size + 1) 31 [.int .i64 0, .slice none 0 0] := RowB.grown rr4 hgr5 (fun g hg => by have := (o4.block g hg).1; omega); obtain ⟨s50, s51⟩ := rr5.c2; have hfr5 := rr5.frozen; have hw5 : Below w.heap.size w w5 := (hw4).grown hgr5 (by first | omega | go_size | (simp; omega)) (fun g hg => by have := (o4.block g hg).1; omega); have hz5 : w3.heap.size ≤ w5.heap.size := (by have := hgr5.size; (try simp at this); omega)) | fail)
          all_goals
            go_wp2_with fail
            refine bp_gen (fun W' => Below w.heap.size w W' ∧ RowB W' (w.heap.size + 1) 31 [.int .i64 size, (.slice (some ⟨g5, 0, none⟩) (R.length + 1) cap5)] ∧ OwnS W' w.heap.size W'.heap.size 2 1 enI (.slice (some ⟨g5, 0, none⟩) (R.length + 1) cap5) (R ++ [1])) ⟨?_, (rr5.set 0 _).set 1 _, ?_⟩ ?_
            · exact (hw5.setCell (by simp) _).setCell (by simp) _
            · simp only [World.size_setCell]; exact ((o5.setCell (p := ⟨w.heap.size + 1, 0, none⟩) hrl _).setCell (p := ⟨w.heap.size + 1, 1, none⟩) hrl _).less (by omega)
            rintro W5 ⟨hbw, rr5, own5⟩
            obtain ⟨q0, q1⟩ := rr5.c2
            refine bodyPost_ret (v := .tuple #[.agg #[.int .i64 size, (.slice (some ⟨g5, 0, none⟩) (R.length + 1) cap5)], .int .i64 0]) (by simp [results, Try.results44, go_sem, q0, q1]) rfl ?_
            refine ⟨⟨_, ar_eq ⟨HVS.out, HVC.out⟩, ?_⟩, hbw⟩
            rw [HVL.out]
            exact own5
        · have HVC := Lib.hid (show 4 = arC size R x by unfold arC; rw [if_pos hok, if_neg g1, if_neg g2, if_neg g3])
          have HVS := Lib.hid (show 0 = arS size R x by unfold arS; rw [if_neg (by rw [← HVC.out]; decide)])
          have HVL := Lib.hid (show arL size R x = [] by unfold arL; rw [if_neg (by rw [← HVC.out]; decide)])
          have e2 : (x != en size R (2 * R.length)) = true := by simp [g2]
          have e3 : (x != en size R (2 * R.length + 1)) = true := by simp [g3]
          clear g1 g2 g3
          have HO := Lib.hid hok; clear hok
          go_enter Try.func44, Try.ntmps44
          go_wp2_with fail
          refine (isI size A cp B R _ (by go_size) (HR.out _ (by go_grown)) h64 true HO.out).mono ?_
          rintro e w1 ⟨rfl, hb1⟩
          have hb1' : Below w.heap.size w w1 := Below.then_ (by go_grown) hb1 (by go_size)
          have hz1' := hb1'.size
          have rr := (RowB.new _ _ _).below hb1 (by go_size)
          have rb := ((RowB.new _ _ _).alloc _).below hb1 (by go_size)
          simp only [World.size_alloc] at rr
          obtain ⟨p0, p1⟩ := rb.c2
          obtain ⟨s0, s1⟩ := rr.c2
          have hfr := rr.frozen
          go_wp2_with fail
          refine (bracketZ size A cp B R _ (by go_size) (HR.out _ hb1') HO.out).mono ?_
          rintro e w3 ⟨⟨v, rfl, ho⟩, hb3⟩
          have hb3' : Below w.heap.size w w3 := hb1'.trans (hb3.mono hz1')
          have hz3 := hb3.size
          have rb := rb.below hb3 rb.lt
          have rr := rr.below hb3 rr.lt
          have hrl := rr.lt
          clear p0 p1 s0 s1 hfr
          obtain ⟨p0, p1⟩ := rb.c2
          obtain ⟨s0, s1⟩ := rr.c2
          have hfr := rr.frozen
          obtain ⟨Av, cv, rfl, hrd⟩ := ho.form enM_len
          obtain ⟨b, off, y, rfl, hbb, hx, c0, c1, c2, c3, c4⟩ := rdM_at hrd (i := R.length) (by rw [seg_len]; omega)
          rw [seg_at _ _ _ _ (by omega), Nat.zero_add] at hx
          obtain rfl : bm size R R.length = y := by simpa using hx
          clear hx hrd ho
          simp only [bm] at c0 c1 c2 c3 c4
          rw [seg_len]
          have x1 : (R.length : Int) < ((size.toNat - 1 : Nat) : Int) := by omega
          go_wp2_with fail
          refine bp_gen (fun W' => Below w.heap.size w W' ∧ RowB W' (w.heap.size + 1) 31 [.int .i64 0, .slice none 0 0]) ⟨by go_grown, ((rr.set 0 _).set 1 _).alloc _⟩ ?_
          rintro W5 ⟨hbw, rr5⟩
          obtain ⟨q0, q1⟩ := rr5.c2
          refine bodyPost_ret (v := .tuple #[.agg #[.int .i64 0, .slice none 0 0], .int .i64 4]) (by simp [results, Try.results44, go_sem, q0, q1]) rfl ?_
          refine ⟨⟨_, ar_eq ⟨HVS.out, HVC.out⟩, ?_⟩, hbw⟩
          rw [HVL.out]
          exact OwnS.nil_ _ _ _ _ _ _

set_option maxHeartbeats 4000000 in
set_option maxRecDepth 100000 in
theorem ar_spec (size : Int) (A : Option Addr) (cp B : Nat) (R : List Int) (x : Int) (w : World) (hB : B ≤ w.heap.size) (hr : RdS w B 1 enI A R) (h64 : I64 size) (hA : A = none → cp = 0) :
    Calls Try.prog 43 #[.agg #[.int .i64 size, .slice A R.length cp], .int .i64 x] w fun e w' => (∃ v, e = .returned (.tuple #[.agg #[.int .i64 (arS size R x), v], .int .i64 (arC size R x)]) ∧ OwnS w' w.heap.size w'.heap.size 2 1 enI v (arL size R x)) ∧ Below w.heap.size w w' := by
  obtain ⟨i0, hi0, hz0, hz1, hz2⟩ := info_parts Ints.info
  have HR := Lib.hid (fun (w' : World) (hb : Below w.heap.size w w') => hr.below hb hB)
  cases hok : okT size R
  · have HVC := Lib.hid (show 1 = arC size R x by simp [arC, hok])
    have HVS := Lib.hid (show 0 = arS size R x by unfold arS; rw [if_neg (by rw [← HVC.out]; decide)])
    have HVL := Lib.hid (show arL size R x = [] by unfold arL; rw [if_neg (by rw [← HVC.out]; decide)])
    have HO := Lib.hid hok; clear hok
    go_enter Try.func43, Try.ntmps43
    go_wp2_with fail
    refine (isS size A cp B R _ (by go_size) (HR.out _ (by go_grown)) h64 false HO.out).mono ?_
    rintro e w1 ⟨rfl, hb1⟩
    have hb1' : Below w.heap.size w w1 := Below.then_ (by go_grown) hb1 (by go_size)
    have hz1' := hb1'.size
    have rr := (RowB.new _ _ _).below hb1 (by go_size)
    have rb := ((RowB.new _ _ _).alloc _).below hb1 (by go_size)
    simp only [World.size_alloc] at rr
    obtain ⟨p0, p1⟩ := rb.c2
    obtain ⟨s0, s1⟩ := rr.c2
    have hfr := rr.frozen
    go_wp2_with fail
    refine bp_gen (fun W' => Below w.heap.size w W' ∧ RowB W' (w.heap.size + 1) 31 [.int .i64 0, .slice none 0 0]) ⟨by go_grown, (rr.set 0 _).set 1 _⟩ ?_
    rintro W5 ⟨hbw, rr5⟩
    obtain ⟨q0, q1⟩ := rr5.c2
    refine bodyPost_ret (v := .tuple #[.agg #[.int .i64 0, .slice none 0 0], .int .i64 1]) (by simp [results, Try.results43, go_sem, q0, q1]) rfl ?_
    refine ⟨⟨_, ar_eq ⟨HVS.out, HVC.out⟩, ?_⟩, hbw⟩
    rw [HVL.out]
    exact OwnS.nil_ _ _ _ _ _ _
  · have h2 := (seeds_facts (okT_parts hok).1).1
    have h32 := (seeds_facts (okT_parts hok).1).2.1
    have hq := (okT_parts hok).2.1
    by_cases g1 : (R.length : Int) = size - 1
    · have HVC := Lib.hid (show 5 = arC size R x by unfold arC; rw [if_pos hok, if_pos g1])
      have HVS := Lib.hid (show 0 = arS size R x by unfold arS; rw [if_neg (by rw [← HVC.out]; decide)])
      have HVL := Lib.hid (show arL size R x = [] by unfold arL; rw [if_neg (by rw [← HVC.out]; decide)])
      have e1 : ((R.length : Int) == size - 1) = true := by simp [g1]
      clear g1
      have HO := Lib.hid hok; clear hok
      go_enter Try.func43, Try.ntmps43
      go_wp2_with fail
      refine (isS size A cp B R _ (by go_size) (HR.out _ (by go_grown)) h64 true HO.out).mono ?_
      rintro e w1 ⟨rfl, hb1⟩
      have hb1' : Below w.heap.size w w1 := Below.then_ (by go_grown) hb1 (by go_size)
      have hz1' := hb1'.size
      have rr := (RowB.new _ _ _).below hb1 (by go_size)
      have rb := ((RowB.new _ _ _).alloc _).below hb1 (by go_size)
      simp only [World.size_alloc] at rr
      obtain ⟨p0, p1⟩ := rb.c2
      obtain ⟨s0, s1⟩ := rr.c2
      have hfr := rr.frozen
      go_wp2_with fail
      refine bp_gen (fun W' => Below w.heap.size w W' ∧ RowB W' (w.heap.size + 1) 31 [.int .i64 0, .slice none 0 0]) ⟨by go_grown, (rr.set 0 _).set 1 _⟩ ?_
      rintro W5 ⟨hbw, rr5⟩
      obtain ⟨q0, q1⟩ := rr5.c2
      refine bodyPost_ret (v := .tuple #[.agg #[.int .i64 0, .slice none 0 0], .int .i64 5]) (by simp [results, Try.results43, go_sem, q0, q1]) rfl ?_
      refine ⟨⟨_, ar_eq ⟨HVS.out, HVC.out⟩, ?_⟩, hbw⟩
      rw [HVL.out]
      exact OwnS.nil_ _ _ _ _ _ _
    · have e1 : ((R.length : Int) == size - 1) = false := by simp [g1]
      have hk : R.length + 1 < size.toNat := by omega
      have hne := Lib.hid (en_ne R (okT_parts hok).1 hk)
      have hs0 := (en_sign R (okT_parts hok).1 (i := 2 * R.length) (by omega)).2.2.1 (by omega)
      have hs1 := (en_sign R (okT_parts hok).1 (i := 2 * R.length + 1) (by omega)).2.2.1 (by omega)
      by_cases g2 : x = en size R (2 * R.length)
      · have HVC := Lib.hid (show 0 = arC size R x by unfold arC; rw [if_pos hok, if_neg g1, if_pos g2])
        have HVS := Lib.hid (show size = arS size R x by unfold arS; rw [if_pos HVC.out.symm])
        have HVL := Lib.hid (show arL size R x = R ++ [0] by unfold arL; rw [if_pos HVC.out.symm, if_neg (fun h => hne.out hs0 (g2.symm.trans h))])
        clear g1
        subst g2
        have e2 : (en size R (2 * R.length) == en size R (2 * R.length + 1)) = false := by simp [hne.out hs0]
        have HO := Lib.hid hok; clear hok
        go_enter Try.func43, Try.ntmps43
        go_wp2_with fail
        refine (isS size A cp B R _ (by go_size) (HR.out _ (by go_grown)) h64 true HO.out).mono ?_
        rintro e w1 ⟨rfl, hb1⟩
        have hb1' : Below w.heap.size w w1 := Below.then_ (by go_grown) hb1 (by go_size)
        have hz1' := hb1'.size
        have rr := (RowB.new _ _ _).below hb1 (by go_size)
        have rb := ((RowB.new _ _ _).alloc _).below hb1 (by go_size)
        simp only [World.size_alloc] at rr
        obtain ⟨p0, p1⟩ := rb.c2
        obtain ⟨s0, s1⟩ := rr.c2
        have hfr := rr.frozen
        go_wp2_with fail
        refine (pairsZ size A cp B R _ (by go_size) (HR.out _ hb1') HO.out).mono ?_
        rintro e w3 ⟨⟨v, rfl, ho⟩, hb3⟩
        have hb3' : Below w.heap.size w w3 := hb1'.trans (hb3.mono hz1')
        have hz3 := hb3.size
        have rb := rb.below hb3 rb.lt
        have rr := rr.below hb3 rr.lt
        have hrl := rr.lt
        clear p0 p1 s0 s1 hfr
        obtain ⟨p0, p1⟩ := rb.c2
        obtain ⟨s0, s1⟩ := rr.c2
        have hfr := rr.frozen
        obtain ⟨Av, cv, rfl, hrd⟩ := ho.form enI_len
        obtain ⟨b, off, y, rfl, hbb, hx, hc⟩ := rdI_at hrd (i := 2 * R.length) (by rw [seg_len]; omega)
        obtain ⟨b', off', y', he, hbb', hx', hc'⟩ := rdI_at hrd (i := 2 * R.length + 1) (by rw [seg_len]; omega)
        simp only [Option.some.injEq, Addr.mk.injEq, and_true] at he
        obtain ⟨rfl, rfl⟩ := he
        rw [seg_at _ _ _ _ (by omega), Nat.zero_add] at hx hx'
        obtain rfl : en size R (2 * R.length) = y := by simpa using hx
        obtain rfl : en size R (2 * R.length + 1) = y' := by simpa using hx'
        clear hx hx' hrd ho
        rw [seg_len]
        have x1 : 2 * (R.length : Int) < ((2 * size.toNat - 2 : Nat) : Int) := by omega
        have x2 : 2 * (R.length : Int) + 1 < ((2 * size.toNat - 2 : Nat) : Int) := by omega
        go_wp2_with fail
        go_region_held3 (fun w' => w'.cell? ⟨w.heap.size, 0, none⟩ = some (.int .i64 size) ∧ w'.cell? ⟨w.heap.size, 1, none⟩ = some (.slice A R.length cp)) (first | exact rb.c2 | exact (rb.alloc _).c2 | exact rb4.c2 | exact rb5.c2 | go_keep) (first | (go_at_call 63; refine (Clone.own02 A cp B R _ (by go_size) (HR.out _ ((hb3').drew)) hA (by omega)).mono ?_; rintro e w4 ⟨⟨v4, rfl, o4⟩, hb4⟩; have rb4 : RowB w4 w.heap.size 31 [.int .i64 size, .slice A R.length cp] := (RowB.drew rb).below hb4 (by go_size); have rr4 : RowB w4 (w.heap.size + 1) 31 [.int .i64 0, .slice none 0 0] := (RowB.drew rr).below hb4 (by go_size); have hw4 : Below w.heap.size w w4 := Below.then_ ((hb3').drew) hb4 (by go_size); have hz4 : w3.heap.size ≤ w4.heap.size := (by have := hb4.size; simp at this; omega); have o4 := o4.less (lo' := w3.heap.size) (by go_size)) | (go_at_call 63; refine (Clone.own02 A cp B R _ (by go_size) (HR.out _ ((hb3'.alloc (by omega) _).drew)) hA (by omega)).mono ?_; rintro e w4 ⟨⟨v4, rfl, o4⟩, hb4⟩; have rb4 : RowB w4 w.heap.size 31 [.int .i64 size, .slice A R.length cp] := (RowB.drew (rb.alloc _)).below hb4 (by go_size); have rr4 : RowB w4 (w.heap.size + 1) 31 [.int .i64 0, .slice none 0 0] := (RowB.drew (rr.alloc _)).below hb4 (by go_size); have rn4 : RowB w4 (w3.heap.size) 2 [.int .i64 0] := (RowB.drew (RowB.new w3 _ _)).below hb4 (by go_size); have hw4 : Below w.heap.size w w4 := Below.then_ ((hb3'.alloc (by omega) _).drew) hb4 (by go_size); have hz4 : w3.heap.size + 1 ≤ w4.heap.size := (by have := hb4.size; simp at this; omega); have o4 := o4.less (lo' := w3.heap.size) (by go_size)) | (refine step_app (by rfl) _ _ _ (by rfl) w3.heap.size w4.heap.size 2 i0 (.int .i64 0) 1 8 Try.underlying22 hi0 hz0 hz1 hz2 rfl (by decide) enI_len one_I _ R [0] (by rfl) (o4.alloc _) ⟨w4.heap.size, 0, none⟩ 1 1 (by rfl) (by rfl) (news_new (RowB.new _ _ _)) (by decide) (by unfold maxLen; omega) (by omega) (by first | omega | go_size | (simp; omega)) ?_; intro g5 cap5 w5 o5 hgr5 hat5 hlt5; have rb5 : RowB w5 w.heap.size 31 [.int .i64 size, .slice A R.length cp] := RowB.grown (RowB.alloc rb4 _) hgr5 (fun g hg => by have := (o4.block g hg).1; omega); have rr5 : RowB w5 (w.heap.size + 1) 31 [.int .i64 0, .slice none 0 0] := RowB.grown (RowB.alloc rr4 _) hgr5 (fun g hg => by have := (o4.block g hg).1; omega); obtain ⟨s50, s51⟩ := rr5.c2; have hfr5 := rr5.frozen; have hw5 : Below w.heap.size w w5 := (hw4.alloc (by omega) _).grown hgr5 (by first | omega | go_size | (simp; omega)) (fun g hg => by have := (o4.block g hg).1; omega); have hz5 : w3.heap.size ≤ w5.heap.size := (by have := hgr5.size; (try simp at this); omega)) | (refine step_app (by rfl) _ _ _ (by rfl) w3.heap.size w4.heap.size 2 i0 (.int .i64 0) 1 8 Try.underlying22 hi0 hz0 hz1 hz2 rfl (by decide) enI_len one_I _ R [0] (by rfl) ((o4.alloc _).drew) ⟨w4.heap.size, 0, none⟩ 1 1 (by rfl) (by rfl) (news_new (RowB.drew (RowB.new _ _ _))) (by decide) (by unfold maxLen; omega) (by omega) (by first | omega | go_size | (simp; omega)) ?_; intro g5 cap5 w5 o5 hgr5 hat5 hlt5; have rb5 : RowB w5 w.heap.size 31 [.int .i64 size, .slice A R.length cp] := RowB.grown (RowB.drew (RowB.alloc rb4 _)) hgr5 (fun g hg => by have := (o4.block g hg).1; omega); have rr5 : RowB w5 (w.heap.size + 1) 31 [.int .i64 0, .slice none 0 0] := RowB.grown (RowB.drew (RowB.alloc rr4 _)) hgr5 (fun g hg => by have := (o4.block g hg).1; omega); obtain ⟨s50, s51⟩ := rr5.c2; have hfr5 := rr5.frozen; have hw5 : Below w.heap.size w w5 := ((hw4.alloc (by omega) _).drew).grown hgr5 (by first | omega | go_size | (simp; omega)) (fun g hg => by have := (o4.block g hg).1; omega); have hz5 : w3.heap.size ≤ w5.heap.size := (by have := hgr5.size; (try simp at this); omega)) | (refine step_app (by rfl) _ _ _ (by rfl) w3.heap.size w4.heap.size 2 i0 (.int .i64 0) 1 8 Try.underlying22 hi0 hz0 hz1 hz2 rfl (by decide) enI_len one_I _ R [0] (by rfl) o4 ⟨w3.heap.size, 0, none⟩ 1 1 (by rfl) (by rfl) (news_new rn4) (by decide) (by unfold maxLen; omega) (by omega) (by first | omega | go_size | (simp; omega)) ?_; intro g5 cap5 w5 o5 hgr5 hat5 hlt5; have rb5 : RowB w5 w.heap.size 31 [.int .i64 size, .slice A R.length cp] := RowB.grown rb4 hgr5 (fun g hg => by have := (o4.block g hg).1; omega); have rr5 : RowB w5 (w.heap.size + 1) 31 [.int .i64 0, .slice none 0 0] := RowB.grown rr4 hgr5 (fun g hg => by have := (o4.block g hg).1; omega); obtain ⟨s50, s51⟩ := rr5.c2; have hfr5 := rr5.frozen; have hw5 : Below w.heap.size w w5 := (hw4).grown hgr5 (by first | omega | go_size | (simp; omega)) (fun g hg => by have := (o4.block g hg).1; omega); have hz5 : w3.heap.size ≤ w5.heap.size := (by have := hgr5.size; (try simp at this); omega)) | fail)
        all_goals
          go_wp2_with fail
          refine bp_gen (fun W' => Below w.heap.size w W' ∧ RowB W' (w.heap.size + 1) 31 [.int .i64 size, (.slice (some ⟨g5, 0, none⟩) (R.length + 1) cap5)] ∧ OwnS W' w.heap.size W'.heap.size 2 1 enI (.slice (some ⟨g5, 0, none⟩) (R.length + 1) cap5) (R ++ [0])) ⟨?_, (rr5.set 0 _).set 1 _, ?_⟩ ?_
          · exact (hw5.setCell (by simp) _).setCell (by simp) _
          · simp only [World.size_setCell]; exact ((o5.setCell (p := ⟨w.heap.size + 1, 0, none⟩) hrl _).setCell (p := ⟨w.heap.size + 1, 1, none⟩) hrl _).less (by omega)
          rintro W5 ⟨hbw, rr5, own5⟩
          obtain ⟨q0, q1⟩ := rr5.c2
          refine bodyPost_ret (v := .tuple #[.agg #[.int .i64 size, (.slice (some ⟨g5, 0, none⟩) (R.length + 1) cap5)], .int .i64 0]) (by simp [results, Try.results43, go_sem, q0, q1]) rfl ?_
          refine ⟨⟨_, ar_eq ⟨HVS.out, HVC.out⟩, ?_⟩, hbw⟩
          rw [HVL.out]
          exact own5
      · by_cases g3 : x = en size R (2 * R.length + 1)
        · have HVC := Lib.hid (show 0 = arC size R x by unfold arC; rw [if_pos hok, if_neg g1, if_neg g2, if_pos g3])
          have HVS := Lib.hid (show size = arS size R x by unfold arS; rw [if_pos HVC.out.symm])
          have HVL := Lib.hid (show arL size R x = R ++ [1] by unfold arL; rw [if_pos HVC.out.symm, if_pos g3])
          clear g1 g2
          subst g3
          have e2 : (en size R (2 * R.length) == en size R (2 * R.length + 1)) = false := by simp [hne.out hs0]
          have e3 : (en size R (2 * R.length + 1) == en size R (2 * R.length)) = false := by simp [Ne.symm (hne.out hs0)]
          have e4 : (en size R (2 * R.length + 1) != en size R (2 * R.length)) = true := by simp [Ne.symm (hne.out hs0)]
          have HO := Lib.hid hok; clear hok
          go_enter Try.func43, Try.ntmps43
          go_wp2_with fail
          refine (isS size A cp B R _ (by go_size) (HR.out _ (by go_grown)) h64 true HO.out).mono ?_
          rintro e w1 ⟨rfl, hb1⟩
          have hb1' : Below w.heap.size w w1 := Below.then_ (by go_grown) hb1 (by go_size)
          have hz1' := hb1'.size
          have rr := (RowB.new _ _ _).below hb1 (by go_size)
          have rb := ((RowB.new _ _ _).alloc _).below hb1 (by go_size)
          simp only [World.size_alloc] at rr
          obtain ⟨p0, p1⟩ := rb.c2
          obtain ⟨s0, s1⟩ := rr.c2
          have hfr := rr.frozen
          go_wp2_with fail
          refine (pairsZ size A cp B R _ (by go_size) (HR.out _ hb1') HO.out).mono ?_
          rintro e w3 ⟨⟨v, rfl, ho⟩, hb3⟩
          have hb3' : Below w.heap.size w w3 := hb1'.trans (hb3.mono hz1')
          have hz3 := hb3.size
          have rb := rb.below hb3 rb.lt
          have rr := rr.below hb3 rr.lt
          have hrl := rr.lt
          clear p0 p1 s0 s1 hfr
          obtain ⟨p0, p1⟩ := rb.c2
          obtain ⟨s0, s1⟩ := rr.c2
          have hfr := rr.frozen
          obtain ⟨Av, cv, rfl, hrd⟩ := ho.form enI_len
          obtain ⟨b, off, y, rfl, hbb, hx, hc⟩ := rdI_at hrd (i := 2 * R.length) (by rw [seg_len]; omega)
          obtain ⟨b', off', y', he, hbb', hx', hc'⟩ := rdI_at hrd (i := 2 * R.length + 1) (by rw [seg_len]; omega)
          simp only [Option.some.injEq, Addr.mk.injEq, and_true] at he
          obtain ⟨rfl, rfl⟩ := he
          rw [seg_at _ _ _ _ (by omega), Nat.zero_add] at hx hx'
          obtain rfl : en size R (2 * R.length) = y := by simpa using hx
          obtain rfl : en size R (2 * R.length + 1) = y' := by simpa using hx'
          clear hx hx' hrd ho
          rw [seg_len]
          have x1 : 2 * (R.length : Int) < ((2 * size.toNat - 2 : Nat) : Int) := by omega
          have x2 : 2 * (R.length : Int) + 1 < ((2 * size.toNat - 2 : Nat) : Int) := by omega
          go_wp2_with fail
          go_region_held3 (fun w' => w'.cell? ⟨w.heap.size, 0, none⟩ = some (.int .i64 size) ∧ w'.cell? ⟨w.heap.size, 1, none⟩ = some (.slice A R.length cp)) (first | exact rb.c2 | exact (rb.alloc _).c2 | exact rb4.c2 | exact rb5.c2 | go_keep) (first | (go_at_call 63; refine (Clone.own02 A cp B R _ (by go_size) (HR.out _ ((hb3').drew)) hA (by omega)).mono ?_; rintro e w4 ⟨⟨v4, rfl, o4⟩, hb4⟩; have rb4 : RowB w4 w.heap.size 31 [.int .i64 size, .slice A R.length cp] := (RowB.drew rb).below hb4 (by go_size); have rr4 : RowB w4 (w.heap.size + 1) 31 [.int .i64 0, .slice none 0 0] := (RowB.drew rr).below hb4 (by go_size); have hw4 : Below w.heap.size w w4 := Below.then_ ((hb3').drew) hb4 (by go_size); have hz4 : w3.heap.size ≤ w4.heap.size := (by have := hb4.size; simp at this; omega); have o4 := o4.less (lo' := w3.heap.size) (by go_size)) | (go_at_call 63; refine (Clone.own02 A cp B R _ (by go_size) (HR.out _ ((hb3'.alloc (by omega) _).drew)) hA (by omega)).mono ?_; rintro e w4 ⟨⟨v4, rfl, o4⟩, hb4⟩; have rb4 : RowB w4 w.heap.size 31 [.int .i64 size, .slice A R.length cp] := (RowB.drew (rb.alloc _)).below hb4 (by go_size); have rr4 : RowB w4 (w.heap.size + 1) 31 [.int .i64 0, .slice none 0 0] := (RowB.drew (rr.alloc _)).below hb4 (by go_size); have rn4 : RowB w4 (w3.heap.size) 2 [.int .i64 1] := (RowB.drew (RowB.new w3 _ _)).below hb4 (by go_size); have hw4 : Below w.heap.size w w4 := Below.then_ ((hb3'.alloc (by omega) _).drew) hb4 (by go_size); have hz4 : w3.heap.size + 1 ≤ w4.heap.size := (by have := hb4.size; simp at this; omega); have o4 := o4.less (lo' := w3.heap.size) (by go_size)) | (refine step_app (by rfl) _ _ _ (by rfl) w3.heap.size w4.heap.size 2 i0 (.int .i64 0) 1 8 Try.underlying22 hi0 hz0 hz1 hz2 rfl (by decide) enI_len one_I _ R [1] (by rfl) (o4.alloc _) ⟨w4.heap.size, 0, none⟩ 1 1 (by rfl) (by rfl) (news_new (RowB.new _ _ _)) (by decide) (by unfold maxLen; omega) (by omega) (by first | omega | go_size | (simp; omega)) ?_; intro g5 cap5 w5 o5 hgr5 hat5 hlt5; have rb5 : RowB w5 w.heap.size 31 [.int .i64 size, .slice A R.length cp] := RowB.grown (RowB.alloc rb4 _) hgr5 (fun g hg => by have := (o4.block g hg).1; omega); have rr5 : RowB w5 (w.heap.size + 1) 31 [.int .i64 0, .slice none 0 0] := RowB.grown (RowB.alloc rr4 _) hgr5 (fun g hg => by have := (o4.block g hg).1; omega); obtain ⟨s50, s51⟩ := rr5.c2; have hfr5 := rr5.frozen; have hw5 : Below w.heap.size w w5 := (hw4.alloc (by omega) _).grown hgr5 (by first | omega | go_size | (simp; omega)) (fun g hg => by have := (o4.block g hg).1; omega); have hz5 : w3.heap.size ≤ w5.heap.size := (by have := hgr5.size; (try simp at this); omega)) | (refine step_app (by rfl) _ _ _ (by rfl) w3.heap.size w4.heap.size 2 i0 (.int .i64 0) 1 8 Try.underlying22 hi0 hz0 hz1 hz2 rfl (by decide) enI_len one_I _ R [1] (by rfl) ((o4.alloc _).drew) ⟨w4.heap.size, 0, none⟩ 1 1 (by rfl) (by rfl) (news_new (RowB.drew (RowB.new _ _ _))) (by decide) (by unfold maxLen; omega) (by omega) (by first | omega | go_size | (simp; omega)) ?_; intro g5 cap5 w5 o5 hgr5 hat5 hlt5; have rb5 : RowB w5 w.heap.size 31 [.int .i64 size, .slice A R.length cp] := RowB.grown (RowB.drew (RowB.alloc rb4 _)) hgr5 (fun g hg => by have := (o4.block g hg).1; omega); have rr5 : RowB w5 (w.heap.size + 1) 31 [.int .i64 0, .slice none 0 0] := RowB.grown (RowB.drew (RowB.alloc rr4 _)) hgr5 (fun g hg => by have := (o4.block g hg).1; omega); obtain ⟨s50, s51⟩ := rr5.c2; have hfr5 := rr5.frozen; have hw5 : Below w.heap.size w w5 := ((hw4.alloc (by omega) _).drew).grown hgr5 (by first | omega | go_size | (simp; omega)) (fun g hg => by have := (o4.block g hg).1; omega); have hz5 : w3.heap.size ≤ w5.heap.size := (by have := hgr5.size; (try simp at this); omega)) | (refine step_app (by rfl) _ _ _ (by rfl) w3.heap.size w4.heap.size 2 i0 (.int .i64 0) 1 8 Try.underlying22 hi0 hz0 hz1 hz2 rfl (by decide) enI_len one_I _ R [1] (by rfl) o4 ⟨w3.heap.size, 0, none⟩ 1 1 (by rfl) (by rfl) (news_new rn4) (by decide) (by unfold maxLen; omega) (by omega) (by first | omega | go_size | (simp; omega)) ?_; intro g5 cap5 w5 o5 hgr5 hat5 hlt5; have rb5 : RowB w5 w.heap.size 31 [.int .i64 size, .slice A R.length cp] := RowB.grown rb4 hgr5 (fun g hg => by have := (o4.block g hg).1; omega); have rr5 : RowB w5 (w.heap.size + 1) 31 [.int .i64 0, .slice none 0 0] := RowB.grown rr4 hgr5 (fun g hg => by have := (o4.block g hg).1; omega); obtain ⟨s50, s51⟩ := rr5.c2; have hfr5 := rr5.frozen; have hw5 : Below w.heap.size w w5 := (hw4).grown hgr5 (by first | omega | go_size | (simp; omega)) (fun g hg => by have := (o4.block g hg).1; omega); have hz5 : w3.heap.size ≤ w5.heap.size := (by have := hgr5.size; (try simp at this); omega)) | fail)
          all_goals
            go_wp2_with fail
            refine bp_gen (fun W' => Below w.heap.size w W' ∧ RowB W' (w.heap.size + 1) 31 [.int .i64 size, (.slice (some ⟨g5, 0, none⟩) (R.length + 1) cap5)] ∧ OwnS W' w.heap.size W'.heap.size 2 1 enI (.slice (some ⟨g5, 0, none⟩) (R.length + 1) cap5) (R ++ [1])) ⟨?_, (rr5.set 0 _).set 1 _, ?_⟩ ?_
            · exact (hw5.setCell (by simp) _).setCell (by simp) _
            · simp only [World.size_setCell]; exact ((o5.setCell (p := ⟨w.heap.size + 1, 0, none⟩) hrl _).setCell (p := ⟨w.heap.size + 1, 1, none⟩) hrl _).less (by omega)
            rintro W5 ⟨hbw, rr5, own5⟩
            obtain ⟨q0, q1⟩ := rr5.c2
            refine bodyPost_ret (v := .tuple #[.agg #[.int .i64 size, (.slice (some ⟨g5, 0, none⟩) (R.length + 1) cap5)], .int .i64 0]) (by simp [results, Try.results43, go_sem, q0, q1]) rfl ?_
            refine ⟨⟨_, ar_eq ⟨HVS.out, HVC.out⟩, ?_⟩, hbw⟩
            rw [HVL.out]
            exact own5
        · by_cases g4 : 0 ≤ x
          · have HVC := Lib.hid (show 4 = arC size R x by unfold arC; rw [if_pos hok, if_neg g1, if_neg g2, if_neg g3])
            have HVS := Lib.hid (show 0 = arS size R x by unfold arS; rw [if_neg (by rw [← HVC.out]; decide)])
            have HVL := Lib.hid (show arL size R x = [] by unfold arL; rw [if_neg (by rw [← HVC.out]; decide)])
            have e2 : (en size R (2 * R.length) == x) = false := by simp [Ne.symm g2]
            have e3 : (en size R (2 * R.length + 1) == x) = false := by simp [Ne.symm g3]
            clear g1 g2 g3
            have HO := Lib.hid hok; clear hok
            go_enter Try.func43, Try.ntmps43
            go_wp2_with fail
            refine (isS size A cp B R _ (by go_size) (HR.out _ (by go_grown)) h64 true HO.out).mono ?_
            rintro e w1 ⟨rfl, hb1⟩
            have hb1' : Below w.heap.size w w1 := Below.then_ (by go_grown) hb1 (by go_size)
            have hz1' := hb1'.size
            have rr := (RowB.new _ _ _).below hb1 (by go_size)
            have rb := ((RowB.new _ _ _).alloc _).below hb1 (by go_size)
            simp only [World.size_alloc] at rr
            obtain ⟨p0, p1⟩ := rb.c2
            obtain ⟨s0, s1⟩ := rr.c2
            have hfr := rr.frozen
            go_wp2_with fail
            refine (pairsZ size A cp B R _ (by go_size) (HR.out _ hb1') HO.out).mono ?_
            rintro e w3 ⟨⟨v, rfl, ho⟩, hb3⟩
            have hb3' : Below w.heap.size w w3 := hb1'.trans (hb3.mono hz1')
            have hz3 := hb3.size
            have rb := rb.below hb3 rb.lt
            have rr := rr.below hb3 rr.lt
            have hrl := rr.lt
            clear p0 p1 s0 s1 hfr
            obtain ⟨p0, p1⟩ := rb.c2
            obtain ⟨s0, s1⟩ := rr.c2
            have hfr := rr.frozen
            obtain ⟨Av, cv, rfl, hrd⟩ := ho.form enI_len
            obtain ⟨b, off, y, rfl, hbb, hx, hc⟩ := rdI_at hrd (i := 2 * R.length) (by rw [seg_len]; omega)
            obtain ⟨b', off', y', he, hbb', hx', hc'⟩ := rdI_at hrd (i := 2 * R.length + 1) (by rw [seg_len]; omega)
            simp only [Option.some.injEq, Addr.mk.injEq, and_true] at he
            obtain ⟨rfl, rfl⟩ := he
            rw [seg_at _ _ _ _ (by omega), Nat.zero_add] at hx hx'
            obtain rfl : en size R (2 * R.length) = y := by simpa using hx
            obtain rfl : en size R (2 * R.length + 1) = y' := by simpa using hx'
            clear hx hx' hrd ho
            rw [seg_len]
            have x1 : 2 * (R.length : Int) < ((2 * size.toNat - 2 : Nat) : Int) := by omega
            have x2 : 2 * (R.length : Int) + 1 < ((2 * size.toNat - 2 : Nat) : Int) := by omega
            go_wp2_with fail
            refine bp_gen (fun W' => Below w.heap.size w W' ∧ RowB W' (w.heap.size + 1) 31 [.int .i64 0, .slice none 0 0]) ⟨by go_grown, (rr.set 0 _).set 1 _⟩ ?_
            rintro W5 ⟨hbw, rr5⟩
            obtain ⟨q0, q1⟩ := rr5.c2
            refine bodyPost_ret (v := .tuple #[.agg #[.int .i64 0, .slice none 0 0], .int .i64 4]) (by simp [results, Try.results43, go_sem, q0, q1]) rfl ?_
            refine ⟨⟨_, ar_eq ⟨HVS.out, HVC.out⟩, ?_⟩, hbw⟩
            rw [HVL.out]
            exact OwnS.nil_ _ _ _ _ _ _
          · have HVC := Lib.hid (show 4 = arC size R x by unfold arC; rw [if_pos hok, if_neg g1, if_neg g2, if_neg g3])
            have HVS := Lib.hid (show 0 = arS size R x by unfold arS; rw [if_neg (by rw [← HVC.out]; decide)])
            have HVL := Lib.hid (show arL size R x = [] by unfold arL; rw [if_neg (by rw [← HVC.out]; decide)])
            have e2 : (en size R (2 * R.length) == x) = false := by simp [Ne.symm g2]
            have e3 : (en size R (2 * R.length + 1) == x) = false := by simp [Ne.symm g3]
            clear g1 g2 g3
            have hd : decide (0 ≤ x) = false := decide_eq_false g4
            replace g4 := Int.not_le.1 g4
            have HO := Lib.hid hok; clear hok
            go_enter Try.func43, Try.ntmps43
            go_wp2_with fail
            refine (isS size A cp B R _ (by go_size) (HR.out _ (by go_grown)) h64 true HO.out).mono ?_
            rintro e w1 ⟨rfl, hb1⟩
            have hb1' : Below w.heap.size w w1 := Below.then_ (by go_grown) hb1 (by go_size)
            have hz1' := hb1'.size
            have rr := (RowB.new _ _ _).below hb1 (by go_size)
            have rb := ((RowB.new _ _ _).alloc _).below hb1 (by go_size)
            simp only [World.size_alloc] at rr
            obtain ⟨p0, p1⟩ := rb.c2
            obtain ⟨s0, s1⟩ := rr.c2
            have hfr := rr.frozen
            go_wp2_with fail
            refine (pairsZ size A cp B R _ (by go_size) (HR.out _ hb1') HO.out).mono ?_
            rintro e w3 ⟨⟨v, rfl, ho⟩, hb3⟩
            have hb3' : Below w.heap.size w w3 := hb1'.trans (hb3.mono hz1')
            have hz3 := hb3.size
            have rb := rb.below hb3 rb.lt
            have rr := rr.below hb3 rr.lt
            have hrl := rr.lt
            clear p0 p1 s0 s1 hfr
            obtain ⟨p0, p1⟩ := rb.c2
            obtain ⟨s0, s1⟩ := rr.c2
            have hfr := rr.frozen
            obtain ⟨Av, cv, rfl, hrd⟩ := ho.form enI_len
            obtain ⟨b, off, y, rfl, hbb, hx, hc⟩ := rdI_at hrd (i := 2 * R.length) (by rw [seg_len]; omega)
            obtain ⟨b', off', y', he, hbb', hx', hc'⟩ := rdI_at hrd (i := 2 * R.length + 1) (by rw [seg_len]; omega)
            simp only [Option.some.injEq, Addr.mk.injEq, and_true] at he
            obtain ⟨rfl, rfl⟩ := he
            rw [seg_at _ _ _ _ (by omega), Nat.zero_add] at hx hx'
            obtain rfl : en size R (2 * R.length) = y := by simpa using hx
            obtain rfl : en size R (2 * R.length + 1) = y' := by simpa using hx'
            clear hx hx' hrd ho
            rw [seg_len]
            have x1 : 2 * (R.length : Int) < ((2 * size.toNat - 2 : Nat) : Int) := by omega
            have x2 : 2 * (R.length : Int) + 1 < ((2 * size.toNat - 2 : Nat) : Int) := by omega
            go_wp2_with fail
            refine bp_gen (fun W' => Below w.heap.size w W' ∧ RowB W' (w.heap.size + 1) 31 [.int .i64 0, .slice none 0 0]) ⟨by go_grown, (rr.set 0 _).set 1 _⟩ ?_
            rintro W5 ⟨hbw, rr5⟩
            obtain ⟨q0, q1⟩ := rr5.c2
            refine bodyPost_ret (v := .tuple #[.agg #[.int .i64 0, .slice none 0 0], .int .i64 4]) (by simp [results, Try.results43, go_sem, q0, q1]) rfl ?_
            refine ⟨⟨_, ar_eq ⟨HVS.out, HVC.out⟩, ?_⟩, hbw⟩
            rw [HVL.out]
            exact OwnS.nil_ _ _ _ _ _ _

end Go.Proofs.Ytoicppnkkhajeaa.TF7
