/-
  PlacesOf, of the program and of the reference. Conditions: each theorem's own.
-/
import Derived.Test.YtoicppnkkhajeaaTF3
set_option linter.unusedVariables false
namespace Go.Proofs.Ytoicppnkkhajeaa.TF6
open Go.ChangeShapes Go.WideShapes Go.ChangeAt Go.RowKit Base Ints Tourn1 Order Own OrderS Pairs PairsS Bracket TF1 TF2 TF3

/-- The places behind k matches. -/
def plA (size : Int) (R : List Int) : Nat → List Int
  | 0 => List.replicate size.toNat 0
  | k + 1 => if rd size.toNat k = 1 then ((plA size R k).set (lo size R k).toNat ((rd size.toNat k : Int) + 1)).set (wi size R k).toNat 1 else (plA size R k).set (lo size R k).toNat ((rd size.toNat k : Int) + 1)
def plL (size : Int) (R : List Int) : List Int := if okT size R then plA size R R.length else []
theorem rep_flat (n : Nat) : (List.replicate n (0 : Int)).flatMap enI = List.replicate n (Value.int .i64 0) := by
  induction n with
  | zero => rfl
  | succ n ih => rw [List.replicate_succ, List.flatMap_cons, ih, List.replicate_succ]; rfl
theorem plA_len (size : Int) (R : List Int) (k : Nat) : (plA size R k).length = size.toNat := by
  induction k with
  | zero => simp [plA]
  | succ k ih => unfold plA; split <;> simp [ih]
theorem plL_len (size : Int) (R : List Int) : (plL size R).length ≤ 1048576 := by
  unfold plL
  cases h : okT size R
  · simp
  · have h1 := (seeds_facts (okT_parts h).1).2.1
    simp only [if_true, plA_len]
    omega
theorem flat_set (xs : List Int) (i : Nat) (y : Int) : (xs.flatMap enI).set i (.int .i64 y) = (xs.set i y).flatMap enI := by
  induction xs generalizing i with
  | nil => rfl
  | cons x xs ih => cases i with
    | zero => rfl
    | succ i => simp only [List.flatMap_cons, enI, List.cons_append, List.nil_append, List.set_cons_succ]; exact congrArg _ (ih i)
theorem RowB.setI {w : World} {g : Nat} {e : TypeId} {xs : List Int} (h : RowB w g e (xs.flatMap enI)) (i : Nat) (y : Int) : RowB (w.setCell ⟨g, i, none⟩ (.int .i64 y)) g e ((xs.set i y).flatMap enI) := by
  rw [← flat_set]; exact h.set i _
theorem RowB.has {w : World} {g : Nat} {e : TypeId} {xs : List Int} (h : RowB w g e (xs.flatMap enI)) {i : Nat} (hi : i < xs.length) : ∃ z, w.cell? ⟨g, i, none⟩ = some z := by
  rw [h.cell]
  exact ⟨_, List.getElem?_eq_getElem (by rw [flatMap_len enI_len]; omega)⟩

theorem rd_fin3 : ∀ a : Fin 6, ∀ k : Fin 32, 1 ≤ a.val → k.val + 1 < 2 ^ a.val → (rd (2 ^ a.val) k.val = 1 ↔ k.val + 2 = 2 ^ a.val) ∧ rd (2 ^ a.val) k.val ≤ 16 ∧ 1 ≤ rd (2 ^ a.val) k.val ∧ rd (2 ^ a.val) k.val = rdf a.val (2 ^ (a.val - 1)) k.val := by decide +kernel
theorem rd_facts {size : Int} (h : okSz size = true) {k : Nat} (hk : k + 1 < size.toNat) : (rd size.toNat k = 1 ↔ k + 2 = size.toNat) ∧ rd size.toNat k ≤ 16 ∧ 1 ≤ rd size.toNat k := by
  obtain ⟨a, h1, h2, h3, _⟩ := okSz_pow h
  have h32 := (seeds_facts h).2.1
  rw [h3] at hk ⊢
  have := rd_fin3 ⟨a, by omega⟩ ⟨k, by omega⟩ h1 hk
  exact ⟨this.1, this.2.1, this.2.2.1⟩

set_option maxHeartbeats 1000000 in
theorem l32m (size : Int) (k : Nat) (w : World) (h : okSz size = true) (hk : k + 1 < size.toNat) :
    Calls Try.prog 62 #[.int .i64 size, .int .i64 k] w fun e w' => e = .returned (.int .i64 (rd size.toNat k)) ∧ w = w' := by
  obtain ⟨a, h1, h2, h3, h4⟩ := okSz_pow h
  have h32 := (seeds_facts h).2.1
  have hk32 : k < 32 := by omega
  have hr := (rd_fin3 ⟨a, by omega⟩ ⟨k, by omega⟩ h1 (by rw [← h3]; exact hk)).2.2.2
  simp only [] at hr
  rw [← h3] at hr
  generalize rd size.toNat k = r at *
  obtain ⟨b, rfl⟩ : ∃ b, a = b + 1 := ⟨a - 1, by omega⟩
  have hp : 2 ^ (b + 1) = 2 * 2 ^ b := by rw [Nat.pow_succ]; omega
  simp only [Nat.add_sub_cancel] at hr
  rw [hp] at h4 h3
  obtain ⟨p, hpp⟩ : ∃ p, p = 2 ^ b := ⟨_, rfl⟩
  rw [← hpp] at hr h3 h4
  have hp1 : 1 ≤ p := by rw [hpp]; exact Nat.one_le_two_pow
  have hsz : size / 2 = (p : Int) := by omega
  have hs0 : 0 ≤ size := by omega
  have HR0 := Lib.hid (show ∃ f, p = 2 ^ f ∧ f ≤ 4 ∧ r = rdf (f + 1) p k from ⟨b, hpp, by omega, hr⟩)
  have hk1 : k + 1 < 2 * p := by omega
  have hp16 : p ≤ 16 := by omega
  clear h hk hr h1 h2 h3 h4 hp hpp h32
  go_enter Try.func62, Try.ntmps62
  go_wp2
  go_loop [1, 5] (fun jv pv => ∃ j p : Nat, jv = .int .i64 j ∧ pv = .int .i64 p ∧ 1 ≤ p ∧ p ≤ 16 ∧ j + 1 < 2 * p ∧ Hid (∃ f, p = 2 ^ f ∧ f ≤ 4 ∧ r = rdf (f + 1) p j)) (fun _ pv => (intOf pv).toNat)
  case atStart => exact ⟨k, p, rfl, by rw [hsz], hp1, hp16, hk1, HR0⟩
  case round =>
    clear HR0 hk1 hp1 hp16 hsz hs0
    obtain ⟨j, p, rfl, rfl, hp1, hp16, hj, HF⟩ := hrel
    by_cases hlt : p ≤ j
    · obtain ⟨p', hp2, hp3⟩ : ∃ p', 2 * p' ≤ p ∧ p ≤ 2 * p' ∧ 1 ≤ p' ∧ Hid (∃ f, p' = 2 ^ f ∧ f ≤ 4 ∧ r = rdf (f + 1) p' (j - p)) := by
        obtain ⟨f, h1, h2, h3⟩ := HF.out
        cases f with
        | zero => simp at h1; omega
        | succ f =>
          have hp : 2 ^ (f + 1) = 2 * 2 ^ f := by rw [Nat.pow_succ]; omega
          refine ⟨2 ^ f, by omega, by omega, Nat.one_le_two_pow, f, rfl, by omega, ?_⟩
          rw [h3, rdf, if_neg (by omega), h1, hp, Nat.mul_div_cancel_left _ (by decide)]
      obtain ⟨hp3, hp4, HF'⟩ := hp3
      have hx : (p : Int) / 2 = (p' : Int) := by omega
      go_wp2
      go_round
      case rel => exact ⟨j - p, p', by go_num, rfl, hp4, by omega, by omega, HF'⟩
      case measure => simp [intOf]; omega
    · have HV : Hid (r = p) := by
        obtain ⟨f, h1, h2, h3⟩ := HF.out
        rw [rdf, if_pos (by omega)] at h3
        exact h3
      replace hlt := Nat.lt_of_not_le hlt
      have hd : decide ((p : Int) ≤ (j : Int)) = false := decide_eq_false (by omega)
      go_wp2
      go_ret
      exact ⟨by rw [HV.out]; rfl, rfl⟩

set_option maxHeartbeats 4000000 in
set_option maxRecDepth 100000 in
theorem pl_impl (size : Int) (A : Option Addr) (cp B : Nat) (R : List Int) (w : World) (hB : B ≤ w.heap.size) (hr : RdS w B 1 enI A R) (h64 : I64 size) :
    Calls Try.prog 42 #[.agg #[.int .i64 size, .slice A R.length cp]] w fun e w' => (∃ v, e = .returned (.tuple #[v, .int .i64 (tC size R)]) ∧ OwnS w' w.heap.size w'.heap.size 2 1 enI v (plL size R)) ∧ Below w.heap.size w w' := by
  obtain ⟨i0, hi0, hz0, hz1, hz2⟩ := info_parts Ints.info
  have HR := Lib.hid (fun (w' : World) (hb : Below w.heap.size w w') => hr.below hb hB)
  cases hok : okT size R
  · have HVL := Lib.hid (show (plL size R) = [] by simp [plL, hok])
    have HVC := Lib.hid (show 1 = (tC size R) by simp [tC, hok])
    have HO := Lib.hid hok; clear hok
    go_enter Try.func42, Try.ntmps42
    go_wp2_with (go_at_call 23; refine (isI size A cp B R _ (by go_size) (HR.out _ (by go_grown)) h64 false HO.out).mono ?_; rintro e w1 ⟨rfl, hb1⟩)
    have hb1' : Below w.heap.size w w1 := Below.then_ (by go_grown) hb1 (by go_size)
    have hz1' := hb1'.size
    go_ret2
    refine ⟨⟨_, tup_eq HVC.out, ?_⟩, by go_grown⟩
    rw [HVL.out]
    exact OwnS.nil_ _ _ _ _ _ _
  · have hz : size = (size.toNat : Int) := (okT_nat hok).symm
    obtain ⟨N, hN⟩ : ∃ N, size.toNat = N := ⟨_, rfl⟩
    rw [hN] at hz
    subst hz
    have h2 := (seeds_facts (okT_parts hok).1).1
    have h32 := (seeds_facts (okT_parts hok).1).2.1
    have hq := (okT_parts hok).2.1
    have HX := Lib.hid (okT_parts hok).2.2
    have hqN : R.length < N := by omega
    have HF := Lib.hid (fun (k : Nat) (hk : k + 1 < N) => rd_facts (okT_parts hok).1 (k := k) hk)
    have HW := Lib.hid (fun (k : Nat) (hk : k < R.length) => And.intro (wi_sign R (okT_parts hok).1 (k := k) (by rw [Int.toNat_natCast]; omega)) (lo_sign R (okT_parts hok).1 (k := k) (by rw [Int.toNat_natCast]; omega)))
    have HPL := Lib.hid (fun (k : Nat) => plA_len (N : Int) R k)
    have HP0 : Hid ((plA (N : Int) R 0).flatMap enI = List.replicate N (Value.int .i64 0)) := rep_flat N
    simp only [Int.toNat_natCast] at HPL HF
    have HVC := Lib.hid (show 0 = tC N R by simp [tC, hok])
    have HVL := Lib.hid (show plL N R = plA N R R.length by simp [plL, hok])
    have HO := Lib.hid hok
    clear hok hN
    go_enter Try.func42, Try.ntmps42
    go_wp2_with fail
    refine (isI N A cp B R _ (by go_size) (HR.out _ (by go_grown)) h64 true HO.out).mono ?_
    rintro e w1 ⟨rfl, hb1⟩
    have hb1' : Below w.heap.size w w1 := Below.then_ (by go_grown) hb1 (by go_size)
    have hz1' := hb1'.size
    have rb := (RowB.new _ _ _).below hb1 (by go_size)
    obtain ⟨p0, p1⟩ := rb.c2
    go_wp2_with (at_make; refine wpList_make_full _ rfl _ _ _ rfl w1.heap.size 2 i0 (.int .i64 0) 1 Try.underlying22 hi0 hz0 hz1 _ _ _ _ N rfl rfl rfl rfl ?c1 ?c2 (Nat.le_refl _) ?_)
    case c1 => rw [hz2]; omega
    case c2 => unfold maxLen; omega
    intro w2 hownP hgrP
    have hrow : Hid (RowB w2 w1.heap.size 2 ((plA (N : Int) R 0).flatMap enI)) := by
      have := RowB.of_own hownP
      rw [HP0.out]
      show RowB _ _ _ _
      simpa [made_rep] using this
    have hb2 : Below w1.heap.size w1 w2 := (Below.refl _ _).grown hgrP (Nat.le_refl _) (by simp)
    have hz2' : w1.heap.size < w2.heap.size := hrow.out.lt
    have hbw2 : Below w.heap.size w w2 := hb1'.trans (hb2.mono hz1')
    clear hownP hgrP p0 p1
    have rblt1 := rb.lt
    have rb := rb.below hb2 rb.lt
    obtain ⟨p0, p1⟩ := rb.c2
    have rblt := rb.lt
    go_wp2_with fail
    clear p0 p1
    go_region_held3 (fun w' => w'.cell? ⟨w.heap.size, 0, none⟩ = some (.int .i64 N) ∧ w'.cell? ⟨w.heap.size, 1, none⟩ = some (.slice A R.length cp)) (first | exact rb.c2 | exact (rb.below hb3 rblt).c2 | exact ((RowB.drew rb).below hb3 rblt).c2 | go_keep) (first | (go_at_call 58; refine (bracketY N A cp B R _ (by go_size) (HR.out _ (by first | exact hbw2 | exact hbw2.drew)) HO.out).mono ?_; rintro e w3 ⟨⟨Ab, cb, rfl, hcb, ho⟩, hb3⟩; have hqc1 : (R.length : Int) ≤ (cb : Int) := by omega))
    have hb3' : Below w.heap.size w w3 := by first | exact hbw2.trans (hb3.mono (by omega)) | exact (hbw2.drew).trans (hb3.mono (show w.heap.size ≤ w2.heap.size by omega))
    have hb3w : Below w2.heap.size w2 w3 := by first | exact hb3 | exact ((Below.refl _ _).drew).trans hb3
    have hz3 : w2.heap.size ≤ w3.heap.size := hb3w.size
    have ho' : OwnS w3 w2.heap.size w3.heap.size 57 5 enM _ _ := ho
    have hrow3 : Hid (RowB w3 w1.heap.size 2 ((plA (N : Int) R 0).flatMap enI)) := hrow.out.below hb3w hz2'
    clear ho hrow hb3 hb3w
    obtain ⟨q, hqq⟩ : ∃ q, R.length = q := ⟨_, rfl⟩
    rw [hqq] at hq hqN HVL HW
    rw [hqq]
    clear hqq
    go_wp2_with fail
    go_loopw [20] (fun i wr => ∃ k : Nat, k ≤ q ∧ i = .int .i64 k ∧ w3.grownBy wr (some w1.heap.size) ∧ Hid (RowB wr w1.heap.size 2 ((plA (N : Int) R k).flatMap enI))) (fun i _ => q - (intOf i).toNat)
    case atStart => exact ⟨0, Nat.zero_le _, rfl, grownBy_refl _ _, hrow3⟩
    case round =>
      obtain ⟨k, hk, rfl, hgr, hR⟩ := hrel
      have hbz := hgr.size
      by_cases hlt : k < q
      · have hL := ho'.grown hgr (fun g hg => by simp at hg; omega)
        obtain ⟨b, off, x, he, hbb, hx, c0, c1, c2, c3, c4⟩ := rdM_at (hL.rd enM_len) (i := k) (by rw [seg_len]; show k < N - 1; omega)
        simp only [Option.some.injEq, Addr.mk.injEq, and_true] at he
        obtain ⟨rfl, rfl⟩ := he
        rw [seg_at _ _ _ _ (by show k < N - 1; omega), Nat.zero_add] at hx
        obtain rfl : bm N R k = x := by simpa using hx
        clear hx
        simp only [bm, Nat.zero_add, Int.toNat_natCast] at c0 c1 c2 c3 c4
        have hf := HF.out k (by omega)
        have hw := HW.out k hlt
        generalize en (N : Int) R (2 * k) = a0 at *
        generalize en (N : Int) R (2 * k + 1) = a1 at *
        obtain ⟨l, hl⟩ : ∃ l : Nat, lo (N : Int) R k = l := ⟨(lo (N : Int) R k).toNat, by have := hw.2.2.2.1 hlt; omega⟩
        obtain ⟨v, hv⟩ : ∃ v : Nat, wi (N : Int) R k = v := ⟨(wi (N : Int) R k).toNat, by have := hw.1.2.2.1 hlt; omega⟩
        rw [hl, hv] at hw
        have HS := Lib.hid (show plA (N : Int) R (k + 1) = if rd N k = 1 then ((plA N R k).set l ((rd N k : Int) + 1)).set v 1 else (plA N R k).set l ((rd N k : Int) + 1) by rw [plA, hl, hv]; simp only [Int.toNat_natCast])
        rw [hl] at c3
        rw [hv] at c2
        have hlN : l < N := by omega
        have hvN : v < N := by omega
        clear hw hl hv
        generalize rd N k = r at *
        have hr16 := hf.2.1
        have hr1 := hf.2.2
        clear hf
        obtain ⟨z, hz⟩ := RowB.has hR.out (i := l) (by rw [HPL.out]; exact hlN)
        have hfz := hR.out.frozen l
        have hlt1 := hR.out.lt
        by_cases g1 : r = 1
        · subst g1
          rw [if_pos rfl] at HS
          go_upto_region 8 with (fail)
          refine wp_gen (fun W' => w3.grownBy W' (some w1.heap.size) ∧ RowB W' w1.heap.size 2 (((plA N R k).set l 2).flatMap enI) ∧ RowB W' wr.heap.size 57 [.int .i64 a0, .int .i64 a1, .int .i64 v, .int .i64 l, .int .i64 1]) ⟨?_, ?_, ?_⟩ ?_
          · exact grownBy_trans (grownBy_trans hgr (grownBy_setCell _ _ _ _)) (World.grownBy_alloc _ _ _)
          · exact (RowB.setI hR.out l _).alloc _
          · exact RowB.new' _ _ _ (by simp)
          rintro W5 ⟨hg5, hR5, hM5⟩
          have hR5 := Lib.hid hR5
          clear hz hfz hR hgr c0 c1 c2 c3 c4
          obtain ⟨c0, c1, c2, c3, c4⟩ := hM5.c5
          obtain ⟨z, hz⟩ := RowB.has hR5.out (i := v) (by rw [List.length_set, HPL.out]; exact hvN)
          have hfz := hR5.out.frozen v
          go_wp2_with fail
          go_round
          case rel => exact ⟨k + 1, by omega, by go_num, grownBy_trans hg5 (grownBy_setCell _ _ _ _), by rw [HS.out]; exact RowB.setI hR5.out v _⟩
          case measure => simp [intOf]; omega
        · rw [if_neg g1] at HS
          have e1 : ((r : Int) == 1) = false := by simp; omega
          go_wp2_with fail
          go_round
          case rel => exact ⟨k + 1, by omega, by go_num, grownBy_trans (grownBy_trans hgr (grownBy_setCell _ _ _ _)) (World.grownBy_alloc _ _ _), by rw [HS.out]; exact (RowB.setI hR.out l _).alloc _⟩
          case measure => simp [intOf]; omega
      · obtain rfl : k = q := by omega
        go_wp2_with fail
        go_ret2
        refine ⟨⟨_, tup_eq HVC.out, ?_⟩, ?_⟩
        · rw [HVL.out]
          have := hR.out.own (lo := w.heap.size) (hi := wr.heap.size) enI_len hz1' hR.out.lt (by rw [HPL.out]; unfold maxLen; omega)
          rw [HPL.out] at this
          exact this
        · exact hb3'.grown hgr (by omega) (fun g hg => by simp at hg; omega)

set_option maxHeartbeats 4000000 in
set_option maxRecDepth 100000 in
theorem pl_spec (size : Int) (A : Option Addr) (cp B : Nat) (R : List Int) (w : World) (hB : B ≤ w.heap.size) (hr : RdS w B 1 enI A R) (h64 : I64 size) :
    Calls Try.prog 41 #[.agg #[.int .i64 size, .slice A R.length cp]] w fun e w' => (∃ v, e = .returned (.tuple #[v, .int .i64 (tC size R)]) ∧ OwnS w' w.heap.size w'.heap.size 2 1 enI v (plL size R)) ∧ Below w.heap.size w w' := by
  obtain ⟨i0, hi0, hz0, hz1, hz2⟩ := info_parts Ints.info
  have HR := Lib.hid (fun (w' : World) (hb : Below w.heap.size w w') => hr.below hb hB)
  cases hok : okT size R
  · have HVL := Lib.hid (show (plL size R) = [] by simp [plL, hok])
    have HVC := Lib.hid (show 1 = (tC size R) by simp [tC, hok])
    have HO := Lib.hid hok; clear hok
    go_enter Try.func41, Try.ntmps41
    go_wp2_with (go_at_call 21; refine (isS size A cp B R _ (by go_size) (HR.out _ (by go_grown)) h64 false HO.out).mono ?_; rintro e w1 ⟨rfl, hb1⟩)
    have hb1' : Below w.heap.size w w1 := Below.then_ (by go_grown) hb1 (by go_size)
    have hz1' := hb1'.size
    go_ret2
    refine ⟨⟨_, tup_eq HVC.out, ?_⟩, by go_grown⟩
    rw [HVL.out]
    exact (RowB.new _ 2 []).own (xs := []) enI_len (by go_size) (by simp) (by decide)
  · have hz : size = (size.toNat : Int) := (okT_nat hok).symm
    obtain ⟨N, hN⟩ : ∃ N, size.toNat = N := ⟨_, rfl⟩
    rw [hN] at hz
    subst hz
    have h2 := (seeds_facts (okT_parts hok).1).1
    have h32 := (seeds_facts (okT_parts hok).1).2.1
    have hq := (okT_parts hok).2.1
    have HX := Lib.hid (okT_parts hok).2.2
    have hqN : R.length < N := by omega
    have HF := Lib.hid (fun (k : Nat) (hk : k + 1 < N) => rd_facts (okT_parts hok).1 (k := k) hk)
    have HW := Lib.hid (fun (k : Nat) (hk : k < R.length) => And.intro (wi_sign R (okT_parts hok).1 (k := k) (by rw [Int.toNat_natCast]; omega)) (lo_sign R (okT_parts hok).1 (k := k) (by rw [Int.toNat_natCast]; omega)))
    have HPL := Lib.hid (fun (k : Nat) => plA_len (N : Int) R k)
    have HP0 : Hid ((plA (N : Int) R 0).flatMap enI = List.replicate N (Value.int .i64 0)) := rep_flat N
    simp only [Int.toNat_natCast] at HPL HF
    have HVC := Lib.hid (show 0 = tC N R by simp [tC, hok])
    have HVL := Lib.hid (show plL N R = plA N R R.length by simp [plL, hok])
    have HO := Lib.hid hok
    have hsz := (okT_parts hok).1
    have HSZ := Lib.hid hsz
    clear hok hN hsz
    go_enter Try.func41, Try.ntmps41
    go_wp2_with fail
    refine (isS N A cp B R _ (by go_size) (HR.out _ (by go_grown)) h64 true HO.out).mono ?_
    rintro e w1 ⟨rfl, hb1⟩
    have hb1' : Below w.heap.size w w1 := Below.then_ (by go_grown) hb1 (by go_size)
    have hz1' := hb1'.size
    have rb := (RowB.new _ _ _).below hb1 (by go_size)
    obtain ⟨p0, p1⟩ := rb.c2
    go_wp2_with (at_make; refine wpList_make_full _ rfl _ _ _ rfl w1.heap.size 2 i0 (.int .i64 0) 1 Try.underlying22 hi0 hz0 hz1 _ _ _ _ N rfl rfl rfl rfl ?c1 ?c2 (Nat.le_refl _) ?_)
    case c1 => rw [hz2]; omega
    case c2 => unfold maxLen; omega
    intro w2 hownP hgrP
    have hrow : Hid (RowB w2 w1.heap.size 2 ((plA (N : Int) R 0).flatMap enI)) := by
      have := RowB.of_own hownP
      rw [HP0.out]
      show RowB _ _ _ _
      simpa [made_rep] using this
    have hb2 : Below w1.heap.size w1 w2 := (Below.refl _ _).grown hgrP (Nat.le_refl _) (by simp)
    have hz2' : w1.heap.size < w2.heap.size := hrow.out.lt
    have hbw2 : Below w.heap.size w w2 := hb1'.trans (hb2.mono hz1')
    clear hownP hgrP p0 p1
    have rblt1 := rb.lt
    have rb := rb.below hb2 rb.lt
    obtain ⟨p0, p1⟩ := rb.c2
    have rblt := rb.lt
    go_wp2_with fail
    refine (pairsZ N A cp B R _ (by go_size) (HR.out _ hbw2) HO.out).mono ?_
    rintro e w3 ⟨⟨vl, rfl, ho⟩, hb3⟩
    have hb3' : Below w.heap.size w w3 := hbw2.trans (hb3.mono (by omega))
    have hz3 : w2.heap.size ≤ w3.heap.size := hb3.size
    have hrow3 : Hid (RowB w3 w1.heap.size 2 ((plA (N : Int) R 0).flatMap enI)) := hrow.out.below hb3 hz2'
    have rb := rb.below hb3 rblt
    have rblt := rb.lt
    obtain ⟨Av, cv, rfl, hrd⟩ := ho.form enI_len
    rw [seg_len] at ho
    rw [seg_len]
    simp only [Int.toNat_natCast] at ho
    simp only [Int.toNat_natCast]
    clear hrd hrow hb3 p0 p1
    obtain ⟨q, hqq⟩ : ∃ q, R.length = q := ⟨_, rfl⟩
    have HQ := Lib.hid hqq
    rw [hqq] at hq hqN HVL HW rb
    rw [hqq]
    clear hqq
    go_wp2_with fail
    go_loopw [6] (fun i wr => ∃ k : Nat, k ≤ q ∧ i = .int .i64 k ∧ w3.grownBy wr (some w1.heap.size) ∧ Hid (RowB wr w1.heap.size 2 ((plA (N : Int) R k).flatMap enI))) (fun i _ => q - (intOf i).toNat)
    case atStart => exact ⟨0, Nat.zero_le _, rfl, grownBy_refl _ _, hrow3⟩
    case round =>
      obtain ⟨k, hk, rfl, hgr, hR⟩ := hrel
      have hbz := hgr.size
      obtain ⟨p0, p1⟩ := (rb.grown hgr (fun g hg => by simp at hg; omega)).c2
      by_cases hlt : k < q
      · have hL := ho.grown hgr (fun g hg => by simp at hg; omega)
        obtain ⟨bR, offR, x, rfl, hbR, hx, hcR⟩ := rdI_at (HR.out wr (hb3'.grown hgr (by omega) (fun g hg => by simp at hg; omega))) (i := k) (by rw [HQ.out]; exact hlt)
        have hbR' : bR < wr.heap.size := by omega
        have hf := HF.out k (by omega)
        have hw := HW.out k hlt
        have x1 : 2 * (k : Int) < ((2 * N - 2 : Nat) : Int) := by omega
        have x2 : 2 * (k : Int) + 1 < ((2 * N - 2 : Nat) : Int) := by omega
        obtain ⟨l, hl⟩ : ∃ l : Nat, lo (N : Int) R k = l := ⟨(lo (N : Int) R k).toNat, by have := hw.2.2.2.1 hlt; omega⟩
        obtain ⟨v, hv⟩ : ∃ v : Nat, wi (N : Int) R k = v := ⟨(wi (N : Int) R k).toNat, by have := hw.1.2.2.1 hlt; omega⟩
        rw [hl, hv] at hw
        have HS := Lib.hid (show plA (N : Int) R (k + 1) = if rd N k = 1 then ((plA N R k).set l ((rd N k : Int) + 1)).set v 1 else (plA N R k).set l ((rd N k : Int) + 1) by rw [plA, hl, hv]; simp only [Int.toNat_natCast])
        have hlN : l < N := by omega
        have hvN : v < N := by omega
        clear hw
        have CM : Hid (∀ w0, Calls Try.prog 62 #[.int .i64 N, .int .i64 k] w0 fun e w' => e = .returned (.int .i64 (rd N k)) ∧ w0 = w') := Lib.hid (fun w0 => l32m N k w0 HSZ.out (by rw [Int.toNat_natCast]; omega))
        generalize rd N k = r at *
        have hr16 := hf.2.1
        have hr1 := hf.2.2
        have hrk := hf.1
        clear hf
        obtain ⟨z, hz⟩ := RowB.has hR.out (i := l) (by rw [HPL.out]; exact hlN)
        have hfz := hR.out.frozen l
        have hlt1 := hR.out.lt
        rcases HX.out x (List.mem_of_getElem? hx) with rfl | rfl
        · obtain ⟨b, off, y1, rfl, hbb, hy1, hc1⟩ := rdI_at (hL.rd enI_len) (i := 2 * k + 1) (by rw [seg_len]; omega)
          obtain ⟨b', off', y2, he, hbb', hy2, hc2⟩ := rdI_at (hL.rd enI_len) (i := 2 * k) (by rw [seg_len]; omega)
          simp only [Option.some.injEq, Addr.mk.injEq, and_true] at he
          obtain ⟨rfl, rfl⟩ := he
          rw [seg_at _ _ _ _ (by omega), Nat.zero_add, ← (wi_0 (size := N) hx).2, hl] at hy1
          rw [seg_at _ _ _ _ (by omega), Nat.zero_add, ← (wi_0 (size := N) hx).1, hv] at hy2
          obtain rfl : (l : Int) = y1 := by simpa using hy1
          obtain rfl : (v : Int) = y2 := by simpa using hy2
          have hbs := (hL.block b rfl).1
          clear hy1 hy2 hx hl hv hL
          by_cases g1 : r = 1
          · have g2 := hrk.1 g1
            clear hrk
            subst g1
            have e1 : ((k : Int) == (N : Int) - 2) = true := by simp; omega
            rw [if_pos rfl] at HS
            go_upto_region 10 with (go_at_call 62; refine (CM.out _).mono ?_; rintro e w9 ⟨rfl, rfl⟩)
            refine wp_gen (fun W' => w3.grownBy W' (some w1.heap.size) ∧ RowB W' w1.heap.size 2 (((plA N R k).set l 2).flatMap enI) ∧ (W'.cell? ⟨w.heap.size, 0, none⟩ = some (.int .i64 N) ∧ W'.cell? ⟨w.heap.size, 1, none⟩ = some (.slice (some ⟨bR, offR, none⟩) q cp)) ∧ W'.cell? ⟨bR, offR + k, none⟩ = some (.int .i64 0) ∧ W'.cell? ⟨b, off + (2 * k), none⟩ = some (.int .i64 v)) ⟨?_, ?_, ⟨?_, ?_⟩, ?_, ?_⟩ ?_
            · exact grownBy_trans hgr (grownBy_setCell _ _ _ _)
            · exact RowB.setI hR.out l _
            · rw [World.cell?_of_block (Below.heap_setCell _ _ _ _ (by show w.heap.size ≠ w1.heap.size; omega))]; exact p0
            · rw [World.cell?_of_block (Below.heap_setCell _ _ _ _ (by show w.heap.size ≠ w1.heap.size; omega))]; exact p1
            · rw [World.cell?_of_block (Below.heap_setCell _ _ _ _ (by show bR ≠ w1.heap.size; omega))]; exact hcR
            · rw [World.cell?_of_block (Below.heap_setCell _ _ _ _ (by show b ≠ w1.heap.size; omega))]; exact hc2
            rintro W5 ⟨hg5, hR5, ⟨d0, d1⟩, d2, d3⟩
            have hR5 := Lib.hid hR5
            clear hz hfz hR hgr hc1 hc2 p0 p1 hcR
            obtain ⟨z, hz⟩ := RowB.has hR5.out (i := v) (by rw [List.length_set, HPL.out]; exact hvN)
            have hfz := hR5.out.frozen v
            go_wp2_with fail
            go_round
            case rel => exact ⟨k + 1, by omega, by go_num, grownBy_trans hg5 (grownBy_setCell _ _ _ _), by rw [HS.out]; exact RowB.setI hR5.out v _⟩
            case measure => simp [intOf]; omega
          · have g2 : k + 2 ≠ N := fun h => g1 (hrk.2 h)
            rw [if_neg g1] at HS
            clear hrk
            have e1 : ((k : Int) == (N : Int) - 2) = false := by simp; omega
            go_upto_region 10 with (go_at_call 62; refine (CM.out _).mono ?_; rintro e w9 ⟨rfl, rfl⟩)
            refine wp_gen (fun W' => w3.grownBy W' (some w1.heap.size) ∧ RowB W' w1.heap.size 2 (((plA N R k).set l ((r : Int) + 1)).flatMap enI) ∧ (W'.cell? ⟨w.heap.size, 0, none⟩ = some (.int .i64 N) ∧ W'.cell? ⟨w.heap.size, 1, none⟩ = some (.slice (some ⟨bR, offR, none⟩) q cp))) ⟨?_, ?_, ⟨?_, ?_⟩⟩ ?_
            · exact grownBy_trans hgr (grownBy_setCell _ _ _ _)
            · exact RowB.setI hR.out l _
            · rw [World.cell?_of_block (Below.heap_setCell _ _ _ _ (by show w.heap.size ≠ w1.heap.size; omega))]; exact p0
            · rw [World.cell?_of_block (Below.heap_setCell _ _ _ _ (by show w.heap.size ≠ w1.heap.size; omega))]; exact p1
            rintro W5 ⟨hg5, hR5, d0, d1⟩
            have hR5 := Lib.hid hR5
            clear hz hfz hR hgr hc1 hc2 p0 p1 hcR
            go_wp2_with fail
            go_round
            case rel => exact ⟨k + 1, by omega, by go_num, hg5, by rw [HS.out]; exact hR5.out⟩
            case measure => simp [intOf]; omega
        · obtain ⟨b, off, y1, rfl, hbb, hy1, hc1⟩ := rdI_at (hL.rd enI_len) (i := 2 * k) (by rw [seg_len]; omega)
          obtain ⟨b', off', y2, he, hbb', hy2, hc2⟩ := rdI_at (hL.rd enI_len) (i := 2 * k + 1) (by rw [seg_len]; omega)
          simp only [Option.some.injEq, Addr.mk.injEq, and_true] at he
          obtain ⟨rfl, rfl⟩ := he
          rw [seg_at _ _ _ _ (by omega), Nat.zero_add, ← (wi_1 (size := N) hx).2, hl] at hy1
          rw [seg_at _ _ _ _ (by omega), Nat.zero_add, ← (wi_1 (size := N) hx).1, hv] at hy2
          obtain rfl : (l : Int) = y1 := by simpa using hy1
          obtain rfl : (v : Int) = y2 := by simpa using hy2
          have hbs := (hL.block b rfl).1
          clear hy1 hy2 hx hl hv hL
          by_cases g1 : r = 1
          · have g2 := hrk.1 g1
            clear hrk
            subst g1
            have e1 : ((k : Int) == (N : Int) - 2) = true := by simp; omega
            rw [if_pos rfl] at HS
            go_upto_region 10 with (go_at_call 62; refine (CM.out _).mono ?_; rintro e w9 ⟨rfl, rfl⟩)
            refine wp_gen (fun W' => w3.grownBy W' (some w1.heap.size) ∧ RowB W' w1.heap.size 2 (((plA N R k).set l 2).flatMap enI) ∧ (W'.cell? ⟨w.heap.size, 0, none⟩ = some (.int .i64 N) ∧ W'.cell? ⟨w.heap.size, 1, none⟩ = some (.slice (some ⟨bR, offR, none⟩) q cp)) ∧ W'.cell? ⟨bR, offR + k, none⟩ = some (.int .i64 1) ∧ W'.cell? ⟨b, off + (2 * k + 1), none⟩ = some (.int .i64 v)) ⟨?_, ?_, ⟨?_, ?_⟩, ?_, ?_⟩ ?_
            · exact grownBy_trans hgr (grownBy_setCell _ _ _ _)
            · exact RowB.setI hR.out l _
            · rw [World.cell?_of_block (Below.heap_setCell _ _ _ _ (by show w.heap.size ≠ w1.heap.size; omega))]; exact p0
            · rw [World.cell?_of_block (Below.heap_setCell _ _ _ _ (by show w.heap.size ≠ w1.heap.size; omega))]; exact p1
            · rw [World.cell?_of_block (Below.heap_setCell _ _ _ _ (by show bR ≠ w1.heap.size; omega))]; exact hcR
            · rw [World.cell?_of_block (Below.heap_setCell _ _ _ _ (by show b ≠ w1.heap.size; omega))]; exact hc2
            rintro W5 ⟨hg5, hR5, ⟨d0, d1⟩, d2, d3⟩
            have hR5 := Lib.hid hR5
            clear hz hfz hR hgr hc1 hc2 p0 p1 hcR
            obtain ⟨z, hz⟩ := RowB.has hR5.out (i := v) (by rw [List.length_set, HPL.out]; exact hvN)
            have hfz := hR5.out.frozen v
            go_wp2_with fail
            go_round
            case rel => exact ⟨k + 1, by omega, by go_num, grownBy_trans hg5 (grownBy_setCell _ _ _ _), by rw [HS.out]; exact RowB.setI hR5.out v _⟩
            case measure => simp [intOf]; omega
          · have g2 : k + 2 ≠ N := fun h => g1 (hrk.2 h)
            rw [if_neg g1] at HS
            clear hrk
            have e1 : ((k : Int) == (N : Int) - 2) = false := by simp; omega
            go_upto_region 10 with (go_at_call 62; refine (CM.out _).mono ?_; rintro e w9 ⟨rfl, rfl⟩)
            refine wp_gen (fun W' => w3.grownBy W' (some w1.heap.size) ∧ RowB W' w1.heap.size 2 (((plA N R k).set l ((r : Int) + 1)).flatMap enI) ∧ (W'.cell? ⟨w.heap.size, 0, none⟩ = some (.int .i64 N) ∧ W'.cell? ⟨w.heap.size, 1, none⟩ = some (.slice (some ⟨bR, offR, none⟩) q cp))) ⟨?_, ?_, ⟨?_, ?_⟩⟩ ?_
            · exact grownBy_trans hgr (grownBy_setCell _ _ _ _)
            · exact RowB.setI hR.out l _
            · rw [World.cell?_of_block (Below.heap_setCell _ _ _ _ (by show w.heap.size ≠ w1.heap.size; omega))]; exact p0
            · rw [World.cell?_of_block (Below.heap_setCell _ _ _ _ (by show w.heap.size ≠ w1.heap.size; omega))]; exact p1
            rintro W5 ⟨hg5, hR5, d0, d1⟩
            have hR5 := Lib.hid hR5
            clear hz hfz hR hgr hc1 hc2 p0 p1 hcR
            go_wp2_with fail
            go_round
            case rel => exact ⟨k + 1, by omega, by go_num, hg5, by rw [HS.out]; exact hR5.out⟩
            case measure => simp [intOf]; omega
      · obtain rfl : k = q := by omega
        go_wp2_with fail
        go_ret2
        refine ⟨⟨_, tup_eq HVC.out, ?_⟩, ?_⟩
        · rw [HVL.out]
          have := hR.out.own (lo := w.heap.size) (hi := wr.heap.size) enI_len hz1' hR.out.lt (by rw [HPL.out]; unfold maxLen; omega)
          rw [HPL.out] at this
          exact this
        · exact hb3'.grown hgr (by omega) (fun g hg => by simp at hg; omega)

end Go.Proofs.Ytoicppnkkhajeaa.TF6
