/-
  The law on brackets: the order of seeds is a permutation, the entrants of a first pair are complementary, and those of a match are two. Conditions: none beyond the given row's.
-/
import Derived.Test.YtoicppnkkhajeaaBrk
set_option linter.unusedVariables false
namespace Go.Proofs.Ytoicppnkkhajeaa.BrkLaw
open Go.ChangeShapes Go.WideShapes Go.ChangeAt Go.RowKit Base Ints Tourn1 Order Own OrderS Pairs PairsS Bracket TF1 TF2 TF4 Pairs2 Draw DrawT ConsLaw Brk

theorem en_sum {size : Int} (R : List Int) (h : okSz size = true) {k : Nat} (hk : k < size.toNat / 2) : en size R (2 * k) + en size R (2 * k + 1) = size - 1 := by
  have hp := pairSum_ok h
  unfold pairSum at hp
  rw [List.all_eq_true] at hp
  have hp := hp k (List.mem_range.2 hk)
  rw [List.getD_eq_getElem?_getD, List.getD_eq_getElem?_getD, seeds_en R h (by omega), seeds_en R h (by omega)] at hp
  simpa using hp
theorem hasB (B : Nat) (A : Option Addr) (n c : Nat) (xs : List Int) (x : Int) (b : Bool) (hb : decide (x ∈ xs) = b) (hn : n = xs.length) (w : World) (hr : RdS w B 1 enI A xs) :
    Calls Try.prog 40 #[.slice A n c, .int .i64 x] w fun e w' => e = .returned (.bool b) ∧ w = w' := by
  subst hb hn; exact hasI B A c xs x w hr

theorem hasQ (B : Nat) (A : Option Addr) (n c : Nat) (xs : List Int) (x : Int) (b : Bool) (hb : decide (x ∈ xs) = b) (hn : n = xs.length) (w : World) (k : Nat) (hr : RdS w B 1 enI A xs) :
    Calls Try.prog 40 #[.slice A n c, .int .i64 x] (w.drewN k) fun e w'' => e = .returned (.bool b) ∧ ∃ m, w'' = w.drewN m :=
  Calls.quiet_of_same ((hasB B A n c xs x b hb hn (w.drewN k) hr).mono fun _ _ h => ⟨h.1, h.2.symm⟩)

set_option maxHeartbeats 16000000 in
set_option maxRecDepth 100000 in
theorem bracketL (A : Option Addr) (cp : Nat) (xs : List Int) (W : World) (hr : RdS W W.heap.size 1 enB A xs) (hw : ∀ x ∈ xs, (Lit.int .u8 x).wf = true) :
    Calls Try.prog 11 #[.slice A xs.length cp] W fun e w' => e = .returned (.bool true) ∧ Below W.heap.size W w' := by
  cases hbig : decide ((4096 : Int) < (xs.length : Int))
  case true =>
    have HB := Lib.hid hbig; clear hbig
    go_enter Try.func11, Try.ntmps11
    go_wp2_with fail
    refine (bigB _ cp A true HB.out _ hr.1).mono ?_
    rintro e w1 ⟨rfl, rfl⟩
    go_wp2_with fail
    go_ret
    exact ⟨rfl, Below.refl _ _⟩
  have HB := Lib.hid hbig; clear hbig
  go_enter Try.func11, Try.ntmps11
  go_wp2_with fail
  refine (bigB _ cp A false HB.out _ hr.1).mono ?_
  rintro e w1 ⟨rfl, rfl⟩
  go_wp2_with fail
  refine (drawO A cp xs _ hr hw).mono ?_
  rintro e w2 ⟨⟨s, Av, cv, R, rfl, o, hs0, hs1, hR⟩, hb2⟩
  have h64 : I64 s := ⟨by omega, by omega⟩
  have hrd := o.rd enI_len
  clear o
  have ec : (tC s R != tC s R) = false := by simp
  go_wp2_with fail
  refine (op_impl s Av cv w2.heap.size R _ (by go_size) (hrd.below ((Below.refl _ _).alloc (Nat.le_refl _) _) (Nat.le_refl _)) h64).mono ?_
  rintro e w3 ⟨⟨v3, rfl, o3⟩, hb3⟩
  rw [World.size_alloc] at hb3 o3
  have rb := (RowB.new _ _ _).below hb3 (Nat.lt_succ_self _)
  have t3 : Below w2.heap.size w2 w3 := ((Below.refl _ _).alloc (Nat.le_refl _) _).trans (hb3.mono (Nat.le_succ _))
  have q3 := hb2.trans (t3.mono hb2.size)
  have hrd := hrd.below t3 (Nat.le_refl _)
  have z3 := rb.lt
  obtain ⟨A3, c3, rfl, _⟩ := o3.form enI_len
  clear hb3 t3 hb2
  obtain ⟨p0, p1⟩ := rb.c2
  go_wp2_with fail
  clear p0 p1
  refine (op_spec s Av cv w2.heap.size R _ (by omega) hrd h64).mono ?_
  rintro e w4 ⟨⟨v4, rfl, o4⟩, hb4⟩
  have rb := rb.below hb4 z3
  have q4 := q3.trans (hb4.mono q3.size)
  have hrd := hrd.below hb4 (by omega)
  have o3 := o3.below hb4 (Nat.le_refl _)
  have z4 := hb4.size
  obtain ⟨A4, c4, rfl, _⟩ := o4.form enI_len
  clear hb4 q3
  go_wp2_with fail
  refine (likeI _ _ A3 A4 c3 c4 (opL s R) _ (o3.rd enI_len) (o4.rd enI_len)).mono ?_
  rintro e w5 ⟨rfl, hb5⟩
  have rb := rb.below hb5 (by omega)
  have q5 := q4.trans (hb5.mono q4.size)
  have hrd := hrd.below hb5 (by omega)
  have o3 := o3.below hb5 z4
  have z5 := hb5.size
  clear hb5 q4 o4
  cases hok : okT s R
  case false =>
    have hT : tC s R = 1 := by simp [tC, hok]
    rw [hT]
    clear hT hok ec
    go_wp2_with fail
    go_ret
    exact ⟨rfl, q5⟩
  have hT : tC s R = 0 := by simp [tC, hok]
  have hsz := (okT_parts hok).1
  have h2 := (seeds_facts hsz).1
  have hh := half hsz
  have hsd : sd s = seeds s := by simp [sd, hsz]
  have hsl := seeds_len hsz
  have HLL := Lib.hid (show opL s R = pick (opP s R) (s.toNat - 1) from by simp [opL, hok])
  have HP := Lib.hid (fun (i : Nat) (hi : i < s.toNat) => perm_ok hsz hi)
  rw [hT]
  obtain ⟨p0, p1⟩ := rb.c2
  clear ec
  go_wp2_with fail
  clear p0 p1
  refine (sd_impl s _).mono ?_
  rw [hsd]
  rintro e w6 ⟨⟨v6, rfl, o6⟩, hb6⟩
  have rb := rb.below hb6 (by omega)
  have q6 := q5.trans (hb6.mono q5.size)
  have hrd := hrd.below hb6 (by omega)
  have o3 := o3.below hb6 (by omega)
  have z6 := hb6.size
  obtain ⟨A6, c6, rfl, _⟩ := o6.form enI_len
  rw [hsl]
  obtain ⟨N, hN⟩ : ∃ N : Nat, s.toNat = N := ⟨_, rfl⟩
  have hsN : s = (N : Int) := by omega
  rw [hN] at HP hsl HLL
  rw [hN]
  subst hsN
  clear hb6 q5 hT hsd hN
  have e0 : ((N : Int) != (N : Int)) = false := by simp
  have HSL := Lib.hid hsl.symm; clear hsl
  obtain ⟨p0, p1⟩ := rb.c2
  have hrd6 := o6.rd enI_len
  go_wp2_with fail
  go_loop [9] (fun i => ∃ k : Nat, k ≤ N ∧ i = .int .i64 k) (fun i => N - (intOf i).toNat)
  case atStart => exact ⟨0, Nat.zero_le _, rfl⟩
  case round =>
    obtain ⟨k, hk, rfl⟩ := hrel
    by_cases hlt : k < N
    · go_wp2_with (go_at_call 40; refine (hasB _ A6 N c6 (seeds N) k true (HP.out k hlt) HSL.out _ hrd6).mono ?_; rintro e w7 ⟨rfl, rfl⟩)
      go_round
      case rel => exact ⟨k + 1, by omega, by go_num⟩
      case measure => simp [intOf]; omega
    · obtain rfl : k = N := by omega
      have hok' := Lib.hid hok
      have hsz' := Lib.hid hsz
      clear hok hsz
      go_wp2_with fail
      clear p0 p1 hrd6
      go_loopw [10] (fun i wr => ∃ j : Nat, j + 1 ≤ k ∧ i = .int .i64 j ∧ Below w6.heap.size w6 wr) (fun i _ => k - (intOf i).toNat)
      case atStart => exact ⟨0, by omega, rfl, Below.refl _ _⟩
      case round =>
        obtain ⟨j, hj, rfl, hb⟩ := hrel
        have hbz := hb.size
        have rb := rb.below hb (by omega)
        have hrd := hrd.below hb (by omega)
        have o3 := o3.below hb (by omega)
        obtain ⟨p0, p1⟩ := rb.c2
        by_cases hjk : j + 1 < k
        · have hin : decide ((0 : Int) ≤ (j : Int) ∧ (j : Int) ≤ (k : Int) - 2) = true := decide_eq_true (by omega)
          have hC : poC (k : Int) R (j : Int) = 0 := by unfold poC; rw [if_pos hok'.out, if_pos hin]
          have hA : poA (k : Int) R (j : Int) = en k R (2 * j) := by unfold poA; rw [if_pos hC]; rfl
          have hBv : poB (k : Int) R (j : Int) = en k R (2 * j + 1) := by unfold poB; rw [if_pos hC]; rfl
          have hg : (j : Int) < (k : Int) - 1 := by omega
          go_wp2_with fail
          clear p0 p1
          refine (po_impl k Av cv w2.heap.size R j _ (by omega) hrd h64).mono ?_
          rw [hC, hA, hBv]
          rintro e w7 ⟨rfl, hb7⟩
          have rb := rb.below hb7 (by omega)
          have o3 := o3.below hb7 (by omega)
          have hb' := hb.trans (hb7.mono hbz)
          obtain ⟨p0, p1⟩ := rb.c2
          have hw := wi_sign R hsz'.out (k := j) (by omega)
          have hne := en_ne R hsz'.out (k := j) (by omega)
          have hsum := fun (h : j < (k : Int).toNat / 2) => en_sum R hsz'.out h
          have hs1 := en_sign R hsz'.out (i := 2 * j) (by omega)
          have hs2 := en_sign R hsz'.out (i := 2 * j + 1) (by omega)
          have hop : decide ((j : Int) ∈ opL (k : Int) R) = (decide (wi k R j < 0) && (decide (0 ≤ en k R (2 * j)) && decide (0 ≤ en k R (2 * j + 1)))) := by
            rw [HLL.out, mem_pick _ _ _ (by omega)]; rfl
          clear hC hA hBv hin hb7 hb hrd
          generalize en (k : Int) R (2 * j) = a at *
          generalize en (k : Int) R (2 * j + 1) = b at *
          generalize wi (k : Int) R j = wv at *
          obtain ⟨h, hk1, hk2⟩ : ∃ h : Nat, 2 * h ≤ k ∧ k < 2 * h + 2 := ⟨k / 2, by omega, by omega⟩
          have e5 : IntKind.i64.wrap ((k : Int) / 2) = (h : Int) := by rw [IntWalk.i64_in _ (by omega)]; omega
          have e6 : Int.tdiv (k : Int) 2 = (h : Int) := by rw [Int.tdiv_eq_ediv_of_nonneg (by omega)]; omega
          have e7 : (k : Int) / 2 = (h : Int) := by omega
          have e8 : IntKind.i64.wrap (h : Int) = (h : Int) := IntWalk.i64_in _ (by omega)
          clear hh
          by_cases ga : 0 ≤ a
          · have hab : a ≠ b := hne ga
            have gab : (a == b) = false := by simp [hab]
            by_cases gb : 0 ≤ b
            · by_cases gR : R.length ≤ j
              · have hwv := hw.2.2.2 gR
                have HX := Lib.hid (show decide ((j : Int) ∈ opL (k : Int) R) = true from hop.trans (by simp <;> omega))
                by_cases gh : j < h
                · have hs := hsum (by omega)
                  have e1 : IntKind.i64.wrap (a + b) = (k : Int) - 1 := by rw [hs]; exact IntWalk.i64_in _ (by omega)
                  have e2 : IntKind.i64.wrap ((k : Int) - 1) = (k : Int) - 1 := IntWalk.i64_in _ (by omega)
                  have e3 : ((k : Int) - 1 != (k : Int) - 1) = false := by simp
                  clear hs hsum hne hop hw hs1 hs2
                  go_wp2_with fail
                  go_quiet ((go_at_call 40; exact hasQ _ A3 _ c3 (opL (k : Int) R) j true HX.out rfl _ _ (o3.rd enI_len)))
                  go_wp2_with fail
                  go_roundw
                  case rel => exact ⟨j + 1, by omega, by go_num, by first | exact below_drewN hb' _ | exact hb'⟩
                  case measure => simp [intOf]; omega
                · have hdh : decide ((j : Int) < (h : Int)) = false := decide_eq_false (by omega)
                  clear hsum hne hop hw hs1 hs2
                  go_wp2_with fail
                  go_quiet ((go_at_call 40; exact hasQ _ A3 _ c3 (opL (k : Int) R) j true HX.out rfl _ _ (o3.rd enI_len)))
                  go_wp2_with fail
                  go_roundw
                  case rel => exact ⟨j + 1, by omega, by go_num, by first | exact below_drewN hb' _ | exact hb'⟩
                  case measure => simp [intOf]; omega
              · have hwv := hw.2.2.1 (by omega)
                have hdR : decide ((R.length : Int) ≤ (j : Int)) = false := decide_eq_false (by omega)
                have HX := Lib.hid (show decide ((j : Int) ∈ opL (k : Int) R) = false from hop.trans (by simp <;> omega))
                by_cases gh : j < h
                · have hs := hsum (by omega)
                  have e1 : IntKind.i64.wrap (a + b) = (k : Int) - 1 := by rw [hs]; exact IntWalk.i64_in _ (by omega)
                  have e2 : IntKind.i64.wrap ((k : Int) - 1) = (k : Int) - 1 := IntWalk.i64_in _ (by omega)
                  have e3 : ((k : Int) - 1 != (k : Int) - 1) = false := by simp
                  clear hs hsum hne hop hw hs1 hs2
                  go_wp2_with fail
                  go_quiet ((go_at_call 40; exact hasQ _ A3 _ c3 (opL (k : Int) R) j false HX.out rfl _ _ (o3.rd enI_len)))
                  go_wp2_with fail
                  go_roundw
                  case rel => exact ⟨j + 1, by omega, by go_num, by first | exact below_drewN hb' _ | exact hb'⟩
                  case measure => simp [intOf]; omega
                · have hdh : decide ((j : Int) < (h : Int)) = false := decide_eq_false (by omega)
                  clear hsum hne hop hw hs1 hs2
                  go_wp2_with fail
                  go_quiet ((go_at_call 40; exact hasQ _ A3 _ c3 (opL (k : Int) R) j false HX.out rfl _ _ (o3.rd enI_len)))
                  go_wp2_with fail
                  go_roundw
                  case rel => exact ⟨j + 1, by omega, by go_num, by first | exact below_drewN hb' _ | exact hb'⟩
                  case measure => simp [intOf]; omega
            · have hdb : decide (0 ≤ b) = false := decide_eq_false gb
              by_cases gR : R.length ≤ j
              · skip
                have HX := Lib.hid (show decide ((j : Int) ∈ opL (k : Int) R) = false from hop.trans (by simp <;> omega))
                by_cases gh : j < h
                · have hs := hsum (by omega)
                  have e1 : IntKind.i64.wrap (a + b) = (k : Int) - 1 := by rw [hs]; exact IntWalk.i64_in _ (by omega)
                  have e2 : IntKind.i64.wrap ((k : Int) - 1) = (k : Int) - 1 := IntWalk.i64_in _ (by omega)
                  have e3 : ((k : Int) - 1 != (k : Int) - 1) = false := by simp
                  clear hs hsum hne hop hw hs1 hs2
                  go_wp2_with fail
                  go_quiet ((go_at_call 40; exact hasQ _ A3 _ c3 (opL (k : Int) R) j false HX.out rfl _ _ (o3.rd enI_len)))
                  go_wp2_with fail
                  go_roundw
                  case rel => exact ⟨j + 1, by omega, by go_num, by first | exact below_drewN hb' _ | exact hb'⟩
                  case measure => simp [intOf]; omega
                · have hdh : decide ((j : Int) < (h : Int)) = false := decide_eq_false (by omega)
                  clear hsum hne hop hw hs1 hs2
                  go_wp2_with fail
                  go_quiet ((go_at_call 40; exact hasQ _ A3 _ c3 (opL (k : Int) R) j false HX.out rfl _ _ (o3.rd enI_len)))
                  go_wp2_with fail
                  go_roundw
                  case rel => exact ⟨j + 1, by omega, by go_num, by first | exact below_drewN hb' _ | exact hb'⟩
                  case measure => simp [intOf]; omega
              · have hdR : decide ((R.length : Int) ≤ (j : Int)) = false := decide_eq_false (by omega)
                have HX := Lib.hid (show decide ((j : Int) ∈ opL (k : Int) R) = false from hop.trans (by simp <;> omega))
                by_cases gh : j < h
                · have hs := hsum (by omega)
                  have e1 : IntKind.i64.wrap (a + b) = (k : Int) - 1 := by rw [hs]; exact IntWalk.i64_in _ (by omega)
                  have e2 : IntKind.i64.wrap ((k : Int) - 1) = (k : Int) - 1 := IntWalk.i64_in _ (by omega)
                  have e3 : ((k : Int) - 1 != (k : Int) - 1) = false := by simp
                  clear hs hsum hne hop hw hs1 hs2
                  go_wp2_with fail
                  go_quiet ((go_at_call 40; exact hasQ _ A3 _ c3 (opL (k : Int) R) j false HX.out rfl _ _ (o3.rd enI_len)))
                  go_wp2_with fail
                  go_roundw
                  case rel => exact ⟨j + 1, by omega, by go_num, by first | exact below_drewN hb' _ | exact hb'⟩
                  case measure => simp [intOf]; omega
                · have hdh : decide ((j : Int) < (h : Int)) = false := decide_eq_false (by omega)
                  clear hsum hne hop hw hs1 hs2
                  go_wp2_with fail
                  go_quiet ((go_at_call 40; exact hasQ _ A3 _ c3 (opL (k : Int) R) j false HX.out rfl _ _ (o3.rd enI_len)))
                  go_wp2_with fail
                  go_roundw
                  case rel => exact ⟨j + 1, by omega, by go_num, by first | exact below_drewN hb' _ | exact hb'⟩
                  case measure => simp [intOf]; omega
          · have hda : decide (0 ≤ a) = false := decide_eq_false ga
            cases gab : (a == b)
            · by_cases gR : R.length ≤ j
              · skip
                have HX := Lib.hid (show decide ((j : Int) ∈ opL (k : Int) R) = false from hop.trans (by simp <;> omega))
                by_cases gh : j < h
                · have hs := hsum (by omega)
                  have e1 : IntKind.i64.wrap (a + b) = (k : Int) - 1 := by rw [hs]; exact IntWalk.i64_in _ (by omega)
                  have e2 : IntKind.i64.wrap ((k : Int) - 1) = (k : Int) - 1 := IntWalk.i64_in _ (by omega)
                  have e3 : ((k : Int) - 1 != (k : Int) - 1) = false := by simp
                  clear hs hsum hne hop hw hs1 hs2
                  go_wp2_with fail
                  go_quiet ((go_at_call 40; exact hasQ _ A3 _ c3 (opL (k : Int) R) j false HX.out rfl _ _ (o3.rd enI_len)))
                  go_wp2_with fail
                  go_roundw
                  case rel => exact ⟨j + 1, by omega, by go_num, by first | exact below_drewN hb' _ | exact hb'⟩
                  case measure => simp [intOf]; omega
                · have hdh : decide ((j : Int) < (h : Int)) = false := decide_eq_false (by omega)
                  clear hsum hne hop hw hs1 hs2
                  go_wp2_with fail
                  go_quiet ((go_at_call 40; exact hasQ _ A3 _ c3 (opL (k : Int) R) j false HX.out rfl _ _ (o3.rd enI_len)))
                  go_wp2_with fail
                  go_roundw
                  case rel => exact ⟨j + 1, by omega, by go_num, by first | exact below_drewN hb' _ | exact hb'⟩
                  case measure => simp [intOf]; omega
              · have hdR : decide ((R.length : Int) ≤ (j : Int)) = false := decide_eq_false (by omega)
                have HX := Lib.hid (show decide ((j : Int) ∈ opL (k : Int) R) = false from hop.trans (by simp <;> omega))
                by_cases gh : j < h
                · have hs := hsum (by omega)
                  have e1 : IntKind.i64.wrap (a + b) = (k : Int) - 1 := by rw [hs]; exact IntWalk.i64_in _ (by omega)
                  have e2 : IntKind.i64.wrap ((k : Int) - 1) = (k : Int) - 1 := IntWalk.i64_in _ (by omega)
                  have e3 : ((k : Int) - 1 != (k : Int) - 1) = false := by simp
                  clear hs hsum hne hop hw hs1 hs2
                  go_wp2_with fail
                  go_quiet ((go_at_call 40; exact hasQ _ A3 _ c3 (opL (k : Int) R) j false HX.out rfl _ _ (o3.rd enI_len)))
                  go_wp2_with fail
                  go_roundw
                  case rel => exact ⟨j + 1, by omega, by go_num, by first | exact below_drewN hb' _ | exact hb'⟩
                  case measure => simp [intOf]; omega
                · have hdh : decide ((j : Int) < (h : Int)) = false := decide_eq_false (by omega)
                  clear hsum hne hop hw hs1 hs2
                  go_wp2_with fail
                  go_quiet ((go_at_call 40; exact hasQ _ A3 _ c3 (opL (k : Int) R) j false HX.out rfl _ _ (o3.rd enI_len)))
                  go_wp2_with fail
                  go_roundw
                  case rel => exact ⟨j + 1, by omega, by go_num, by first | exact below_drewN hb' _ | exact hb'⟩
                  case measure => simp [intOf]; omega
            · by_cases gR : R.length ≤ j
              · skip
                have HX := Lib.hid (show decide ((j : Int) ∈ opL (k : Int) R) = false from hop.trans (by simp <;> omega))
                by_cases gh : j < h
                · have hs := hsum (by omega)
                  have e1 : IntKind.i64.wrap (a + b) = (k : Int) - 1 := by rw [hs]; exact IntWalk.i64_in _ (by omega)
                  have e2 : IntKind.i64.wrap ((k : Int) - 1) = (k : Int) - 1 := IntWalk.i64_in _ (by omega)
                  have e3 : ((k : Int) - 1 != (k : Int) - 1) = false := by simp
                  clear hs hsum hne hop hw hs1 hs2
                  go_wp2_with fail
                  go_quiet ((go_at_call 40; exact hasQ _ A3 _ c3 (opL (k : Int) R) j false HX.out rfl _ _ (o3.rd enI_len)))
                  go_wp2_with fail
                  go_roundw
                  case rel => exact ⟨j + 1, by omega, by go_num, by first | exact below_drewN hb' _ | exact hb'⟩
                  case measure => simp [intOf]; omega
                · have hdh : decide ((j : Int) < (h : Int)) = false := decide_eq_false (by omega)
                  clear hsum hne hop hw hs1 hs2
                  go_wp2_with fail
                  go_quiet ((go_at_call 40; exact hasQ _ A3 _ c3 (opL (k : Int) R) j false HX.out rfl _ _ (o3.rd enI_len)))
                  go_wp2_with fail
                  go_roundw
                  case rel => exact ⟨j + 1, by omega, by go_num, by first | exact below_drewN hb' _ | exact hb'⟩
                  case measure => simp [intOf]; omega
              · have hdR : decide ((R.length : Int) ≤ (j : Int)) = false := decide_eq_false (by omega)
                have HX := Lib.hid (show decide ((j : Int) ∈ opL (k : Int) R) = false from hop.trans (by simp <;> omega))
                by_cases gh : j < h
                · have hs := hsum (by omega)
                  have e1 : IntKind.i64.wrap (a + b) = (k : Int) - 1 := by rw [hs]; exact IntWalk.i64_in _ (by omega)
                  have e2 : IntKind.i64.wrap ((k : Int) - 1) = (k : Int) - 1 := IntWalk.i64_in _ (by omega)
                  have e3 : ((k : Int) - 1 != (k : Int) - 1) = false := by simp
                  clear hs hsum hne hop hw hs1 hs2
                  go_wp2_with fail
                  go_quiet ((go_at_call 40; exact hasQ _ A3 _ c3 (opL (k : Int) R) j false HX.out rfl _ _ (o3.rd enI_len)))
                  go_wp2_with fail
                  go_roundw
                  case rel => exact ⟨j + 1, by omega, by go_num, by first | exact below_drewN hb' _ | exact hb'⟩
                  case measure => simp [intOf]; omega
                · have hdh : decide ((j : Int) < (h : Int)) = false := decide_eq_false (by omega)
                  clear hsum hne hop hw hs1 hs2
                  go_wp2_with fail
                  go_quiet ((go_at_call 40; exact hasQ _ A3 _ c3 (opL (k : Int) R) j false HX.out rfl _ _ (o3.rd enI_len)))
                  go_wp2_with fail
                  go_roundw
                  case rel => exact ⟨j + 1, by omega, by go_num, by first | exact below_drewN hb' _ | exact hb'⟩
                  case measure => simp [intOf]; omega
        · obtain rfl : k = j + 1 := by omega
          have hd : decide ((j : Int) < (((j + 1 : Nat) : Int)) - 1) = false := decide_eq_false (by omega)
          go_wp2_with fail
          go_ret
          exact ⟨rfl, q6.trans (hb.mono q6.size)⟩
end Go.Proofs.Ytoicppnkkhajeaa.BrkLaw
