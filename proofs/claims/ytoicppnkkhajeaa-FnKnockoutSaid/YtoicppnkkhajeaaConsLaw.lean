/-
  The law on the consolation: it consists of the losers of the first round. Conditions: none beyond the given row's.
-/
import Derived.Test.YtoicppnkkhajeaaTF4
import Derived.Test.YtoicppnkkhajeaaDrawT
set_option linter.unusedVariables false
namespace Go.Proofs.Ytoicppnkkhajeaa.ConsLaw
open Go.ChangeShapes Go.WideShapes Go.ChangeAt Go.RowKit Base Ints Tourn1 Order Own OrderS Pairs PairsS Bracket TF1 TF2 TF3 TF4 Draw DrawT

theorem likeI (B1 B2 : Nat) (A1 A2 : Option Addr) (c1 c2 : Nat) (xs : List Int) (w : World) (h1 : RdS w B1 1 enI A1 xs) (h2 : RdS w B2 1 enI A2 xs) :
    Calls Try.prog 36 #[.slice A1 xs.length c1, .slice A2 xs.length c2] w fun e w' => e = .returned (.bool true) ∧ Below w.heap.size w w' := by
  have hn := h1.len
  generalize hnn : xs.length = n at *
  have H := Lib.hid hnn; clear hnn
  go_enter Try.func36, Try.ntmps36
  go_wp2
  go_loopw [5] (fun i wr => ∃ k : Nat, k ≤ n ∧ i = .int .i64 k ∧ Hid (∃ m, wr = w.drewN m)) (fun i _ => n - (intOf i).toNat)
  case atStart => exact ⟨0, Nat.zero_le _, rfl, 0, rfl⟩
  case round =>
    obtain ⟨k, hk, rfl, hm⟩ := hrel
    by_cases hlt : k < n
    · obtain ⟨b, off, x, rfl, hb, hx, hc⟩ := rdI_at h1 (by rw [H.out]; exact hlt)
      obtain ⟨b', off', x', rfl, hb', hx', hc'⟩ := rdI_at h2 (by rw [H.out]; exact hlt)
      rw [hx] at hx'
      obtain rfl : x = x' := by simpa using hx'
      have d1 : wr.cell? ⟨b, off + k, none⟩ = some (.int .i64 x) := by obtain ⟨m, rfl⟩ := hm.out; exact hc
      have d2 : wr.cell? ⟨b', off' + k, none⟩ = some (.int .i64 x) := by obtain ⟨m, rfl⟩ := hm.out; exact hc'
      have e1 : (x != x) = false := by simp
      clear hx hx' hc hc'
      go_wp2
      go_quiet (fail)
      go_wp2
      go_roundw
      case rel => exact ⟨k + 1, by omega, by go_num, by obtain ⟨m, rfl⟩ := hm.out; exact ⟨_, World.drewN_drewN _ _ _⟩⟩
      case measure => simp [intOf]; omega
    · go_wp2
      go_ret
      obtain ⟨m, rfl⟩ := hm.out
      exact ⟨rfl, below_drewN (Below.refl _ _) _⟩

theorem bigB (n cp : Nat) (A : Option Addr) (b : Bool) (hb : decide ((4096 : Int) < (n : Int)) = b) (w : World) (hn : n ≤ maxLen) : Calls Try.prog 32 #[.slice A n cp] w fun e w' => e = .returned (.bool b) ∧ w = w' := by
  subst hb
  unfold maxLen at hn
  go_enter Try.func32, Try.ntmps32
  go_wp2
  go_ret
  exact ⟨rfl, rfl⟩

set_option maxHeartbeats 600000 in
theorem draw (A : Option Addr) (cp : Nat) (xs : List Int) (w : World) (hr : RdS w w.heap.size 1 enB A xs) (hw : ∀ x ∈ xs, (Lit.int .u8 x).wf = true) :
    Calls Try.prog 33 #[.slice A xs.length cp] w fun e w' => (∃ (s : Int) (Av : Option Addr) (cv : Nat) (R : List Int), e = .returned (.agg #[.int .i64 s, .slice Av R.length cv]) ∧ OwnS w' w.heap.size w'.heap.size 2 1 enI (.slice Av R.length cv) R ∧ -2 ≤ s ∧ s ≤ 64 ∧ R.length ≤ 70) ∧ Below w.heap.size w w' := by
  go_enter Try.func33, Try.ntmps33
  go_wp2_with fail
  have hr' : RdS (w.alloc (.cells #[.int .i64 0, .slice none 0 0] 31)) (w.alloc (.cells #[.int .i64 0, .slice none 0 0] 31)).heap.size 1 enB A xs := (hr.below ((Below.refl w.heap.size w).alloc (Nat.le_refl _) _) (Nat.le_refl _)).more (by simp)
  refine (new_ hr' hw).mono ?_
  rintro e w1 ⟨rfl, h1⟩
  rw [World.size_alloc] at h1
  go_wp2_with fail
  refine (l32 h1).mono ?_
  rintro e w2 ⟨⟨s, v, R, rfl, hv, hs0, hs1, hR⟩, h2, hg2⟩
  obtain ⟨Av, cv, rfl, _⟩ := hv.form enI_len
  have rr := (RowB.new w 31 [.int .i64 0, .slice none 0 0]).below h2.bel (Nat.lt_succ_self _)
  have hb2 : Below w.heap.size w w2 := ((Below.refl _ _).alloc (Nat.le_refl _) _).trans (h2.bel.mono (Nat.le_succ _))
  have hz1 : w.heap.size + 1 ≤ w1.heap.size := by have := h1.bel.size; simpa using this
  obtain ⟨s0, s1⟩ := rr.c2
  have fr := rr.frozen
  go_wp2_with fail
  refine bp_gen (fun W' => Below w.heap.size w W' ∧ RowB W' w.heap.size 31 [.int .i64 s, .slice Av R.length cv] ∧ OwnS W' w1.heap.size W'.heap.size 2 1 enI (.slice Av R.length cv) R) ⟨(hb2.setCell (by simp) _).setCell (by simp) _, (rr.set 0 _).set 1 _, ?_⟩ ?_
  · simp only [World.size_setCell]
    exact OwnS.setCell (OwnS.setCell hv (p := ⟨w.heap.size, 0, none⟩) (by simp; omega) _) (p := ⟨w.heap.size, 1, none⟩) (by simp; omega) _
  rintro W5 ⟨hb5, rr5, own5⟩
  obtain ⟨q0, q1⟩ := rr5.c2
  refine bodyPost_ret (v := .agg #[.int .i64 s, .slice Av R.length cv]) (by simp [results, Try.results33, go_sem, q0, q1]) rfl ?_
  exact ⟨⟨_, _, _, _, rfl, own5.less (by omega), hs0, hs1, hR⟩, hb5⟩

def pairSum (size : Int) : Bool := (List.range (size.toNat / 2)).all fun k => (seeds size).getD (2 * k) 0 + (seeds size).getD (2 * k + 1) 0 == size - 1
theorem pairSum_all : pairSum 2 = true ∧ pairSum 4 = true ∧ pairSum 8 = true ∧ pairSum 16 = true ∧ pairSum 32 = true := by decide +kernel
theorem pairSum_ok {size : Int} (h : okSz size = true) : pairSum size = true := by
  have h := of_decide_eq_true h
  obtain ⟨d1, d2, d3, d4, d5⟩ := pairSum_all
  rcases h with rfl | rfl | rfl | rfl | rfl <;> assumption
theorem lo_wi {size : Int} {R : List Int} (h : okSz size = true) {k : Nat} (hk : k < size.toNat / 2) (hR : k < R.length) : lo size R k + wi size R k = size - 1 := by
  have hp := pairSum_ok h
  unfold pairSum at hp
  rw [List.all_eq_true] at hp
  have hp := hp k (List.mem_range.2 hk)
  rw [List.getD_eq_getElem?_getD, List.getD_eq_getElem?_getD, seeds_en R h (by omega), seeds_en R h (by omega)] at hp
  have hp : en size R (2 * k) + en size R (2 * k + 1) = size - 1 := by simpa using hp
  unfold lo wi
  rw [if_pos hR, if_pos hR]
  split <;> omega

set_option maxHeartbeats 2000000 in
theorem consolation (A : Option Addr) (cp : Nat) (xs : List Int) (W : World) (hr : RdS W W.heap.size 1 enB A xs) (hw : ∀ x ∈ xs, (Lit.int .u8 x).wf = true) :
    Calls Try.prog 8 #[.slice A xs.length cp] W fun e w' => e = .returned (.bool true) ∧ Below W.heap.size W w' := by
  cases hbig : decide ((4096 : Int) < (xs.length : Int))
  case true =>
    have HB := Lib.hid hbig; clear hbig
    go_enter Try.func8, Try.ntmps8
    go_wp2_with fail
    refine (bigB _ cp A true HB.out _ hr.1).mono ?_
    rintro e w1 ⟨rfl, rfl⟩
    go_wp2_with fail
    go_ret
    exact ⟨rfl, Below.refl _ _⟩
  have HB := Lib.hid hbig; clear hbig
  go_enter Try.func8, Try.ntmps8
  go_wp2_with fail
  refine (bigB _ cp A false HB.out _ hr.1).mono ?_
  rintro e w1 ⟨rfl, rfl⟩
  go_wp2_with fail
  refine (draw A cp xs _ hr hw).mono ?_
  rintro e w2 ⟨⟨s, Av, cv, R, rfl, o, hs0, hs1, hR⟩, hb2⟩
  have h64 : I64 s := ⟨by omega, by omega⟩
  have hrd := o.rd enI_len
  clear o
  have hll := coL_len s R
  have ec : (coC s R != coC s R) = false := by simp
  go_wp2_with fail
  refine (co_impl s Av cv w2.heap.size R _ (by go_size) (hrd.below ((Below.refl _ _).alloc (Nat.le_refl _) _) (Nat.le_refl _)) h64).mono ?_
  rintro e w3 ⟨⟨v3, rfl, o3⟩, hb3⟩
  rw [World.size_alloc] at hb3 o3
  have rb := (RowB.new _ _ _).below hb3 (Nat.lt_succ_self _)
  have t3 : Below w2.heap.size w2 w3 := ((Below.refl _ _).alloc (Nat.le_refl _) _).trans (hb3.mono (Nat.le_succ _))
  have q3 := hb2.trans (t3.mono hb2.size)
  have hrd := hrd.below t3 (Nat.le_refl _)
  have z3 := rb.lt
  obtain ⟨A3, c3, rfl, _⟩ := o3.form enI_len
  clear hb3 t3 hb2
  obtain ⟨p0, p1⟩ := rb.c2
  go_wp2_with fail
  clear p0 p1
  refine (co_spec s Av cv w2.heap.size R _ (by omega) hrd h64).mono ?_
  rintro e w4 ⟨⟨v4, rfl, o4⟩, hb4⟩
  have rb := rb.below hb4 z3
  have q4 := q3.trans (hb4.mono q3.size)
  have hrd := hrd.below hb4 (by omega)
  have o3 := o3.below hb4 (Nat.le_refl _)
  have z4 := hb4.size
  obtain ⟨A4, c4, rfl, _⟩ := o4.form enI_len
  clear hb4 q3
  go_wp2_with fail
  refine (likeI _ _ A3 A4 c3 c4 (coL s R) _ (o3.rd enI_len) (o4.rd enI_len)).mono ?_
  rintro e w5 ⟨rfl, hb5⟩
  have rb := rb.below hb5 (by omega)
  have q5 := q4.trans (hb5.mono q4.size)
  have hrd := hrd.below hb5 (by omega)
  have o3 := o3.below hb5 z4
  have z5 := hb5.size
  clear hb5 q4 o4
  by_cases hc : coC s R = 0
  · have hok : okT s R = true := by
      cases h1 : okT s R
      · simp [coC, h1] at hc
      · rfl
    have hsz := (okT_parts hok).1
    have h2 := (seeds_facts hsz).1
    have hh := half hsz
    have hcc : ¬ (s = 2 ∨ (R.length : Int) < s / 2) := by
      intro h
      unfold coC at hc
      rw [if_pos hok, if_pos h] at hc
      cases hc
    have hL : coL s R = seg (lo s R) 0 (s.toNat / 2) := by unfold coL; rw [if_pos hc]
    have hW : wnL s R = seg (wi s R) 0 R.length := by simp [wnL, hok]
    have hT : tC s R = 0 := by simp [tC, hok]
    have HS := Lib.hid (fun (k : Nat) (h1 : k < s.toNat / 2) (h2 : k < R.length) => lo_wi (R := R) hsz h1 h2)
    have hB := Lib.hid (fun (k : Nat) (hk : k + 1 < s.toNat) => And.intro (lo_sign R hsz hk) (wi_sign R hsz hk))
    obtain ⟨h, hhh⟩ : ∃ h, s.toNat / 2 = h := ⟨_, rfl⟩
    rw [hhh] at hh hL HS
    have hhR : h ≤ R.length := by omega
    rw [hc, hL, seg_len]
    rw [hL] at o3
    rw [seg_len] at o3
    have hh2 : 2 * h ≤ s.toNat := by omega
    clear hc hL ec hok hsz hhh hll hcc
    obtain ⟨p0, p1⟩ := rb.c2
    go_wp2_with fail
    clear p0 p1
    refine (wn_impl s Av cv w2.heap.size R _ (by omega) hrd h64).mono ?_
    rw [hT, hW]
    rintro e w6 ⟨⟨v6, rfl, o6⟩, hb6⟩
    have rb := rb.below hb6 (by omega)
    have q6 := q5.trans (hb6.mono q5.size)
    have o3 := o3.below hb6 (by omega)
    obtain ⟨A6, c6, rfl, _⟩ := o6.form enI_len
    rw [seg_len] at o6
    rw [seg_len]
    clear hb6 q5 hT hW hrd
    obtain ⟨p0, p1⟩ := rb.c2
    have hd : decide ((R.length : Int) < (h : Int)) = false := decide_eq_false (by omega)
    have hs00 : 0 ≤ s := by omega
    go_wp2_with fail
    go_loopw [10] (fun i wr => ∃ k : Nat, k ≤ h ∧ i = .int .i64 k ∧ Hid (∃ m, wr = w6.drewN m)) (fun i _ => h - (intOf i).toNat)
    case atStart => exact ⟨0, Nat.zero_le _, rfl, 0, rfl⟩
    case round =>
      obtain ⟨k, hk, rfl, hm⟩ := hrel
      by_cases hlt : k < h
      · obtain ⟨b, off, x, rfl, hb, hx, hcx⟩ := rdI_at (o3.rd enI_len) (i := k) (by rw [seg_len]; exact hlt)
        obtain ⟨b', off', y, rfl, hb', hy, hcy⟩ := rdI_at (o6.rd enI_len) (i := k) (by rw [seg_len]; omega)
        rw [seg_at _ _ _ _ hlt, Nat.zero_add] at hx
        rw [seg_at _ _ _ _ (by omega), Nat.zero_add] at hy
        obtain rfl : lo s R k = x := by simpa using hx
        obtain rfl : wi s R k = y := by simpa using hy
        have hsum := HS.out k hlt (by omega)
        have hbd := hB.out k (by omega)
        clear hx hy
        generalize lo s R k = x at *
        generalize wi s R k = y at *
        have d0 : wr.cell? ⟨w2.heap.size, 0, none⟩ = some (.int .i64 s) := by obtain ⟨m, rfl⟩ := hm.out; exact p0
        have d1 : wr.cell? ⟨b, off + k, none⟩ = some (.int .i64 x) := by obtain ⟨m, rfl⟩ := hm.out; exact hcx
        have d2 : wr.cell? ⟨b', off' + k, none⟩ = some (.int .i64 y) := by obtain ⟨m, rfl⟩ := hm.out; exact hcy
        have e1 : IntKind.i64.wrap (x + y) = s - 1 := by rw [hsum]; exact IntWalk.i64_in _ (by omega)
        have e2 : IntKind.i64.wrap (s - 1) = s - 1 := IntWalk.i64_in _ (by omega)
        have e3 : (s - 1 != s - 1) = false := by simp
        clear hcx hcy p0 p1 hsum hbd
        go_wp2_with fail
        go_quiet (fail)
        go_wp2_with fail
        go_roundw
        case rel => exact ⟨k + 1, by omega, by go_num, by obtain ⟨m, rfl⟩ := hm.out; exact ⟨_, World.drewN_drewN _ _ _⟩⟩
        case measure => simp [intOf]; omega
      · obtain rfl : k = h := by omega
        go_wp2_with fail
        go_ret
        obtain ⟨m, rfl⟩ := hm.out
        exact ⟨rfl, below_drewN q6 _⟩
  · have e1 : (coC s R != 0) = true := by simp [hc]
    clear hc
    go_wp2_with fail
    go_ret
    exact ⟨rfl, q5⟩
end Go.Proofs.Ytoicppnkkhajeaa.ConsLaw
