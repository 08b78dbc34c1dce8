/-
  PairOf, of the program and of the reference. Conditions: each theorem's own.
-/
import Derived.Test.YtoicppnkkhajeaaBracket
import Derived.Test.YtoicppnkkhajeaaPairs2
set_option linter.unusedVariables false
namespace Go.Proofs.Ytoicppnkkhajeaa.TF1
open Go.ChangeShapes Go.WideShapes Go.ChangeAt Go.RowKit Base Ints Tourn1 Order Own OrderS Pairs PairsS Bracket

theorem rdM_at {w : World} {B : Nat} {A : Option Addr} {xs : List M5} (h : RdS w B 5 enM A xs) {i : Nat} (hi : i < xs.length) :
    ∃ b off x, A = some ⟨b, off, none⟩ ∧ b < B ∧ xs[i]? = some x ∧ w.cell? ⟨b, off + i * 5, none⟩ = some (.int .i64 x.1) ∧ w.cell? ⟨b, off + i * 5 + 1, none⟩ = some (.int .i64 x.2.1) ∧ w.cell? ⟨b, off + i * 5 + 2, none⟩ = some (.int .i64 x.2.2.1) ∧
      w.cell? ⟨b, off + i * 5 + 3, none⟩ = some (.int .i64 x.2.2.2.1) ∧ w.cell? ⟨b, off + i * 5 + 4, none⟩ = some (.int .i64 x.2.2.2.2) := by
  obtain ⟨b, off, x, e, hb, hx, hc⟩ := h.at_ hi
  exact ⟨b, off, x, e, hb, hx, hc 0 _ rfl, hc 1 _ rfl, hc 2 _ rfl, hc 3 _ rfl, hc 4 _ rfl⟩

theorem okT_nat {size : Int} {R : List Int} (h : okT size R = true) : ((size.toNat : Nat) : Int) = size := by
  have := (seeds_facts (okT_parts h).1).1
  omega
theorem pairsZ (size : Int) (A : Option Addr) (cp B : Nat) (R : List Int) (w : World) (hB : B ≤ w.heap.size) (hr : RdS w B 1 enI A R) (ok : okT size R = true) :
    Calls Try.prog 56 #[.agg #[.int .i64 size, .slice A R.length cp]] w fun e w' => (∃ v, e = .returned v ∧ OwnS w' w.heap.size w'.heap.size 2 1 enI v (seg (en size R) 0 (2 * size.toNat - 2))) ∧ Below w.heap.size w w' := by
  have hz := okT_nat ok
  have h2 := (seeds_facts (okT_parts ok).1).1
  have := pairs_spec size.toNat A cp B R w hB hr (by rw [hz]; exact ok)
  rw [hz, pl_seg R (okT_parts ok).1 (by omega), show size.toNat + (size.toNat - 2) = 2 * size.toNat - 2 from by omega] at this
  exact this
theorem bracketZ (size : Int) (A : Option Addr) (cp B : Nat) (R : List Int) (w : World) (hB : B ≤ w.heap.size) (hr : RdS w B 1 enI A R) (ok : okT size R = true) :
    Calls Try.prog 58 #[.agg #[.int .i64 size, .slice A R.length cp]] w fun e w' => (∃ v, e = .returned v ∧ OwnS w' w.heap.size w'.heap.size 57 5 enM v (seg (bm size R) 0 (size.toNat - 1))) ∧ Below w.heap.size w w' := by
  have hz := okT_nat ok
  have := bracket_impl size.toNat A cp B R w hB hr (by rw [hz]; exact ok)
  rw [hz] at this
  exact this
theorem isS (size : Int) (A : Option Addr) (cp B : Nat) (R : List Int) (w : World) (hB : B ≤ w.heap.size) (hr : RdS w B 1 enI A R) (h64 : I64 size) (b : Bool) (h : okT size R = b) :
    Calls Try.prog 21 #[.agg #[.int .i64 size, .slice A R.length cp]] w fun e w' => e = .returned (.bool b) ∧ Below w.heap.size w w' := by
  subst h; exact isT_spec size A cp B R w hB hr h64
theorem isI (size : Int) (A : Option Addr) (cp B : Nat) (R : List Int) (w : World) (hB : B ≤ w.heap.size) (hr : RdS w B 1 enI A R) (h64 : I64 size) (b : Bool) (h : okT size R = b) :
    Calls Try.prog 23 #[.agg #[.int .i64 size, .slice A R.length cp]] w fun e w' => e = .returned (.bool b) ∧ Below w.heap.size w w' := by
  subst h; exact isT_impl size A cp B R w hB hr h64
theorem winI (x a c : Int) (b : Bool) (h : decide (a ≤ x ∧ x ≤ c) = b) (w : World) : Calls Try.prog 57 #[.int .i64 x, .int .i64 a, .int .i64 c] w fun e w' => e = .returned (.bool b) ∧ w = w' := by
  subst h
  by_cases h1 : a ≤ x
  · by_cases h2 : x ≤ c
    · rw [decide_eq_true (And.intro h1 h2)]
      go_enter Try.func57, Try.ntmps57
      go_wp2
      go_ret
      exact ⟨rfl, rfl⟩
    · rw [decide_eq_false (fun h : a ≤ x ∧ x ≤ c => h2 h.2)]
      have hd : decide (x ≤ c) = false := decide_eq_false h2
      replace h2 := Int.not_le.1 h2
      go_enter Try.func57, Try.ntmps57
      go_wp2
      go_ret
      exact ⟨rfl, rfl⟩
  · have e : decide (a ≤ x ∧ x ≤ c) = false := decide_eq_false (fun h => h1 h.1)
    rw [e]
    have hd : decide (a ≤ x) = false := decide_eq_false h1
    replace h1 := Int.not_le.1 h1
    go_enter Try.func57, Try.ntmps57
    go_wp2
    go_ret
    exact ⟨rfl, rfl⟩
theorem winS (x a c : Int) (b : Bool) (h : decide (a ≤ x ∧ x ≤ c) = b) (w : World) : Calls Try.prog 53 #[.int .i64 x, .int .i64 a, .int .i64 c] w fun e w' => e = .returned (.bool b) ∧ w = w' := by
  subst h
  by_cases h1 : a ≤ x
  · by_cases h2 : x ≤ c
    · rw [decide_eq_true (And.intro h1 h2)]
      go_enter Try.func53, Try.ntmps53
      go_wp2
      go_ret
      exact ⟨rfl, rfl⟩
    · rw [decide_eq_false (fun h : a ≤ x ∧ x ≤ c => h2 h.2)]
      have hd : decide (x ≤ c) = false := decide_eq_false h2
      replace h2 := Int.not_le.1 h2
      go_enter Try.func53, Try.ntmps53
      go_wp2
      go_ret
      exact ⟨rfl, rfl⟩
  · have e : decide (a ≤ x ∧ x ≤ c) = false := decide_eq_false (fun h => h1 h.1)
    rw [e]
    have hd : decide (a ≤ x) = false := decide_eq_false h1
    replace h1 := Int.not_le.1 h1
    go_enter Try.func53, Try.ntmps53
    go_wp2
    go_ret
    exact ⟨rfl, rfl⟩

/-! ### PairOf -/
def poC (size : Int) (R : List Int) (k : Int) : Int := if okT size R then (if decide (0 ≤ k ∧ k ≤ size - 2) then 0 else 4) else 1
def poA (size : Int) (R : List Int) (k : Int) : Int := if poC size R k = 0 then en size R (2 * k.toNat) else 0
def poB (size : Int) (R : List Int) (k : Int) : Int := if poC size R k = 0 then en size R (2 * k.toNat + 1) else 0
theorem po_eq {a b c a' b' c' : Int} (h : a = a' ∧ b = b' ∧ c = c') : Ending.returned (.tuple #[.int .i64 a, .int .i64 b, .int .i64 c]) = Ending.returned (.tuple #[.int .i64 a', .int .i64 b', .int .i64 c']) := by
  obtain ⟨rfl, rfl, rfl⟩ := h; rfl

set_option maxHeartbeats 1000000 in
theorem po_spec (size : Int) (A : Option Addr) (cp B : Nat) (R : List Int) (k : Int) (w : World) (hB : B ≤ w.heap.size) (hr : RdS w B 1 enI A R) (h64 : I64 size) :
    Calls Try.prog 25 #[.agg #[.int .i64 size, .slice A R.length cp], .int .i64 k] w fun e w' => e = .returned (.tuple #[.int .i64 (poA size R k), .int .i64 (poB size R k), .int .i64 (poC size R k)]) ∧ Below w.heap.size w w' := by
  have HR := Lib.hid (fun (w' : World) (hb : Below w.heap.size w w') => hr.below hb hB)
  cases hok : okT size R
  · have HV := Lib.hid (show 0 = poA size R k ∧ 0 = poB size R k ∧ 1 = poC size R k by simp [poA, poB, poC, hok])
    have HO := Lib.hid hok; clear hok
    go_enter Try.func25, Try.ntmps25
    go_wp2_with (go_at_call 21; refine (isS size A cp B R _ (by go_size) (HR.out _ (by go_grown)) h64 false HO.out).mono ?_; rintro e w1 ⟨rfl, hb1⟩)
    go_ret3
    exact ⟨po_eq HV.out, Below.then_ (by go_grown) hb1 (by go_size)⟩
  · have h2 := (seeds_facts (okT_parts hok).1).1
    have h32 := (seeds_facts (okT_parts hok).1).2.1
    cases hin : decide (0 ≤ k ∧ k ≤ size - 2)
    · have HV := Lib.hid (show 0 = poA size R k ∧ 0 = poB size R k ∧ 4 = poC size R k by simp [poA, poB, poC, hok, hin])
      have HO := Lib.hid hok; clear hok
      have HI := Lib.hid hin; clear hin
      go_enter Try.func25, Try.ntmps25
      go_wp2_with fail
      refine (isS size A cp B R _ (by go_size) (HR.out _ (by go_grown)) h64 true HO.out).mono ?_
      rintro e w1 ⟨rfl, hb1⟩
      obtain ⟨p0, p1⟩ := ((RowB.new _ _ _).below hb1 (by go_size)).c2
      go_wp2_with (go_at_call 53; refine (winS _ _ _ false HI.out _).mono ?_; rintro e w2 ⟨rfl, rfl⟩)
      go_ret3
      exact ⟨po_eq HV.out, Below.then_ (by go_grown) hb1 (by go_size)⟩
    · have HV := Lib.hid (show en size R (2 * k.toNat) = poA size R k ∧ en size R (2 * k.toNat + 1) = poB size R k ∧ 0 = poC size R k by simp [poA, poB, poC, hok, hin])
      have hin' := of_decide_eq_true hin
      obtain ⟨m, rfl⟩ : ∃ m : Nat, k = m := ⟨k.toNat, by omega⟩
      have HO := Lib.hid hok; clear hok
      have HI := Lib.hid hin; clear hin
      have hm : m + 2 ≤ size.toNat := by omega
      simp only [Int.toNat_natCast] at HV
      clear hin'
      go_enter Try.func25, Try.ntmps25
      go_wp2_with fail
      refine (isS size A cp B R _ (by go_size) (HR.out _ (by go_grown)) h64 true HO.out).mono ?_
      rintro e w1 ⟨rfl, hb1⟩
      have hb1' : Below w.heap.size w w1 := Below.then_ (by go_grown) hb1 (by go_size)
      have hz1 := hb1'.size
      obtain ⟨p0, p1⟩ := ((RowB.new _ _ _).below hb1 (by go_size)).c2
      go_wp2_with (go_at_call 53; refine (winS _ _ _ true HI.out _).mono ?_; rintro e w2 ⟨rfl, rfl⟩)
      refine (pairsZ size A cp B R _ (by go_size) (HR.out _ hb1') HO.out).mono ?_
      rintro e w3 ⟨⟨v, rfl, ho⟩, hb3⟩
      have hb3' : Below w.heap.size w w3 := hb1'.trans (hb3.mono hz1)
      obtain ⟨Av, cv, rfl, hrd⟩ := ho.form enI_len
      obtain ⟨b, off, x, rfl, hb, hx, hc⟩ := rdI_at hrd (i := 2 * m) (by rw [seg_len]; omega)
      obtain ⟨b', off', y, he, hb', hy, hc'⟩ := rdI_at hrd (i := 2 * m + 1) (by rw [seg_len]; omega)
      simp only [Option.some.injEq, Addr.mk.injEq, and_true] at he
      obtain ⟨rfl, rfl⟩ := he
      rw [seg_at _ _ _ _ (by omega), Nat.zero_add] at hx hy
      obtain rfl : en size R (2 * m) = x := by simpa using hx
      obtain rfl : en size R (2 * m + 1) = y := by simpa using hy
      clear hx hy
      rw [seg_len]
      have x0 : (0 : Int) ≤ 2 * (m : Int) := by omega
      have x1 : 2 * (m : Int) < ((2 * size.toNat - 2 : Nat) : Int) := by omega
      have x2 : (0 : Int) ≤ 2 * (m : Int) + 1 := by omega
      have x3 : 2 * (m : Int) + 1 < ((2 * size.toNat - 2 : Nat) : Int) := by omega
      have x4 : IntKind.i64.wrap (2 * (m : Int) + 1) = 2 * (m : Int) + 1 := IntWalk.i64_in _ (by omega)
      have x5 : IntKind.i64.wrap (2 * (m : Int)) = 2 * (m : Int) := IntWalk.i64_in _ (by omega)
      have x6 : (2 * (m : Int)).toNat = 2 * m := by omega
      have x7 : (2 * (m : Int) + 1).toNat = 2 * m + 1 := by omega
      go_wp2_with fail
      go_quiet (fail)
      go_wp2_with fail
      go_ret3
      exact ⟨po_eq HV.out, below_drewN hb3' _⟩
set_option maxHeartbeats 1000000 in
theorem po_impl (size : Int) (A : Option Addr) (cp B : Nat) (R : List Int) (k : Int) (w : World) (hB : B ≤ w.heap.size) (hr : RdS w B 1 enI A R) (h64 : I64 size) :
    Calls Try.prog 26 #[.agg #[.int .i64 size, .slice A R.length cp], .int .i64 k] w fun e w' => e = .returned (.tuple #[.int .i64 (poA size R k), .int .i64 (poB size R k), .int .i64 (poC size R k)]) ∧ Below w.heap.size w w' := by
  have HR := Lib.hid (fun (w' : World) (hb : Below w.heap.size w w') => hr.below hb hB)
  cases hok : okT size R
  · have HV := Lib.hid (show 0 = poA size R k ∧ 0 = poB size R k ∧ 1 = poC size R k by simp [poA, poB, poC, hok])
    have HO := Lib.hid hok; clear hok
    go_enter Try.func26, Try.ntmps26
    go_wp2_with (go_at_call 23; refine (isI size A cp B R _ (by go_size) (HR.out _ (by go_grown)) h64 false HO.out).mono ?_; rintro e w1 ⟨rfl, hb1⟩)
    go_ret3
    exact ⟨po_eq HV.out, Below.then_ (by go_grown) hb1 (by go_size)⟩
  · have h2 := (seeds_facts (okT_parts hok).1).1
    have h32 := (seeds_facts (okT_parts hok).1).2.1
    cases hin : decide (0 ≤ k ∧ k ≤ size - 2)
    · have HV := Lib.hid (show 0 = poA size R k ∧ 0 = poB size R k ∧ 4 = poC size R k by simp [poA, poB, poC, hok, hin])
      have HO := Lib.hid hok; clear hok
      have HI := Lib.hid hin; clear hin
      go_enter Try.func26, Try.ntmps26
      go_wp2_with fail
      refine (isI size A cp B R _ (by go_size) (HR.out _ (by go_grown)) h64 true HO.out).mono ?_
      rintro e w1 ⟨rfl, hb1⟩
      obtain ⟨p0, p1⟩ := ((RowB.new _ _ _).below hb1 (by go_size)).c2
      go_wp2_with (go_at_call 57; refine (winI _ _ _ false HI.out _).mono ?_; rintro e w2 ⟨rfl, rfl⟩)
      go_ret3
      exact ⟨po_eq HV.out, Below.then_ (by go_grown) hb1 (by go_size)⟩
    · have HV := Lib.hid (show en size R (2 * k.toNat) = poA size R k ∧ en size R (2 * k.toNat + 1) = poB size R k ∧ 0 = poC size R k by simp [poA, poB, poC, hok, hin])
      have hin' := of_decide_eq_true hin
      obtain ⟨m, rfl⟩ : ∃ m : Nat, k = m := ⟨k.toNat, by omega⟩
      have HO := Lib.hid hok; clear hok
      have HI := Lib.hid hin; clear hin
      have hm : m + 2 ≤ size.toNat := by omega
      simp only [Int.toNat_natCast] at HV
      clear hin'
      go_enter Try.func26, Try.ntmps26
      go_wp2_with fail
      refine (isI size A cp B R _ (by go_size) (HR.out _ (by go_grown)) h64 true HO.out).mono ?_
      rintro e w1 ⟨rfl, hb1⟩
      have hb1' : Below w.heap.size w w1 := Below.then_ (by go_grown) hb1 (by go_size)
      have hz1 := hb1'.size
      obtain ⟨p0, p1⟩ := ((RowB.new _ _ _).below hb1 (by go_size)).c2
      go_wp2_with (go_at_call 57; refine (winI _ _ _ true HI.out _).mono ?_; rintro e w2 ⟨rfl, rfl⟩)
      refine (bracketZ size A cp B R _ (by go_size) (HR.out _ hb1') HO.out).mono ?_
      rintro e w3 ⟨⟨v, rfl, ho⟩, hb3⟩
      have hb3' : Below w.heap.size w w3 := hb1'.trans (hb3.mono hz1)
      obtain ⟨Av, cv, rfl, hrd⟩ := ho.form enM_len
      obtain ⟨b, off, x, rfl, hb, hx, hc0, hc1, hc2, hc3, hc4⟩ := rdM_at hrd (i := m) (by rw [seg_len]; omega)
      rw [seg_at _ _ _ _ (by omega), Nat.zero_add] at hx
      obtain rfl : bm size R m = x := by simpa using hx
      clear hx p0 p1
      simp only [bm] at hc0 hc1 hc2 hc3 hc4
      rw [seg_len]
      have x1 : (m : Int) < ((size.toNat - 1 : Nat) : Int) := by omega
      go_wp2_with fail
      go_quiet (fail)
      go_wp2_with fail
      go_ret3
      have hz3 := hb3'.size
      exact ⟨po_eq HV.out, below_drewN (by go_grown) _⟩
end Go.Proofs.Ytoicppnkkhajeaa.TF1
