/-
  Towards the law on brackets: hasInt, the draw, the order as a permutation. Conditions: each theorem's own.
-/
import Derived.Test.YtoicppnkkhajeaaConsLaw
import Derived.Test.YtoicppnkkhajeaaPairs2
set_option linter.unusedVariables false
namespace Go.Proofs.Ytoicppnkkhajeaa.Brk
open Go.ChangeShapes Go.WideShapes Go.ChangeAt Go.RowKit Base Ints Tourn1 Order Own OrderS Pairs PairsS Bracket TF1 TF2 Draw DrawT ConsLaw

theorem has_take {xs : List Int} {x y : Int} {k : Nat} (hy : xs[k]? = some y) (h : x ∉ xs.take k) (hne : y ≠ x) : x ∉ xs.take (k + 1) := by
  rw [take_succ xs k y hy, List.mem_append]
  rintro (h1 | h1)
  · exact h h1
  · simp at h1
    exact hne h1.symm
set_option maxHeartbeats 1000000 in
theorem hasI (B : Nat) (A : Option Addr) (c : Nat) (xs : List Int) (x : Int) (w : World) (hr : RdS w B 1 enI A xs) :
    Calls Try.prog 40 #[.slice A xs.length c, .int .i64 x] w fun e w' => e = .returned (.bool (decide (x ∈ xs))) ∧ w = w' := by
  have hn := hr.len
  generalize hnn : xs.length = n at *
  have H := Lib.hid hnn; clear hnn
  go_enter Try.func40, Try.ntmps40
  go_wp2
  go_loop [5] (fun i => ∃ k : Nat, k ≤ n ∧ i = .int .i64 k ∧ Hid (x ∉ xs.take k)) (fun i => n - (intOf i).toNat)
  case atStart => exact ⟨0, Nat.zero_le _, rfl, by simp [Hid]⟩
  case round =>
    obtain ⟨k, hk, rfl, hm⟩ := hrel
    by_cases hlt : k < n
    · obtain ⟨b, off, y, rfl, hb, hx, hc⟩ := rdI_at hr (by rw [H.out]; exact hlt)
      by_cases he : y = x
      · subst he
        have HV := Lib.hid (show decide (y ∈ xs) = true from decide_eq_true (List.mem_of_getElem? hx))
        clear hx
        go_wp2
        go_ret
        exact ⟨retb HV.out.symm, rfl⟩
      · have e1 : (y == x) = false := by simp [he]
        have HM := Lib.hid (has_take hx hm.out he)
        clear hx he
        go_wp2
        go_round
        case rel => exact ⟨k + 1, by omega, by go_num, HM⟩
        case measure => simp [intOf]; omega
    · obtain rfl : k = n := by omega
      have HV : Hid (decide (x ∈ xs) = false) := by
        have := hm.out
        rw [List.take_of_length_le (by rw [H.out]; exact Nat.le_refl _)] at this
        exact decide_eq_false this
      go_wp2
      go_ret
      exact ⟨retb HV.out.symm, rfl⟩

def perm (size : Int) : Bool := (List.range size.toNat).all fun i => (seeds size).contains (i : Int)
theorem perm_all : perm 2 = true ∧ perm 4 = true ∧ perm 8 = true ∧ perm 16 = true ∧ perm 32 = true := by decide +kernel
theorem perm_ok {size : Int} (h : okSz size = true) {i : Nat} (hi : i < size.toNat) : decide ((i : Int) ∈ seeds size) = true := by
  have hp : perm size = true := by
    have h := of_decide_eq_true h
    obtain ⟨d1, d2, d3, d4, d5⟩ := perm_all
    rcases h with rfl | rfl | rfl | rfl | rfl <;> assumption
  unfold perm at hp
  rw [List.all_eq_true] at hp
  have := hp i (List.mem_range.2 hi)
  exact decide_eq_true (by simpa using this)
theorem mem_pick (p : Nat → Bool) (n k : Nat) (hk : k < n) : decide ((k : Int) ∈ pick p n) = p k := by
  have : ((k : Int) ∈ pick p n) ↔ p k = true := by
    unfold pick
    rw [List.mem_map]
    constructor
    · rintro ⟨a, ha, he⟩
      have : a = k := by omega
      subst this
      exact (List.mem_filter.1 ha).2
    · intro h
      exact ⟨k, List.mem_filter.2 ⟨List.mem_range.2 hk, h⟩, rfl⟩
  cases h : p k
  · exact decide_eq_false (by rw [this, h]; decide)
  · exact decide_eq_true (by rw [this, h])
set_option maxHeartbeats 600000 in
theorem drawO (A : Option Addr) (cp : Nat) (xs : List Int) (w : World) (hr : RdS w w.heap.size 1 enB A xs) (hw : ∀ x ∈ xs, (Lit.int .u8 x).wf = true) :
    Calls Try.prog 39 #[.slice A xs.length cp] w fun e w' => (∃ (s : Int) (Av : Option Addr) (cv : Nat) (R : List Int), e = .returned (.agg #[.int .i64 s, .slice Av R.length cv]) ∧ OwnS w' w.heap.size w'.heap.size 2 1 enI (.slice Av R.length cv) R ∧ -2 ≤ s ∧ s ≤ 64 ∧ R.length ≤ 70) ∧ Below w.heap.size w w' := by
  go_enter Try.func39, Try.ntmps39
  go_wp2_with fail
  have hr' : RdS (w.alloc (.cells #[.int .i64 0, .slice none 0 0] 31)) (w.alloc (.cells #[.int .i64 0, .slice none 0 0] 31)).heap.size 1 enB A xs := (hr.below ((Below.refl w.heap.size w).alloc (Nat.le_refl _) _) (Nat.le_refl _)).more (by simp)
  refine (new_ hr' hw).mono ?_
  rintro e w1 ⟨rfl, h1⟩
  rw [World.size_alloc] at h1
  go_wp2_with fail
  refine (l32 h1).mono ?_
  rintro e w2 ⟨⟨s, v, R, rfl, hv, hs0, hs1, hR⟩, h2, hg2⟩
  obtain ⟨Av, cv, rfl, _⟩ := hv.form enI_len
  have rr := (RowB.new w 31 [.int .i64 0, .slice none 0 0]).below h2.bel (Nat.lt_succ_self _)
  have hb2 : Below w.heap.size w w2 := ((Below.refl _ _).alloc (Nat.le_refl _) _).trans (h2.bel.mono (Nat.le_succ _))
  have hz1 : w.heap.size + 1 ≤ w1.heap.size := by have := h1.bel.size; simpa using this
  obtain ⟨s0, s1⟩ := rr.c2
  have fr := rr.frozen
  go_wp2_with fail
  refine bp_gen (fun W' => Below w.heap.size w W' ∧ RowB W' w.heap.size 31 [.int .i64 s, .slice Av R.length cv] ∧ OwnS W' w1.heap.size W'.heap.size 2 1 enI (.slice Av R.length cv) R) ⟨(hb2.setCell (by simp) _).setCell (by simp) _, (rr.set 0 _).set 1 _, ?_⟩ ?_
  · simp only [World.size_setCell]
    exact OwnS.setCell (OwnS.setCell hv (p := ⟨w.heap.size, 0, none⟩) (by simp; omega) _) (p := ⟨w.heap.size, 1, none⟩) (by simp; omega) _
  rintro W5 ⟨hb5, rr5, own5⟩
  obtain ⟨q0, q1⟩ := rr5.c2
  refine bodyPost_ret (v := .agg #[.int .i64 s, .slice Av R.length cv]) (by simp [results, Try.results39, go_sem, q0, q1]) rfl ?_
  exact ⟨⟨_, _, _, _, rfl, own5.less (by omega), hs0, hs1, hR⟩, hb5⟩

set_option maxHeartbeats 600000 in
theorem drawP (A : Option Addr) (cp : Nat) (xs : List Int) (w : World) (hr : RdS w w.heap.size 1 enB A xs) (hw : ∀ x ∈ xs, (Lit.int .u8 x).wf = true) :
    Calls Try.prog 47 #[.slice A xs.length cp] w fun e w' => (∃ (s : Int) (Av : Option Addr) (cv : Nat) (R : List Int), e = .returned (.agg #[.int .i64 s, .slice Av R.length cv]) ∧ OwnS w' w.heap.size w'.heap.size 2 1 enI (.slice Av R.length cv) R ∧ -2 ≤ s ∧ s ≤ 64 ∧ R.length ≤ 70) ∧ Below w.heap.size w w' := by
  go_enter Try.func47, Try.ntmps47
  go_wp2_with fail
  have hr' : RdS (w.alloc (.cells #[.int .i64 0, .slice none 0 0] 31)) (w.alloc (.cells #[.int .i64 0, .slice none 0 0] 31)).heap.size 1 enB A xs := (hr.below ((Below.refl w.heap.size w).alloc (Nat.le_refl _) _) (Nat.le_refl _)).more (by simp)
  refine (new_ hr' hw).mono ?_
  rintro e w1 ⟨rfl, h1⟩
  rw [World.size_alloc] at h1
  go_wp2_with fail
  refine (l32 h1).mono ?_
  rintro e w2 ⟨⟨s, v, R, rfl, hv, hs0, hs1, hR⟩, h2, hg2⟩
  obtain ⟨Av, cv, rfl, _⟩ := hv.form enI_len
  have rr := (RowB.new w 31 [.int .i64 0, .slice none 0 0]).below h2.bel (Nat.lt_succ_self _)
  have hb2 : Below w.heap.size w w2 := ((Below.refl _ _).alloc (Nat.le_refl _) _).trans (h2.bel.mono (Nat.le_succ _))
  have hz1 : w.heap.size + 1 ≤ w1.heap.size := by have := h1.bel.size; simpa using this
  obtain ⟨s0, s1⟩ := rr.c2
  have fr := rr.frozen
  go_wp2_with fail
  refine bp_gen (fun W' => Below w.heap.size w W' ∧ RowB W' w.heap.size 31 [.int .i64 s, .slice Av R.length cv] ∧ OwnS W' w1.heap.size W'.heap.size 2 1 enI (.slice Av R.length cv) R) ⟨(hb2.setCell (by simp) _).setCell (by simp) _, (rr.set 0 _).set 1 _, ?_⟩ ?_
  · simp only [World.size_setCell]
    exact OwnS.setCell (OwnS.setCell hv (p := ⟨w.heap.size, 0, none⟩) (by simp; omega) _) (p := ⟨w.heap.size, 1, none⟩) (by simp; omega) _
  rintro W5 ⟨hb5, rr5, own5⟩
  obtain ⟨q0, q1⟩ := rr5.c2
  refine bodyPost_ret (v := .agg #[.int .i64 s, .slice Av R.length cv]) (by simp [results, Try.results47, go_sem, q0, q1]) rfl ?_
  exact ⟨⟨_, _, _, _, rfl, own5.less (by omega), hs0, hs1, hR⟩, hb5⟩

end Go.Proofs.Ytoicppnkkhajeaa.Brk
