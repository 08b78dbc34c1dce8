/-
  The plain law on a tournament that has been played to its end: each entrant has a place, one alone the first, and that is the winner of the last match; each entrant plays. No program in sight.
-/
import Derived.Test.YtoicppnkkhajeaaBrk
import Derived.Test.YtoicppnkkhajeaaTF3
import Derived.Test.YtoicppnkkhajeaaTF5
import Derived.Test.YtoicppnkkhajeaaTF6
import Derived.Test.YtoicppnkkhajeaaTF7
set_option linter.unusedVariables false
namespace Go.Proofs.Ytoicppnkkhajeaa.Knock
open Go.ChangeShapes Go.WideShapes Go.ChangeAt Go.RowKit Base Ints Tourn1 Order Own OrderS Pairs PairsS Bracket TF1 TF2 TF3 TF5 TF6 TF7 Pairs2 Brk

section
variable {size : Int} (R : List Int) (h : okSz size = true)
include h
theorem slot_of {i : Nat} (hi : i < size.toNat) : ∃ j, j < size.toNat ∧ en size R j = i := by
  have hm := of_decide_eq_true (perm_ok h hi)
  obtain ⟨j, hj⟩ := List.mem_iff_getElem?.1 hm
  have hl : j < (seeds size).length := (List.getElem?_eq_some_iff.1 hj).1
  rw [seeds_len h] at hl
  rw [seeds_en R h hl] at hj
  exact ⟨j, hl, by simpa using hj⟩
theorem plays {i : Nat} (hi : i < size.toNat) (hok : okT size R = true) : 0 < (meL size R i).length := by
  obtain ⟨j, hj, he⟩ := slot_of R h hi
  have h2 := (seeds_facts h).1
  have hc : meC size R i = 0 := by
    unfold meC; rw [if_pos hok, if_pos (decide_eq_true (by omega))]
  unfold meL
  rw [if_pos hc]
  have hp : meP size R i (j / 2) = true := by
    unfold meP
    rcases Nat.mod_two_eq_zero_or_one j with hm | hm
    · have : 2 * (j / 2) = j := by omega
      rw [this, he]; simp
    · have : 2 * (j / 2) + 1 = j := by omega
      rw [this, he]; simp
  have := mem_pick (meP size R i) (size.toNat - 1) (j / 2) (by omega)
  rw [hp] at this
  exact List.length_pos_of_mem (of_decide_eq_true this)
variable (hR : R.length + 1 = size.toNat)
include hR
omit h in
theorem wl {k : Nat} (hk : k + 1 < size.toNat) : (wi size R k = en size R (2 * k) ∧ lo size R k = en size R (2 * k + 1)) ∨ (wi size R k = en size R (2 * k + 1) ∧ lo size R k = en size R (2 * k)) := by
  have hk' : k < R.length := by omega
  simp only [wi, lo, if_pos hk']
  split
  · exact .inr ⟨rfl, rfl⟩
  · exact .inl ⟨rfl, rfl⟩
theorem chain (x : Int) : ∀ m j, m + j = 2 * size.toNat - 2 → en size R j = x → x = en size R (2 * size.toNat - 2) ∨ ∃ k, k + 1 < size.toNat ∧ lo size R k = x := by
  intro m
  induction m using Nat.strongRecOn with
  | _ m ih =>
    intro j hj he
    by_cases h0 : m = 0
    · left; rw [← he]; congr 1; omega
    · have hk : j / 2 + 1 < size.toNat := by omega
      have hw := wl R hR hk
      have hs := en_wi R h hk
      rcases Nat.mod_two_eq_zero_or_one j with hm | hm
      · rw [show 2 * (j / 2) = j from by omega] at hw
        rcases hw with ⟨h1, h2⟩ | ⟨h1, h2⟩
        · exact ih (2 * size.toNat - 2 - (size.toNat + j / 2)) (by omega) (size.toNat + j / 2) (by omega) (by rw [hs, h1, he])
        · exact .inr ⟨_, hk, by rw [h2, he]⟩
      · rw [show 2 * (j / 2) + 1 = j from by omega] at hw
        rcases hw with ⟨h1, h2⟩ | ⟨h1, h2⟩
        · exact .inr ⟨_, hk, by rw [h2, he]⟩
        · exact ih (2 * size.toNat - 2 - (size.toNat + j / 2)) (by omega) (size.toNat + j / 2) (by omega) (by rw [hs, h1, he])
theorem low : ∀ K, K + 1 < size.toNat → (∀ (i : Nat) (v : Int), (plA size R K)[i]? = some v → v = 0 ∨ 2 ≤ v) ∧ (∀ (k i : Nat) (v : Int), k < K → lo size R k = i → (plA size R K)[i]? = some v → 2 ≤ v) := by
  intro K
  induction K with
  | zero =>
    intro _
    refine ⟨fun i v hv => ?_, fun k i v hk => by omega⟩
    unfold plA at hv
    rw [List.getElem?_replicate] at hv
    split at hv
    · left; simpa using hv.symm
    · cases hv
  | succ K ih =>
    intro hK
    obtain ⟨i1, i2⟩ := ih (by omega)
    obtain ⟨r1, r2, r3⟩ := rd_facts h (k := K) (by omega)
    have hrd : rd size.toNat K ≠ 1 := fun e => by have := r1.1 e; omega
    have hl := lo_sign R h (k := K) (by omega)
    have hl0 := hl.2.2.1 (by omega)
    have hlen := plA_len size R K
    unfold plA
    rw [if_neg hrd]
    refine ⟨fun i v hv => ?_, fun k i v hk he hv => ?_⟩
    · rw [List.getElem?_set] at hv
      split at hv
      · split at hv
        · right; simp at hv; omega
        · cases hv
      · exact i1 i v hv
    · rw [List.getElem?_set] at hv
      split at hv
      · split at hv
        · simp at hv; omega
        · cases hv
      · rename_i hne
        rcases Nat.lt_or_ge k K with hk' | hk'
        · exact i2 k i v hk' he hv
        · obtain rfl : k = K := by omega
          omega
theorem places_ok {i : Nat} (hi : i < size.toNat) : ∃ v, (plA size R (size.toNat - 1))[i]? = some v ∧ 1 ≤ v ∧ (v = 1 ↔ wi size R (size.toNat - 2) = i) := by
  have h2 := (seeds_facts h).1
  obtain ⟨K, hK⟩ : ∃ K, size.toNat = K + 2 := ⟨size.toNat - 2, by omega⟩
  obtain ⟨i1, i2⟩ := low R h hR K (by omega)
  obtain ⟨r1, _, _⟩ := rd_facts h (k := K) (by omega)
  have hr := r1.2 (by omega)
  have hw := wi_sign R h (k := K) (by omega)
  have hl := lo_sign R h (k := K) (by omega)
  have hw0 := hw.2.2.1 (by omega)
  have hl0 := hl.2.2.1 (by omega)
  have hne := en_ne R h (k := K) (by omega)
  have hs := en_sign R h (i := 2 * K) (by omega)
  have hs0 := hs.2.2.1 (by omega)
  have hne := hne hs0
  have hwl := wl R hR (k := K) (by omega)
  have hd : wi size R K ≠ lo size R K := by
    rcases hwl with ⟨a, b⟩ | ⟨a, b⟩
    · rw [a, b]; exact hne
    · rw [a, b]; exact hne.symm
  have hend := en_wi R h (k := K) (by omega)
  have hlen := plA_len size R K
  obtain ⟨j, hj, he⟩ := slot_of R h hi
  have hc := chain R h hR i (2 * size.toNat - 2 - j) j (by omega) he
  have e1 : size.toNat - 1 = K + 1 := by omega
  have e2 : size.toNat - 2 = K := by omega
  rw [show 2 * size.toNat - 2 = size.toNat + K from by omega, hend] at hc
  rw [e1, e2]
  unfold plA
  rw [if_pos hr, hr]
  by_cases hiw : wi size R K = i
  · refine ⟨1, ?_, by omega, by simp [hiw]⟩
    rw [List.getElem?_set, if_pos (by omega), if_pos (by simp; omega)]
  · by_cases hil : lo size R K = i
    · refine ⟨2, ?_, by omega, by simp [hiw]⟩
      rw [List.getElem?_set, if_neg (by omega), List.getElem?_set, if_pos (by omega), if_pos (by omega)]
      rfl
    · have hv : (plA size R K)[i]? = some ((plA size R K)[i]'(by omega)) := List.getElem?_eq_getElem _
      refine ⟨_, by rw [List.getElem?_set, if_neg (by omega), List.getElem?_set, if_neg (by omega)]; exact hv, ?_⟩
      have h2v : 2 ≤ (plA size R K)[i]'(by omega) := by
        rcases hc with hc | ⟨k, hk, hc⟩
        · exact absurd hc.symm hiw
        · refine i2 k i _ ?_ hc hv
          rcases Nat.lt_or_ge k K with hk' | hk'
          · exact hk'
          · obtain rfl : k = K := by omega
            exact absurd hc hil
      exact ⟨by omega, fun hh => by omega, fun hh => absurd hh hiw⟩
end
end Go.Proofs.Ytoicppnkkhajeaa.Knock
