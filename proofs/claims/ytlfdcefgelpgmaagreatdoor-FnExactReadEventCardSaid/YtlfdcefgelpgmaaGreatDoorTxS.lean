/-
  Texts of steps and turns, plainly: what is written, what is read back. Conditions: each theorem's own.
-/
import Derived.Test.YtlfdcefgelpgmaaGreatDoorTxP
import Derived.IntWalk
set_option linter.unusedVariables false
set_option linter.unusedSimpArgs false
namespace Go.Proofs.YtlfdcefgelpgmaaGreatDoor.TxP
open Go PlP

/-- Is a step plain? -/
def plainB (v : Vr) (s : Stp) : Bool :=
  decide (0 ≤ s.1 ∧ s.1 ≤ v.p) && decide (1 ≤ s.2.2.1 ∧ s.2.2.1 ≤ v.s) &&
  (if s.2.1 = -1 then !s.2.2.2 && decide (s.1 < v.p ∧ s.1 < s.2.2.1) else decide (0 ≤ s.2.1 ∧ s.2.1 = s.1 - s.2.2.1))
/-- The text of a step. -/
def fromT (v : Vr) (f : Int) : By := if f < v.p then Lib.itoa (f + 1) else [98, 97, 114]
def stpT (v : Vr) (s : Stp) : By :=
  fromT v s.1 ++ [47] ++ (if 0 ≤ s.2.1 then Lib.itoa (s.2.1 + 1) ++ (if s.2.2.2 then [42] else []) else [111, 102, 102] ++ (if s.2.2.1 = s.1 + 1 then [] else [40] ++ Lib.itoa s.2.2.1 ++ [41]))
theorem plain_parts {v : Vr} {s : Stp} (h : plainB v s = true) : (0 ≤ s.1 ∧ s.1 ≤ v.p) ∧ (1 ≤ s.2.2.1 ∧ s.2.2.1 ≤ v.s) ∧ ((s.2.1 = -1 ∧ s.2.2.2 = false ∧ s.1 < v.p ∧ s.1 < s.2.2.1) ∨ (0 ≤ s.2.1 ∧ s.2.1 = s.1 - s.2.2.1)) := by
  unfold plainB at h
  simp only [Bool.and_eq_true, decide_eq_true_eq] at h
  obtain ⟨⟨h1, h2⟩, h3⟩ := h
  refine ⟨h1, h2, ?_⟩
  split at h3
  · rename_i h4
    simp only [Bool.and_eq_true, decide_eq_true_eq, Bool.not_eq_true'] at h3
    exact .inl ⟨h4, h3.1, h3.2⟩
  · exact .inr (by simpa using h3)
theorem from_ne {v : Vr} (hv : okV v = true) {f : Int} (h0 : 0 ≤ f) {c : UInt8} (hc : c.toNat < 48 ∨ (57 < c.toNat ∧ c.toNat < 97)) : ∀ x ∈ fromT v f, x ≠ c := by
  intro x hx
  have hp := (okV_iff.1 hv).1
  unfold fromT at hx
  split at hx
  · exact ito_ne (by omega) (by omega) (by omega) x hx
  · simp at hx
    rintro rfl
    rcases hx with rfl | rfl | rfl <;> revert hc <;> decide
theorem from_back {v : Vr} (hv : okV v = true) {f : Int} (h0 : 0 ≤ f) (h1 : f ≤ v.p) : if f < v.p then fromT v f = Lib.itoa (f + 1) ∧ fromT v f ≠ [98, 97, 114] else f = v.p ∧ fromT v f = [98, 97, 114] := by
  have hp := (okV_iff.1 hv).1
  unfold fromT
  split
  · refine ⟨rfl, fun h => ?_⟩
    exact ito_ne (n := f + 1) (by omega) (by omega) (c := 98) (by decide) 98 (by rw [h]; simp) rfl
  · exact ⟨by omega, rfl⟩

/-! ### The program's reading of a step -/
def inner (r : By) : By := Lib.trimSuffix (Lib.trimPrefix r [40]) [41]
def gI (v : Vr) (t : By) : Option Stp :=
  if (Lib.cut t [47]).2.2 = false then none
  else if ¬ (Lib.cut t [47]).1 = [98, 97, 114] ∧ (rdDec (Lib.cut t [47]).1).2 = false then none
  else
    let f := if (Lib.cut t [47]).1 = [98, 97, 114] then v.p else IntKind.i64.wrap ((rdDec (Lib.cut t [47]).1).1 - 1)
    let r := (Lib.cut t [47]).2.1
    if Lib.hasPrefix r [111, 102, 102] = true then
      (if r.drop 3 = [] then some (f, -1, IntKind.i64.wrap (f + 1), false)
       else if (rdDec (inner (r.drop 3))).2 = true then some (f, -1, (rdDec (inner (r.drop 3))).1, false) else none)
    else if (rdDec (Lib.trimSuffix r [42])).2 = true then
      some (f, IntKind.i64.wrap ((rdDec (Lib.trimSuffix r [42])).1 - 1), IntKind.i64.wrap (f - IntKind.i64.wrap ((rdDec (Lib.trimSuffix r [42])).1 - 1)), Lib.hasSuffix r [42])
    else none
def rdI (v : Vr) (t : By) : Option Stp := match gI v t with
  | some s => if plainB v s = true ∧ stpT v s = t then some s else none
  | none => none
/-! ### The reference's -/
def gS (v : Vr) (t : By) : Stp :=
  match spl 47 t with
  | [a, e] =>
    let f := if a = [98, 97, 114] then v.p else (valS a).1 - 1
    if 3 ≤ e.length ∧ e.take 3 = [111, 102, 102] then (f, -1, if 5 < e.length then (valS ((e.take (e.length - 1)).drop 4)).1 else f + 1, false)
    else if 0 < e.length ∧ e.getD (e.length - 1) 0 = 42 then (f, (valS (e.take (e.length - 1))).1 - 1, f - ((valS (e.take (e.length - 1))).1 - 1), true)
    else (f, (valS e).1 - 1, f - ((valS e).1 - 1), false)
  | _ => (0, 0, 0, false)
def rdS (v : Vr) (t : By) : Option Stp := if plainB v (gS v t) = true ∧ stpT v (gS v t) = t then some (gS v t) else none

theorem suf1 (a : By) (c : UInt8) : Lib.hasSuffix (a ++ [c]) [c] = true := by
  unfold Lib.hasSuffix
  rw [List.isSuffixOf_iff_suffix]
  exact ⟨a, rfl⟩
theorem suf_no {a : By} {c : UInt8} (h : ∀ x ∈ a, x ≠ c) : Lib.hasSuffix a [c] = false := by
  cases h1 : Lib.hasSuffix a [c] with
  | false => rfl
  | true =>
    unfold Lib.hasSuffix at h1
    rw [List.isSuffixOf_iff_suffix] at h1
    obtain ⟨t, ht⟩ := h1
    exact absurd rfl (h c (by rw [← ht]; simp))
theorem tsuf1 (a : By) (c : UInt8) : Lib.trimSuffix (a ++ [c]) [c] = a := by
  unfold Lib.trimSuffix
  rw [suf1, if_pos rfl]
  simp
theorem tsuf_no {a : By} {c : UInt8} (h : ∀ x ∈ a, x ≠ c) : Lib.trimSuffix a [c] = a := by
  unfold Lib.trimSuffix
  rw [suf_no h]
  simp
theorem pre_no {a b : By} {c : UInt8} (h : a.getD 0 0 ≠ c) (ha : a ≠ []) (p : By) : Lib.hasPrefix (a ++ b) (c :: p) = false := by
  cases a with
  | nil => exact absurd rfl ha
  | cons x a =>
    unfold Lib.hasPrefix
    simp only [List.cons_append, List.isPrefixOf]
    have : (c == x) = false := by
      rw [beq_eq_false_iff_ne]
      intro e; exact h (by rw [← e]; rfl)
    rw [this]; rfl
theorem ito_head {n : Int} (h0 : 0 ≤ n) (h1 : n < 100) {c : UInt8} (hc : c.toNat < 48 ∨ 57 < c.toNat) : (Lib.itoa n).getD 0 0 ≠ c ∧ Lib.itoa n ≠ [] := by
  have hl := ito_len h0 h1
  have hne : Lib.itoa n ≠ [] := by intro e; rw [e] at hl; simp at hl
  refine ⟨?_, hne⟩
  refine ito_ne h0 h1 hc _ ?_
  rw [List.getD_eq_getElem?_getD, List.getElem?_eq_getElem (by omega)]
  exact List.getElem_mem _
/-- **The program reads a plain step's text back.** -/
theorem gI_text {v : Vr} (hv : okV v = true) {s : Stp} (h : plainB v s = true) : gI v (stpT v s) = some s := by
  obtain ⟨f, t, d, hit⟩ := s
  obtain ⟨h1, h2, h3⟩ := plain_parts h
  simp only at h1 h2 h3
  have hp := okV_iff.1 hv
  have hfb := from_back hv h1.1 h1.2
  have hcut : ∀ r : By, Lib.cut (fromT v f ++ [47] ++ r) [47] = (fromT v f, r, true) := fun r => by
    rw [List.append_assoc]; exact cut_at _ _ _ (from_ne hv h1.1 (by decide))
  obtain ⟨R, hR⟩ : ∃ R, (if 0 ≤ t then Lib.itoa (t + 1) ++ (if hit then [42] else []) else [111, 102, 102] ++ (if d = f + 1 then [] else [40] ++ Lib.itoa d ++ [41])) = R := ⟨_, rfl⟩
  have hT : stpT v (f, t, d, hit) = fromT v f ++ [47] ++ R := by rw [← hR]; rfl
  rw [hT]
  unfold gI
  rw [hcut R]
  have hF : (if fromT v f = [98, 97, 114] then v.p else IntKind.i64.wrap ((rdDec (fromT v f)).1 - 1)) = f ∧ ¬ (¬ fromT v f = [98, 97, 114] ∧ (rdDec (fromT v f)).2 = false) := by
    split at hfb
    · obtain ⟨e1, e2⟩ := hfb
      rw [if_neg e2, e1, rd_ito (by omega) (by omega)]
      refine ⟨?_, by simp⟩
      simp only
      rw [IntWalk.i64_in _ (by omega)]; omega
    · obtain ⟨e1, e2⟩ := hfb
      rw [if_pos e2]
      exact ⟨e1.symm, fun h => h.1 e2⟩
  rw [if_neg (by simp), if_neg hF.2]
  simp only [hF.1]
  rcases h3 with ⟨rfl, rfl, h4, h5⟩ | ⟨h4, h5⟩
  · rw [if_neg (by omega)] at hR
    subst hR
    have hpre : Lib.hasPrefix ([111, 102, 102] ++ (if d = f + 1 then [] else [40] ++ Lib.itoa d ++ [41])) [111, 102, 102] = true := by
      unfold Lib.hasPrefix; simp [List.isPrefixOf]
    rw [if_pos hpre]
    have hdrop : ([111, 102, 102] ++ (if d = f + 1 then [] else [40] ++ Lib.itoa d ++ [41]) : By).drop 3 = (if d = f + 1 then [] else [40] ++ Lib.itoa d ++ [41]) := rfl
    rw [hdrop]
    by_cases hd : d = f + 1
    · rw [if_pos hd, if_pos rfl, IntWalk.i64_in _ (by omega), hd]
    · rw [if_neg hd, if_neg (by simp)]
      have hin : inner ([40] ++ Lib.itoa d ++ [41]) = Lib.itoa d := by
        unfold inner
        have : Lib.trimPrefix ([40] ++ Lib.itoa d ++ [41]) [40] = Lib.itoa d ++ [41] := by
          unfold Lib.trimPrefix Lib.hasPrefix
          rw [if_pos (by simp [List.isPrefixOf])]
          rfl
        rw [this, tsuf1]
      rw [hin, rd_ito (by omega) (by omega)]
      simp
  · rw [if_pos h4] at hR
    subst hR
    have hd := ito_head (n := t + 1) (by omega) (by omega) (c := 111) (by decide)
    rw [pre_no hd.1 hd.2]
    simp only [Bool.false_eq_true, if_false]
    have hn42 : ∀ x ∈ Lib.itoa (t + 1), x ≠ 42 := ito_ne (by omega) (by omega) (by decide)
    cases hit with
    | true =>
      simp only [if_true, tsuf1, suf1, rd_ito (show 0 ≤ t + 1 by omega) (by omega)]
      rw [IntWalk.i64_in _ (by omega), IntWalk.i64_in _ (by omega)]
      congr 3
      · omega
      · congr 1; omega
    | false =>
      simp only [Bool.false_eq_true, if_false, List.append_nil, tsuf_no hn42, suf_no hn42, rd_ito (show 0 ≤ t + 1 by omega) (by omega), if_true]
      rw [IntWalk.i64_in _ (by omega), IntWalk.i64_in _ (by omega)]
      congr 3
      · omega
      · congr 1; omega
/-- **The reference reads a plain step's text back.** -/
theorem gS_text {v : Vr} (hv : okV v = true) {s : Stp} (h : plainB v s = true) : gS v (stpT v s) = s := by
  obtain ⟨f, t, d, hit⟩ := s
  obtain ⟨h1, h2, h3⟩ := plain_parts h
  simp only at h1 h2 h3
  have hp := okV_iff.1 hv
  have hfb := from_back hv h1.1 h1.2
  obtain ⟨R, hR⟩ : ∃ R, (if 0 ≤ t then Lib.itoa (t + 1) ++ (if hit then [42] else []) else [111, 102, 102] ++ (if d = f + 1 then [] else [40] ++ Lib.itoa d ++ [41])) = R := ⟨_, rfl⟩
  have hT : stpT v (f, t, d, hit) = fromT v f ++ [47] ++ R := by rw [← hR]; rfl
  have hR47 : ∀ x ∈ R, x ≠ 47 := by
    intro x hx
    rw [← hR] at hx
    split at hx
    · rw [List.mem_append] at hx
      rcases hx with hx | hx
      · exact ito_ne (by omega) (by omega) (by decide) x hx
      · split at hx <;> simp at hx
        subst hx; decide
    · rw [List.mem_append] at hx
      rcases hx with hx | hx
      · simp at hx; rcases hx with rfl | rfl <;> decide
      · split at hx
        · simp at hx
        · simp only [List.mem_append, List.mem_singleton] at hx
          rcases hx with (rfl | hx) | rfl
          · decide
          · exact ito_ne (by omega) (by omega) (by decide) x hx
          · decide
  have hsp : spl 47 (fromT v f ++ [47] ++ R) = [fromT v f, R] := by
    rw [List.append_assoc]
    show spl 47 (fromT v f ++ 47 :: R) = _
    rw [spl_at _ _ _ (from_ne hv h1.1 (by decide)), spl_no R 47 hR47]
  rw [hT]
  unfold gS
  rw [hsp]
  simp only
  have hF : (if fromT v f = [98, 97, 114] then v.p else (valS (fromT v f)).1 - 1) = f := by
    split at hfb
    · obtain ⟨e1, e2⟩ := hfb
      rw [if_neg e2, e1, val_ito (by omega) (by omega)]
      simp
    · rw [if_pos hfb.2]; exact hfb.1.symm
  rw [hF]
  rcases h3 with ⟨rfl, rfl, h4, h5⟩ | ⟨h4, h5⟩
  · rw [if_neg (by omega)] at hR
    subst hR
    rw [if_pos ⟨by simp, by simp⟩]
    by_cases hd : d = f + 1
    · rw [if_pos hd, if_neg (by simp), hd]
    · have hl := ito_len (n := d) (by omega) (by omega)
      rw [if_neg hd]
      have e3 : (([111, 102, 102] ++ ([40] ++ Lib.itoa d ++ [41]) : By).take (([111, 102, 102] ++ ([40] ++ Lib.itoa d ++ [41]) : By).length - 1)).drop 4 = Lib.itoa d := by
        have : ([111, 102, 102] ++ ([40] ++ Lib.itoa d ++ [41]) : By) = [111, 102, 102, 40] ++ Lib.itoa d ++ [41] := by simp
        rw [this]
        have e4 : ([111, 102, 102, 40] ++ Lib.itoa d ++ [41] : By).length - 1 = ([111, 102, 102, 40] ++ Lib.itoa d : By).length := by simp
        rw [e4, List.take_left]
        simp
      rw [e3, val_ito (by omega) (by omega), if_pos (by simp; omega)]
  · rw [if_pos h4] at hR
    subst hR
    have hl := ito_len (n := t + 1) (by omega) (by omega)
    have hhd := ito_head (n := t + 1) (by omega) (by omega) (c := 111) (by decide)
    rw [if_neg (by
      rintro ⟨_, h6⟩
      apply hhd.1
      have h7 : ((Lib.itoa (t + 1) ++ (if hit then [42] else [])).take 3).getD 0 0 = 111 := by rw [h6]; rfl
      cases hi : Lib.itoa (t + 1) with
      | nil => exact absurd hi hhd.2
      | cons x l => rw [hi] at h7; simpa using h7)]
    cases hit with
    | true =>
      simp only [if_true]
      rw [if_pos ⟨by simp, by simp⟩]
      have e3 : (Lib.itoa (t + 1) ++ [42]).take ((Lib.itoa (t + 1) ++ [42]).length - 1) = Lib.itoa (t + 1) := by simp
      rw [e3, val_ito (by omega) (by omega)]
      simp only [Prod.mk.injEq, true_and, and_true]
      exact ⟨by omega, by omega⟩
    | false =>
      simp only [Bool.false_eq_true, if_false, List.append_nil]
      rw [if_neg (by
        rintro ⟨_, h6⟩
        refine ito_ne (n := t + 1) (by omega) (by omega) (c := 42) (by decide) 42 ?_ rfl
        rw [← h6, List.getD_eq_getElem?_getD, List.getElem?_eq_getElem (by omega)]
        exact List.getElem_mem _), val_ito (by omega) (by omega)]
      simp only [Prod.mk.injEq, true_and, and_true]
      exact ⟨by omega, by omega⟩
theorem rdI_iff {v : Vr} (hv : okV v = true) {t : By} {s : Stp} : rdI v t = some s ↔ plainB v s = true ∧ stpT v s = t := by
  unfold rdI
  constructor
  · intro h
    split at h
    · split at h
      · rename_i h1; simp only [Option.some.injEq] at h; subst h; exact h1
      · cases h
    · cases h
  · rintro ⟨h1, rfl⟩
    rw [gI_text hv h1]
    simp [h1]
theorem rdS_iff {v : Vr} (hv : okV v = true) {t : By} {s : Stp} : rdS v t = some s ↔ plainB v s = true ∧ stpT v s = t := by
  unfold rdS
  constructor
  · intro h
    split at h
    · rename_i h1; simp only [Option.some.injEq] at h; subst h; exact h1
    · cases h
  · rintro ⟨h1, rfl⟩
    rw [gS_text hv h1]
    simp [h1]
/-- **Both read the same steps.** -/
theorem rd_eq {v : Vr} (hv : okV v = true) (t : By) : rdS v t = rdI v t := by
  cases h : rdI v t with
  | some s => exact (rdS_iff hv).2 ((rdI_iff hv).1 h)
  | none =>
    cases h2 : rdS v t with
    | none => rfl
    | some s => rw [(rdI_iff hv).2 ((rdS_iff hv).1 h2)] at h; cases h
/-- The text of a plain step: no blank, no line's end, 3 to 9 bytes. -/
theorem step_ne {v : Vr} (hv : okV v = true) {s : Stp} (h : plainB v s = true) {c : UInt8} (hc : c.toNat < 40) : ∀ x ∈ stpT v s, x ≠ c := by
  obtain ⟨f, t, d, hit⟩ := s
  obtain ⟨h1, h2, h3⟩ := plain_parts h
  simp only at h1 h2 h3
  have hp := okV_iff.1 hv
  intro x hx
  unfold stpT at hx
  simp only [List.mem_append, List.mem_singleton] at hx
  rcases hx with (hx | rfl) | hx
  · exact from_ne hv h1.1 (by omega) x hx
  · rintro rfl; revert hc; decide
  · split at hx
    · rw [List.mem_append] at hx
      rcases hx with hx | hx
      · exact ito_ne (by omega) (by omega) (by omega) x hx
      · split at hx <;> simp at hx
        subst hx; rintro rfl; revert hc; decide
    · rw [List.mem_append] at hx
      rcases hx with hx | hx
      · simp at hx; rcases hx with rfl | rfl <;> (rintro rfl; revert hc; decide)
      · split at hx
        · simp at hx
        · simp only [List.mem_append, List.mem_singleton] at hx
          rcases hx with (rfl | hx) | rfl
          · rintro rfl; revert hc; decide
          · exact ito_ne (by omega) (by omega) (by omega) x hx
          · rintro rfl; revert hc; decide
theorem step_len {v : Vr} (hv : okV v = true) {s : Stp} (h : plainB v s = true) : 3 ≤ (stpT v s).length ∧ (stpT v s).length ≤ 11 := by
  obtain ⟨f, t, d, hit⟩ := s
  obtain ⟨h1, h2, h3⟩ := plain_parts h
  simp only at h1 h2 h3
  have hp := okV_iff.1 hv
  have hf : 1 ≤ (fromT v f).length ∧ (fromT v f).length ≤ 3 := by
    unfold fromT
    split
    · have := ito_len (n := f + 1) (by omega) (by omega); omega
    · simp
  have hd := ito_len (n := d) (by omega) (by omega)
  unfold stpT
  simp only [List.length_append, List.length_cons, List.length_nil]
  split
  · have ht := ito_len (n := t + 1) (by omega) (by omega)
    simp only [List.length_append]
    split <;> simp <;> omega
  · split <;> simp <;> omega
end Go.Proofs.YtlfdcefgelpgmaaGreatDoor.TxP
