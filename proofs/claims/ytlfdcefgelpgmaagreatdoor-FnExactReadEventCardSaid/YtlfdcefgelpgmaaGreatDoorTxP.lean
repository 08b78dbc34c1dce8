/-
  Texts, plainly: numerals of small numbers, cutting and splitting. Conditions: each theorem's own.
-/
import Derived.Test.YtlfdcefgelpgmaaGreatDoorPlG
import Derived.Lib.ParseIntB
import Derived.Lib.ItoaNum
import Derived.Lib.IndexMore
import Derived.Lib.Strings
import Derived.Lib.SplitLaws
import Derived.Lib.Join
set_option linter.unusedVariables false
set_option linter.unusedSimpArgs false
namespace Go.Proofs.YtlfdcefgelpgmaaGreatDoor.TxP
open Go

abbrev By := List UInt8
def dg (d : Nat) : UInt8 := UInt8.ofNat (48 + d)
theorem dg_nat {d : Nat} (h : d < 10) : (dg d).toNat = 48 + d := by unfold dg; rw [UInt8.toNat_ofNat_of_lt' (by show 48 + d < 256; omega)]
theorem dg_ne {d : Nat} (h : d < 10) {c : UInt8} (hc : c.toNat < 48 ∨ 57 < c.toNat) : dg d ≠ c := by
  intro e
  have h1 := dg_nat h
  rw [e] at h1
  omega
/-- The numeral of a number below 100. -/
theorem ito_cases {n : Int} (h0 : 0 ≤ n) (h1 : n < 100) : (n < 10 ∧ Lib.itoa n = [dg n.toNat]) ∨ (10 ≤ n ∧ Lib.itoa n = [dg (n.toNat / 10), dg (n.toNat % 10)]) := by
  have e : Lib.itoa n = Lib.decDigits n.toNat := by unfold Lib.itoa; rw [if_neg (by omega)]
  rw [e]
  by_cases h : n < 10
  · exact .inl ⟨h, Lib.decDigits_one (by omega)⟩
  · exact .inr ⟨by omega, Lib.decDigits_two (by omega) (by omega)⟩
theorem ito_len {n : Int} (h0 : 0 ≤ n) (h1 : n < 100) : 1 ≤ (Lib.itoa n).length ∧ (Lib.itoa n).length ≤ 2 := by
  rcases ito_cases h0 h1 with ⟨_, e⟩ | ⟨_, e⟩ <;> rw [e] <;> simp
theorem ito_one {n : Int} (h0 : 0 ≤ n) (h1 : n < 10) : Lib.itoa n = [dg n.toNat] := by
  rcases ito_cases h0 (by omega) with ⟨_, e⟩ | ⟨h, e⟩
  · exact e
  · omega
/-- A numeral has digits alone. -/
theorem ito_ne {n : Int} (h0 : 0 ≤ n) (h1 : n < 100) {c : UInt8} (hc : c.toNat < 48 ∨ 57 < c.toNat) : ∀ x ∈ Lib.itoa n, x ≠ c := by
  intro x hx
  rcases ito_cases h0 h1 with ⟨_, e⟩ | ⟨_, e⟩ <;> rw [e] at hx <;> simp at hx
  · subst hx; exact dg_ne (by omega) hc
  · rcases hx with rfl | rfl <;> exact dg_ne (by omega) hc

/-! ### Numbers read -/
/-- impl.readDecimal. -/
def rdDec (l : By) : Int × Bool :=
  if Lib.trimPrefix l [45] = [] ∨ 19 < (Lib.trimPrefix l [45]).length then (0, false)
  else match Lib.parseIntB 64 l with
    | .ok v => if Lib.itoa v = l then (v, true) else (0, false)
    | _ => (0, false)
theorem pu_dg {M acc d : Nat} {l : By} (hd : d < 10) (ha : acc < 100000) (hM : 10000000 ≤ M) : Lib.parseUintM M acc (dg d :: l) = Lib.parseUintM M (acc * 10 + d) l := by
  have h1 := dg_nat hd
  rw [Lib.parseUintM, h1, if_pos (by omega), if_neg (by omega), if_neg (by omega)]
  congr 1
  omega
theorem pi_of {c : Nat} {l : By} {u : Nat} (hc : c < 10) (h : Lib.parseUintM 18446744073709551615 0 (dg c :: l) = .ok u) (hu : u < 100000) : Lib.parseIntB 64 (dg c :: l) = .ok (u : Int) := by
  have h1 := dg_nat hc
  unfold Lib.parseIntB
  simp only [h1]
  rw [if_neg (by omega)]
  unfold Lib.parseUintB
  rw [if_neg (by simp)]
  simp only [show 2 ^ 64 - 1 = 18446744073709551615 from by decide, h]
  rw [if_neg (by omega), if_neg (by omega), if_neg (by omega)]
theorem pi1 {a : Nat} (ha : a < 10) : Lib.parseIntB 64 [dg a] = .ok (a : Int) := by
  refine pi_of ha ?_ (by omega)
  rw [pu_dg ha (by omega) (by omega), Lib.parseUintM]; congr 1; omega
theorem pi2 {a b : Nat} (ha : a < 10) (hb : b < 10) : Lib.parseIntB 64 [dg a, dg b] = .ok ((a * 10 + b : Nat) : Int) := by
  refine pi_of ha ?_ (by omega)
  rw [pu_dg ha (by omega) (by omega), pu_dg hb (by omega) (by omega), Lib.parseUintM]; congr 1; omega
theorem trim_dg {c : Nat} {l : By} (hc : c < 10) : Lib.trimPrefix (dg c :: l) [45] = dg c :: l := by
  have h1 : dg c ≠ 45 := dg_ne hc (by decide)
  unfold Lib.trimPrefix Lib.hasPrefix
  rw [if_neg]
  simp [List.isPrefixOf]
  exact fun h => h1 h.symm
theorem rd_ito {n : Int} (h0 : 0 ≤ n) (h1 : n < 100) : rdDec (Lib.itoa n) = (n, true) := by
  have key : ∀ l : By, Lib.trimPrefix l [45] = l → 1 ≤ l.length → l.length ≤ 2 → Lib.parseIntB 64 l = .ok n → Lib.itoa n = l → rdDec l = (n, true) := by
    intro l h2 h3 h4 h5 h6
    unfold rdDec
    have hn : ¬ (l = [] ∨ 19 < l.length) := by
      rintro (h | h)
      · rw [h] at h3; simp at h3
      · omega
    rw [h2, if_neg hn, h5]
    simp only
    rw [if_pos h6]
  rcases ito_cases h0 h1 with ⟨hl, e⟩ | ⟨hl, e⟩
  · refine key _ (by rw [e]; exact trim_dg (by omega)) (by rw [e]; simp) (by rw [e]; simp) ?_ rfl
    rw [e, pi1 (by omega)]; congr 1; omega
  · refine key _ (by rw [e]; exact trim_dg (by omega)) (by rw [e]; simp) (by rw [e]; simp) ?_ rfl
    rw [e, pi2 (by omega) (by omega)]; congr 1; omega
theorem rd_back {l : By} {n : Int} (h : rdDec l = (n, true)) : Lib.itoa n = l := by
  unfold rdDec at h
  split at h
  · simp at h
  · split at h
    · split at h
      · rename_i h1; simp only [Prod.mk.injEq, and_true] at h; rw [← h]; exact h1
      · simp at h
    · simp at h
/-- spec.l01Value. -/
def isD (b : UInt8) : Bool := decide (48 ≤ b.toNat ∧ b.toNat ≤ 57)
def numU (l : By) : Nat → Int
  | 0 => 0
  | k + 1 => 10 * numU l k + ((((l.getD k 0).toNat : Nat) : Int) - 48)
def valS (l : By) : Int × Bool :=
  if l.length = 0 ∨ 15 < l.length ∨ (1 < l.length ∧ l.getD 0 0 = 48) then (0, false) else if l.all isD then (numU l l.length, true) else (0, false)
theorem dgD {d : Nat} (h : d < 10) : isD (dg d) = true := by unfold isD; rw [dg_nat h]; exact decide_eq_true (by omega)
theorem val_ito {n : Int} (h0 : 0 ≤ n) (h1 : n < 100) : valS (Lib.itoa n) = (n, true) := by
  rcases ito_cases h0 h1 with ⟨hl, e⟩ | ⟨hl, e⟩
  · have hd := dg_nat (show n.toNat < 10 by omega)
    have ha := dgD (show n.toNat < 10 by omega)
    rw [e]
    simp [valS, numU, ha, hd]
    omega
  · have hd := dg_nat (show n.toNat / 10 < 10 by omega)
    have ha := dgD (show n.toNat / 10 < 10 by omega)
    have hd2 := dg_nat (show n.toNat % 10 < 10 by omega)
    have ha2 := dgD (show n.toNat % 10 < 10 by omega)
    have hz : ¬ dg (n.toNat / 10) = 48 := by
      intro h
      have := congrArg UInt8.toNat h
      rw [hd] at this
      have : (48 : UInt8).toNat = 48 := rfl
      omega
    rw [e]
    simp [valS, numU, ha, hd, ha2, hd2, hz]
    omega
theorem num_bd {l : By} (h : l.all isD = true) : ∀ k, k ≤ l.length → 0 ≤ numU l k ∧ numU l k < 10 ^ k := by
  intro k
  induction k with
  | zero => intro _; simp [numU]
  | succ k ih =>
    intro hk
    have h1 := ih (by omega)
    have hx : isD (l.getD k 0) = true := by
      rw [List.getD_eq_getElem?_getD, List.getElem?_eq_getElem (by omega)]
      exact List.all_eq_true.1 h _ (List.getElem_mem _)
    unfold isD at hx
    simp only [decide_eq_true_eq] at hx
    have e : ((10 : Int) ^ (k + 1)) = 10 * 10 ^ k := by rw [Int.pow_succ, Int.mul_comm]
    rw [e]
    unfold numU
    omega
/-- Where a short text reads as a small number in both ways, they agree. -/
theorem val_back {l : By} {n : Int} (h : valS l = (n, true)) (h0 : 0 ≤ n) (h1 : n < 100) : Lib.itoa n = l := by
  unfold valS at h
  split at h
  · simp at h
  · rename_i hn
    split at h
    · rename_i ha
      simp only [Prod.mk.injEq, and_true] at h
      have hl : 1 ≤ l.length := by
        rcases Nat.eq_zero_or_pos l.length with h2 | h2
        · exact absurd (.inl h2) hn
        · exact h2
      have hd : ∀ x ∈ l, ∃ d : Nat, d < 10 ∧ x = dg d := by
        intro x hx
        have := List.all_eq_true.1 ha x hx
        unfold isD at this
        simp only [decide_eq_true_eq] at this
        refine ⟨x.toNat - 48, by omega, ?_⟩
        unfold dg
        rw [show 48 + (x.toNat - 48) = x.toNat by omega]
        exact (UInt8.ofNat_toNat).symm
      have hl2 : l.length ≤ 2 := by
        rcases Nat.lt_or_ge 2 l.length with h3 | h3
        · exfalso
          -- three digits or more, the first not zero
          have hz : ¬ l.getD 0 0 = 48 := fun e => hn (.inr (.inr ⟨by omega, e⟩))
          have hge : ∀ k, 1 ≤ k → k ≤ l.length → 10 ^ (k - 1) ≤ numU l k := by
            intro k
            induction k with
            | zero => intro h; omega
            | succ k ih =>
              intro _ hk
              have hx : isD (l.getD k 0) = true := by
                rw [List.getD_eq_getElem?_getD, List.getElem?_eq_getElem (by omega)]
                exact List.all_eq_true.1 ha _ (List.getElem_mem _)
              unfold isD at hx
              simp only [decide_eq_true_eq] at hx
              rcases Nat.eq_zero_or_pos k with hk0 | hk0
              · subst hk0
                have : (l.getD 0 0).toNat ≠ 48 := fun e => hz (UInt8.toNat_inj.1 (by rw [e]; rfl))
                simp only [numU, Nat.zero_add, Nat.sub_self, Int.pow_zero]
                omega
              · have h4 := ih hk0 (by omega)
                have e : ((10 : Int) ^ (k + 1 - 1)) = 10 * 10 ^ (k - 1) := by
                  rw [show k + 1 - 1 = (k - 1) + 1 by omega, Int.pow_succ, Int.mul_comm]
                rw [e]
                unfold numU
                omega
          have h5 := hge l.length hl (Nat.le_refl _)
          have h6 : ((10 : Int) ^ 2) ≤ 10 ^ (l.length - 1) := by
            have : (10 : Nat) ^ 2 ≤ 10 ^ (l.length - 1) := Nat.pow_le_pow_right (by omega) (by omega)
            exact_mod_cast this
          omega
        · exact h3
      match l, hl, hl2 with
      | [a], _, _ =>
        obtain ⟨d, hd1, rfl⟩ := hd a (by simp)
        have hv := dg_nat hd1
        simp [numU, hv] at h
        rw [← h, ito_one (by omega) (by omega)]
        congr 2
        omega
      | [a, b], _, _ =>
        obtain ⟨d, hd1, rfl⟩ := hd a (by simp)
        obtain ⟨d2, hd2, rfl⟩ := hd b (by simp)
        have hv := dg_nat hd1
        have hv2 := dg_nat hd2
        have hz : d ≠ 0 := by
          intro e
          subst e
          exact hn (.inr (.inr ⟨by simp, rfl⟩))
        simp [numU, hv, hv2] at h
        rcases ito_cases h0 h1 with ⟨h7, _⟩ | ⟨_, e⟩
        · omega
        · rw [e]
          congr 2
          · omega
          · congr 2; omega
    · simp at h

/-! ### Cutting -/
theorem index_at : ∀ (a b : By) (c : UInt8), (∀ x ∈ a, x ≠ c) → Lib.index (a ++ c :: b) [c] = (a.length : Int) := by
  intro a
  induction a with
  | nil => intro b c _; simp [Lib.index, List.isPrefixOf]
  | cons x a ih =>
    intro b c h
    have hx := h x (List.mem_cons_self ..)
    have := ih b c (fun y hy => h y (List.mem_cons_of_mem _ hy))
    rw [List.cons_append, Lib.index, this]
    have hf : ([c] : By).isPrefixOf (x :: (a ++ c :: b)) = false := by
      simp [List.isPrefixOf]; exact fun e => hx e.symm
    rw [hf]
    simp only [Bool.false_eq_true, if_false]
    rw [if_neg (by simp; try omega)]
    simp
theorem index_no : ∀ (a : By) (c : UInt8), (∀ x ∈ a, x ≠ c) → Lib.index a [c] = -1 := by
  intro a
  induction a with
  | nil => intro c _; simp [Lib.index]
  | cons x a ih =>
    intro c h
    have hx := h x (List.mem_cons_self ..)
    have := ih c (fun y hy => h y (List.mem_cons_of_mem _ hy))
    rw [Lib.index, this]
    have hf : ([c] : By).isPrefixOf (x :: a) = false := by
      simp [List.isPrefixOf]; exact fun e => hx e.symm
    rw [hf]
    simp
theorem cut_at (a b : By) (c : UInt8) (h : ∀ x ∈ a, x ≠ c) : Lib.cut (a ++ c :: b) [c] = (a, b, true) := by
  have h1 := index_at a b c h
  unfold Lib.cut
  rw [h1, if_pos (by omega)]
  simp
theorem cut_no (a : By) (c : UInt8) (h : ∀ x ∈ a, x ≠ c) : Lib.cut a [c] = (a, [], false) := by
  unfold Lib.cut
  rw [index_no a c h, if_neg (by omega)]
theorem cut_len (l sep : By) : (Lib.cut l sep).1.length ≤ l.length ∧ (Lib.cut l sep).2.1.length ≤ l.length := by
  unfold Lib.cut
  split
  · exact ⟨by rw [List.length_take]; omega, by rw [List.length_drop]; omega⟩
  · exact ⟨Nat.le_refl _, by simp⟩
theorem cut_rest (l sep : By) (hs : 0 < sep.length) (h : (Lib.cut l sep).2.2 = true) : (Lib.cut l sep).2.1.length < l.length := by
  unfold Lib.cut at h ⊢
  split
  · rename_i h1
    have := Lib.index_room l sep h1
    simp only [List.length_drop]
    omega
  · rename_i h1; rw [if_neg h1] at h; simp at h
/-- What is cut is there. -/
theorem cut_join {l sep a b : By} (h : Lib.cut l sep = (a, b, true)) : l = a ++ sep ++ b := by
  unfold Lib.cut at h
  split at h
  · rename_i h1
    rcases Lib.index_spec l sep with ⟨h2, _⟩ | ⟨i, h2, h3, h4, _⟩
    · omega
    · rw [h2] at h
      simp only [Prod.mk.injEq, and_true, Int.toNat_natCast] at h
      obtain ⟨rfl, rfl⟩ := h
      have h5 : sep <+: l.drop i := by simpa [Lib.occAt] using h4
      obtain ⟨t, ht⟩ := h5
      have h6 : l.drop (i + sep.length) = t := by rw [← List.drop_drop, ← ht, List.drop_left]
      rw [h6, List.append_assoc, ht, List.take_append_drop]
  · simp at h

/-! ### Splitting at a byte -/
def spl (c : UInt8) : By → List By
  | [] => [[]]
  | x :: l => if x = c then [] :: spl c l else match spl c l with
    | p :: ps => (x :: p) :: ps
    | [] => [[x]]
theorem spl_ne (c : UInt8) (l : By) : spl c l ≠ [] := by
  cases l with
  | nil => simp [spl]
  | cons x l =>
    unfold spl
    split
    · simp
    · split <;> simp
theorem spl_at : ∀ (a b : By) (c : UInt8), (∀ x ∈ a, x ≠ c) → spl c (a ++ c :: b) = a :: spl c b := by
  intro a
  induction a with
  | nil => intro b c _; simp [spl]
  | cons x a ih =>
    intro b c h
    have hx := h x (List.mem_cons_self ..)
    rw [List.cons_append, spl, if_neg hx, ih b c (fun y hy => h y (List.mem_cons_of_mem _ hy))]
theorem spl_no : ∀ (a : By) (c : UInt8), (∀ x ∈ a, x ≠ c) → spl c a = [a] := by
  intro a
  induction a with
  | nil => intro c _; rfl
  | cons x a ih =>
    intro c h
    have hx := h x (List.mem_cons_self ..)
    rw [spl, if_neg hx, ih c (fun y hy => h y (List.mem_cons_of_mem _ hy))]
theorem spl_len (c : UInt8) : ∀ l, (spl c l).length ≤ l.length + 1 := by
  intro l
  induction l with
  | nil => simp [spl]
  | cons x l ih =>
    unfold spl
    split
    · simp; omega
    · split
      · rename_i h; rw [h] at ih; simpa using Nat.le_succ_of_le ih
      · simp
/-- The pieces, joined again. -/
theorem spl_join (c : UInt8) : ∀ l, Lib.join (spl c l) [c] = l := by
  intro l
  induction l with
  | nil => rfl
  | cons x l ih =>
    unfold spl
    have hne := spl_ne c l
    split
    · rename_i h
      subst h
      cases hs : spl x l with
      | nil => exact absurd hs hne
      | cons p ps =>
        rw [hs] at ih
        rw [Lib.join_cons] at ih ⊢
        simp only [Lib.joinTail, List.map_cons, List.flatten_cons, List.nil_append, List.cons_append, List.singleton_append]
        rw [← ih]
        simp [Lib.joinTail]
    · cases hs : spl c l with
      | nil => exact absurd hs hne
      | cons p ps =>
        rw [hs] at ih
        rw [Lib.join_cons] at ih ⊢
        rw [List.cons_append, ih]
theorem has_split (c : UInt8) : ∀ l : By, (∃ x ∈ l, x = c) → ∃ a b, l = a ++ c :: b ∧ ∀ x ∈ a, x ≠ c := by
  intro l
  induction l with
  | nil => intro h; obtain ⟨x, hx, _⟩ := h; simp at hx
  | cons y l ih =>
    intro h
    by_cases hy : y = c
    · exact ⟨[], l, by simp [hy], by simp⟩
    · obtain ⟨x, hx, e⟩ := h
      rcases List.mem_cons.1 hx with rfl | hx
      · exact absurd e hy
      · obtain ⟨a, b, e1, e2⟩ := ih ⟨x, hx, e⟩
        refine ⟨y :: a, b, by simp [e1], ?_⟩
        intro z hz
        rcases List.mem_cons.1 hz with rfl | hz
        · exact hy
        · exact e2 z hz
theorem spl_cut (c : UInt8) (l : By) : spl c l = if (Lib.cut l [c]).2.2 = true then (Lib.cut l [c]).1 :: spl c (Lib.cut l [c]).2.1 else [l] := by
  by_cases h : ∃ x ∈ l, x = c
  · have this := has_split c l h
    obtain ⟨a, b, rfl, ha⟩ := this
    rw [spl_at a b c ha, cut_at a b c ha]
    simp
  · have hn : ∀ x ∈ l, x ≠ c := fun x hx e => h ⟨x, hx, e⟩
    rw [spl_no l c hn, cut_no l c hn]
    simp
/-- strings.Split at one byte. -/
theorem split_spl (c : UInt8) : ∀ (n : Nat) (l : By), l.length ≤ n → Lib.split l [c] = spl c l := by
  intro n
  induction n with
  | zero =>
    intro l hl
    have : l = [] := List.eq_nil_of_length_eq_zero (by omega)
    subst this
    rfl
  | succ n ih =>
    intro l hl
    rw [spl_cut]
    by_cases hm : Lib.index l [c] = -1
    · have e : Lib.cut l [c] = (l, [], false) := by unfold Lib.cut; rw [hm, if_neg (by omega)]
      rw [e]
      simp only [Bool.false_eq_true, if_false]
      unfold Lib.split
      rw [Lib.count_miss hm]
      rfl
    · have hge := Lib.index_ge l [c]
      obtain ⟨j, hj⟩ : ∃ j : Nat, Lib.index l [c] = j := ⟨(Lib.index l [c]).toNat, by omega⟩
      have hr := Lib.index_room l [c] (by omega)
      have e : Lib.cut l [c] = (l.take j, l.drop (j + 1), true) := by unfold Lib.cut; rw [hj, if_pos (by omega)]; simp
      rw [e]
      simp only [if_true]
      have h1 := ih (l.drop (j + 1)) (by rw [List.length_drop]; simp at hr; omega)
      rw [← h1]
      unfold Lib.split
      rw [Lib.count_hit (by simp) hj, Nat.add_comm, Lib.splitK, if_neg (by rw [hj]; simp), hj]
      simp
end Go.Proofs.YtlfdcefgelpgmaaGreatDoor.TxP
