/-
  Texts of variants and matches, plainly: what is written, what is read back. Conditions: each theorem's own.
-/
import Derived.Test.YtlfdcefgelpgmaaGreatDoorTxE
set_option linter.unusedVariables false
set_option linter.unusedSimpArgs false
namespace Go.Proofs.YtlfdcefgelpgmaaGreatDoor.TxP
open Go PlP

/-! ### Variants -/
def vT (v : Vr) : By := if okV v = true then Lib.itoa v.p ++ [47] ++ Lib.itoa v.c ++ [47] ++ Lib.itoa v.h ++ [47] ++ Lib.itoa v.s else []
def decO (x : By) : Option Int := if (rdDec x).2 = true then some (rdDec x).1 else none
/-- impl.ReadVariant. -/
def rdV (t : By) : Option Vr :=
  match mapO decO (spl 47 t) with
  | some [a, b, c, d] => if okV ⟨a, b, c, d⟩ = true then some ⟨a, b, c, d⟩ else none
  | _ => none
/-- spec.ReadVariant. -/
def rdVS (t : By) : Option Vr :=
  match spl 47 t with
  | [a, b, c, d] => if vT ⟨(valS a).1, (valS b).1, (valS c).1, (valS d).1⟩ = t then some ⟨(valS a).1, (valS b).1, (valS c).1, (valS d).1⟩ else none
  | _ => none
theorem spl4 {a b c d : By} {x : UInt8} (h1 : ∀ y ∈ a, y ≠ x) (h2 : ∀ y ∈ b, y ≠ x) (h3 : ∀ y ∈ c, y ≠ x) (h4 : ∀ y ∈ d, y ≠ x) : spl x (a ++ [x] ++ b ++ [x] ++ c ++ [x] ++ d) = [a, b, c, d] := by
  have e : a ++ [x] ++ b ++ [x] ++ c ++ [x] ++ d = a ++ x :: (b ++ x :: (c ++ x :: d)) := by simp
  rw [e, spl_at _ _ _ h1, spl_at _ _ _ h2, spl_at _ _ _ h3, spl_no _ _ h4]
theorem spl3 {a b c : By} {x : UInt8} (h1 : ∀ y ∈ a, y ≠ x) (h2 : ∀ y ∈ b, y ≠ x) (h3 : ∀ y ∈ c, y ≠ x) : spl x (a ++ [x] ++ b ++ [x] ++ c) = [a, b, c] := by
  have e : a ++ [x] ++ b ++ [x] ++ c = a ++ x :: (b ++ x :: c) := by simp
  rw [e, spl_at _ _ _ h1, spl_at _ _ _ h2, spl_no _ _ h3]
theorem join4 (a b c d : By) (x : UInt8) : Lib.join [a, b, c, d] [x] = a ++ [x] ++ b ++ [x] ++ c ++ [x] ++ d := by
  rw [Lib.join_cons]; simp [Lib.joinTail]
theorem join3 (a b c : By) (x : UInt8) : Lib.join [a, b, c] [x] = a ++ [x] ++ b ++ [x] ++ c := by
  rw [Lib.join_cons]; simp [Lib.joinTail]
theorem vT_at {v : Vr} (hv : okV v = true) : vT v = Lib.itoa v.p ++ [47] ++ Lib.itoa v.c ++ [47] ++ Lib.itoa v.h ++ [47] ++ Lib.itoa v.s := by unfold vT; rw [if_pos hv]
theorem vT_spl {v : Vr} (hv : okV v = true) : spl 47 (vT v) = [Lib.itoa v.p, Lib.itoa v.c, Lib.itoa v.h, Lib.itoa v.s] := by
  have hp := okV_iff.1 hv
  rw [vT_at hv]
  exact spl4 (ito_ne (by omega) (by omega) (by decide)) (ito_ne (by omega) (by omega) (by decide)) (ito_ne (by omega) (by omega) (by decide)) (ito_ne (by omega) (by omega) (by decide))
theorem decO_ito {n : Int} (h0 : 0 ≤ n) (h1 : n < 100) : decO (Lib.itoa n) = some n := by unfold decO; rw [rd_ito h0 h1]; rfl
theorem decO_back {t : By} {n : Int} (h : decO t = some n) : Lib.itoa n = t := by
  unfold decO at h
  split at h
  · rename_i h1
    simp only [Option.some.injEq] at h
    exact rd_back (Prod.ext h h1)
  · cases h
theorem rdV_iff {t : By} {v : Vr} : rdV t = some v ↔ okV v = true ∧ vT v = t := by
  unfold rdV
  constructor
  · intro h
    split at h
    · rename_i a b c d hm
      split at h
      · rename_i h1
        simp only [Option.some.injEq] at h
        subst h
        refine ⟨h1, ?_⟩
        obtain ⟨h2, h3⟩ := mapO_iff.1 hm
        have hj := spl_join 47 t
        cases hs : spl 47 t with
        | nil => rw [hs] at h2; simp at h2
        | cons x0 l0 => cases l0 with
          | nil => rw [hs] at h2; simp at h2
          | cons x1 l1 => cases l1 with
            | nil => rw [hs] at h2; simp at h2
            | cons x2 l2 => cases l2 with
              | nil => rw [hs] at h2; simp at h2
              | cons x3 l3 => cases l3 with
                | cons x4 l4 => rw [hs] at h2; simp at h2
                | nil =>
                  rw [hs] at h3 hj
                  have e0 := decO_back (h3 0 _ _ rfl rfl)
                  have e1 := decO_back (h3 1 _ _ rfl rfl)
                  have e2 := decO_back (h3 2 _ _ rfl rfl)
                  have e3 := decO_back (h3 3 _ _ rfl rfl)
                  rw [vT_at h1]
                  simp only
                  rw [e0, e1, e2, e3, ← hj, join4]
      · cases h
    · cases h
  · rintro ⟨hv, rfl⟩
    have hp := okV_iff.1 hv
    rw [vT_spl hv]
    simp only [mapO, decO_ito (show 0 ≤ v.p by omega) (by omega), decO_ito (show 0 ≤ v.c by omega) (by omega), decO_ito (show 0 ≤ v.h by omega) (by omega), decO_ito (show 0 ≤ v.s by omega) (by omega), Option.map_some]
    obtain ⟨p, c, h, s⟩ := v
    simp only
    rw [if_pos hv]
theorem rdVS_eq (t : By) : rdVS t = rdV t := by
  have key : ∀ v, rdVS t = some v ↔ okV v = true ∧ vT v = t := by
    intro v
    unfold rdVS
    constructor
    · intro h
      split at h
      · rename_i a b c d hs
        split at h
        · rename_i h1
          simp only [Option.some.injEq] at h
          subst h
          refine ⟨?_, h1⟩
          cases ho : okV _ with
          | true => rfl
          | false =>
            unfold vT at h1
            rw [ho] at h1
            simp only [Bool.false_eq_true, if_false] at h1
            rw [← h1] at hs
            simp [spl] at hs
        · cases h
      · cases h
    · rintro ⟨hv, rfl⟩
      have hp := okV_iff.1 hv
      rw [vT_spl hv]
      simp only [val_ito (show 0 ≤ v.p by omega) (by omega), val_ito (show 0 ≤ v.c by omega) (by omega), val_ito (show 0 ≤ v.h by omega) (by omega), val_ito (show 0 ≤ v.s by omega) (by omega)]
      rw [if_pos trivial]
  cases h : rdV t with
  | some v => exact (key v).2 (rdV_iff.1 h)
  | none =>
    cases h2 : rdVS t with
    | none => rfl
    | some v => rw [rdV_iff.2 ((key v).1 h2)] at h; cases h
theorem vT_ne {v : Vr} {c : UInt8} (hc : c.toNat < 47) : ∀ x ∈ vT v, x ≠ c := by
  unfold vT
  split
  · rename_i hv
    have hp := okV_iff.1 hv
    have h47 : (47 : UInt8) ≠ c := by rintro rfl; revert hc; decide
    intro x hx
    simp only [List.mem_append, List.mem_singleton] at hx
    rcases hx with (((((hx | rfl) | hx) | rfl) | hx) | rfl) | hx
    · exact ito_ne (by omega) (by omega) (by omega) x hx
    · exact h47
    · exact ito_ne (by omega) (by omega) (by omega) x hx
    · exact h47
    · exact ito_ne (by omega) (by omega) (by omega) x hx
    · exact h47
    · exact ito_ne (by omega) (by omega) (by omega) x hx
  · simp
theorem vT_len {v : Vr} : (vT v).length ≤ 11 := by
  unfold vT
  split
  · rename_i hv
    have hp := okV_iff.1 hv
    have l1 := ito_len (n := v.p) (by omega) (by omega)
    have l2 := ito_len (n := v.c) (by omega) (by omega)
    have l3 := ito_len (n := v.h) (by omega) (by omega)
    have l4 := ito_len (n := v.s) (by omega) (by omega)
    simp; omega
  · simp

/-! ### The first line -/
def maW : By := [109, 97, 116, 99, 104]
def hdT (v : Vr) (n : Int) : By := maW ++ [32] ++ vT v ++ [32] ++ Lib.itoa n
/-- impl.readMatchHead. -/
def rdH (t : By) : Option (Vr × Int) :=
  match spl 32 t with
  | [a, b, c] => if a = maW then (match rdV b, decO c with
    | some v, some n => if headB v n = true then some (v, n) else none
    | _, _ => none) else none
  | _ => none
/-- spec.l28First. -/
def rdHS (t : By) : Option (Vr × Int) :=
  match spl 32 t with
  | [a, b, c] => if a = maW then (match rdV b with
    | some v => if (valS c).2 = true ∧ headB v (valS c).1 = true then some (v, (valS c).1) else none
    | none => none) else none
  | _ => none
theorem head_parts {v : Vr} {n : Int} (h : headB v n = true) : okV v = true ∧ 4 ≤ v.p ∧ 1 ≤ n ∧ n ≤ 25 := by
  unfold headB at h
  simp only [Bool.and_eq_true, decide_eq_true_eq] at h
  exact ⟨h.1.1, h.1.2, h.2⟩
theorem hd_spl {v : Vr} {n : Int} (h : headB v n = true) : spl 32 (hdT v n) = [maW, vT v, Lib.itoa n] := by
  obtain ⟨hv, h1, h2, h3⟩ := head_parts h
  exact spl3 (by decide) (vT_ne (by decide)) (ito_ne (by omega) (by omega) (by decide))
theorem rdH_iff {t : By} {v : Vr} {n : Int} : rdH t = some (v, n) ↔ headB v n = true ∧ hdT v n = t := by
  unfold rdH
  constructor
  · intro h
    have hj := spl_join 32 t
    split at h
    · rename_i a b c hs
      rw [hs, join3] at hj
      split at h
      · rename_i ha
        split at h
        · rename_i v' n' h1 h2
          split at h
          · rename_i h3
            simp only [Option.some.injEq, Prod.mk.injEq] at h
            obtain ⟨rfl, rfl⟩ := h
            refine ⟨h3, ?_⟩
            unfold hdT
            rw [(rdV_iff.1 h1).2, decO_back h2, ← ha]
            exact hj
          · cases h
        · cases h
      · cases h
    · cases h
  · rintro ⟨h, rfl⟩
    obtain ⟨hv, h1, h2, h3⟩ := head_parts h
    rw [hd_spl h]
    simp only [if_true, rdV_iff.2 ⟨hv, rfl⟩, decO_ito (show 0 ≤ n by omega) (by omega), h]
theorem rdHS_eq (t : By) : rdHS t = rdH t := by
  have key : ∀ v n, rdHS t = some (v, n) ↔ headB v n = true ∧ hdT v n = t := by
    intro v n
    unfold rdHS
    constructor
    · intro h
      have hj := spl_join 32 t
      split at h
      · rename_i a b c hs
        rw [hs, join3] at hj
        split at h
        · rename_i ha
          split at h
          · rename_i v' h1
            split at h
            · rename_i h3
              simp only [Option.some.injEq, Prod.mk.injEq] at h
              obtain ⟨rfl, rfl⟩ := h
              obtain ⟨_, _, h4, h5⟩ := head_parts h3.2
              refine ⟨h3.2, ?_⟩
              unfold hdT
              rw [(rdV_iff.1 h1).2, val_back (l := c) (n := (valS c).1) (Prod.ext rfl h3.1) (by omega) (by omega), ← ha]
              exact hj
            · cases h
          · cases h
        · cases h
      · cases h
    · rintro ⟨h, rfl⟩
      obtain ⟨hv, h1, h2, h3⟩ := head_parts h
      rw [hd_spl h]
      simp only [if_true, rdV_iff.2 ⟨hv, rfl⟩, val_ito (show 0 ≤ n by omega) (by omega), h, and_self]
  cases h : rdH t with
  | some v => obtain ⟨v, n⟩ := v; exact (key v n).2 (rdH_iff.1 h)
  | none =>
    cases h2 : rdHS t with
    | none => rfl
    | some v => obtain ⟨v, n⟩ := v; rw [rdH_iff.2 ((key v n).1 h2)] at h; cases h
theorem hdT_ne {v : Vr} {n : Int} (h : headB v n = true) : ∀ x ∈ hdT v n, x ≠ (10 : UInt8) := by
  obtain ⟨hv, h1, h2, h3⟩ := head_parts h
  intro x hx
  unfold hdT at hx
  simp only [List.mem_append, List.mem_singleton] at hx
  rcases hx with (((hx | rfl) | hx) | rfl) | hx
  · exact (by decide : ∀ x ∈ maW, x ≠ (10 : UInt8)) x hx
  · decide
  · exact vT_ne (by decide) x hx
  · decide
  · exact ito_ne (by omega) (by omega) (by decide) x hx

/-! ### A match -/
def linesT (v : Vr) (es : List Ev) : By := (es.map fun e => evnT v e ++ [10]).flatten
def matT (v : Vr) (n : Int) (es : List Ev) : By := hdT v n ++ [10] ++ linesT v es
/-- The lines behind the first: events so far, code and line. -/
def rmGo (v : Vr) (n : Int) : List By → Ms → List Ev → Int → List Ev × Int × Int
  | [], x, es, k => (es, 0, 0)
  | [l], x, es, k => if l = [] then (es, 0, 0) else ([], 6, k)
  | l :: m :: ls, x, es, k => match rdE v l with
    | none => ([], 6, k)
    | some e => match nextS v n x e with
      | none => ([], 5, k)
      | some y => if 300 ≤ es.length then ([], 5, k) else rmGo v n (m :: ls) y (es ++ [e]) (k + 1)
/-- What ReadMatch returns: variant, length, events, code, line. -/
def rdM (t : By) : (Vr × Int × List Ev) × Int × Int :=
  if 20000 < t.length then ((⟨0, 0, 0, 0⟩, 0, []), 3, 0) else
    match spl 10 t with
    | l :: m :: ls => (match rdH l with
      | some (v, n) => if (rmGo v n (m :: ls) (startS v) [] 2).2.1 = 0 then ((v, n, (rmGo v n (m :: ls) (startS v) [] 2).1), 0, 0) else ((⟨0, 0, 0, 0⟩, 0, []), (rmGo v n (m :: ls) (startS v) [] 2).2)
      | none => ((⟨0, 0, 0, 0⟩, 0, []), 6, 1))
    | _ => ((⟨0, 0, 0, 0⟩, 0, []), 6, 1)
theorem lines_spl {v : Vr} (hv : okV v = true) : ∀ es : List Ev, spl 10 (linesT v es) = (es.map (evnT v)) ++ [[]] := by
  intro es
  induction es with
  | nil => rfl
  | cons e es ih =>
    have h1 : linesT v (e :: es) = evnT v e ++ 10 :: linesT v es := by unfold linesT; simp
    rw [h1, spl_at _ _ _ (evnT_ne hv e), ih]
    rfl
end Go.Proofs.YtlfdcefgelpgmaaGreatDoor.TxP
