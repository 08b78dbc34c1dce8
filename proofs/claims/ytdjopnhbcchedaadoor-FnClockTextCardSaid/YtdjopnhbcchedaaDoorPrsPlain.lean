/-
  ParseClock of the program and of the reference, plainly: both take a text back to its time, and nothing else. Conditions: each theorem's own.
-/
import Derived.Test.YtdjopnhbcchedaaDoorFmt2
import Derived.Lib.ParseIntB
import Derived.Lib.IndexMore
import Derived.Lib.Strings
set_option linter.unusedVariables false
set_option linter.unusedSimpArgs false
namespace Go.Proofs.YtdjopnhbcchedaaDoor.Prs
open Go.RowKit Base Fmt

def dg (d : Nat) : UInt8 := UInt8.ofNat (48 + d)
theorem dg_nat {d : Nat} (h : d < 10) : (dg d).toNat = 48 + d := by unfold dg; rw [UInt8.toNat_ofNat_of_lt' (by show 48 + d < 256; omega)]
theorem dg_ne {d : Nat} (h : d < 10) {c : UInt8} (hc : c.toNat < 48 ∨ 57 < c.toNat) : dg d ≠ c := by
  intro e
  have h1 := dg_nat h
  rw [e] at h1
  omega
/-- The digits of a number below 10000. -/
theorem dd_cases {m : Nat} (h : m < 10000) :
    (m < 10 ∧ Lib.decDigits m = [dg m]) ∨ (10 ≤ m ∧ m < 100 ∧ Lib.decDigits m = [dg (m / 10), dg (m % 10)]) ∨ (100 ≤ m ∧ m < 1000 ∧ Lib.decDigits m = [dg (m / 100), dg (m / 10 % 10), dg (m % 10)]) ∨
    (1000 ≤ m ∧ Lib.decDigits m = [dg (m / 1000), dg (m / 100 % 10), dg (m / 10 % 10), dg (m % 10)]) := by
  by_cases h1 : m < 10
  · exact .inl ⟨h1, Lib.decDigits_one h1⟩
  by_cases h2 : m < 100
  · exact .inr (.inl ⟨by omega, h2, Lib.decDigits_two h1 h2⟩)
  by_cases h3 : m < 1000
  · refine .inr (.inr (.inl ⟨by omega, h3, ?_⟩))
    rw [Lib.decDigits, dif_neg h1, Lib.decDigits_two (by omega) (by omega), Nat.div_div_eq_div_mul]
    rfl
  · refine .inr (.inr (.inr ⟨by omega, ?_⟩))
    rw [Lib.decDigits, dif_neg h1, Lib.decDigits, dif_neg (by omega), Lib.decDigits_two (by omega) (by omega), Nat.div_div_eq_div_mul, Nat.div_div_eq_div_mul, Nat.div_div_eq_div_mul]
    rfl
theorem ds2 (x : Nat) (h : x < 100) : ds x 2 = [dg (x / 10), dg (x % 10)] := by
  have e1 : x / 10 ^ 1 % 10 = x / 10 := by omega
  have e0 : x / 10 ^ 0 % 10 = x % 10 := by omega
  simp only [ds, e1, e0, dg]
theorem ds3 (x : Nat) (h : x < 1000) : ds x 3 = [dg (x / 100), dg (x / 10 % 10), dg (x % 10)] := by
  have e2 : x / 10 ^ 2 % 10 = x / 100 := by omega
  have e1 : x / 10 ^ 1 % 10 = x / 10 % 10 := by omega
  have e0 : x / 10 ^ 0 % 10 = x % 10 := by omega
  simp only [ds, e2, e1, e0, dg]

/-! ### The program's -/
/-- impl.readDecimal. -/
def rdDec (l : List UInt8) : Int × Bool :=
  if Lib.trimPrefix l [45] = [] ∨ 19 < (Lib.trimPrefix l [45]).length then (0, false)
  else match Lib.parseIntB 64 l with
    | .ok v => if Lib.itoa v = l then (v, true) else (0, false)
    | _ => (0, false)
/-- The time that two parts behind the minutes lead to. -/
def tm2 (m : Int) (a b : List UInt8) : Option Int :=
  match Lib.parseIntB 64 a with
  | .ok x => match Lib.parseIntB 64 b with
    | .ok y => some ((m * 60 + x) * 1000 + y)
    | _ => none
  | _ => none
def prsI (l : List UInt8) : Int × Bool :=
  let c1 := Lib.cut l [58]
  let c2 := Lib.cut c1.2.1 [46]
  let r := rdDec c1.1
  if c1.2.2 = true ∧ c2.2.2 = true ∧ r.2 = true ∧ (0 ≤ r.1 ∧ r.1 ≤ 100000000) ∧ c2.1.length = 2 ∧ c2.2.1.length = 3 then
    match tm2 r.1 c2.1 c2.2.1 with
    | some t => if (fmtT t).data.toList = l then (t, true) else (0, false)
    | none => (0, false)
  else (0, false)
/-! ### The reference's -/
def isD (b : UInt8) : Bool := decide (48 ≤ b.toNat ∧ b.toNat ≤ 57)
def digs (l : List UInt8) : List UInt8 := l.take (l.length - 7) ++ (l.drop (l.length - 6)).take 2 ++ l.drop (l.length - 3)
def upd (n i : Nat) (v : Int × Int × Int) (d : Int) : Int × Int × Int :=
  if i < n - 7 then (10 * v.1 + d, v.2.1, v.2.2) else if i < n - 5 then (v.1, 10 * v.2.1 + d, v.2.2) else (v.1, v.2.1, 10 * v.2.2 + d)
def vS (n : Nat) (dl : List UInt8) : Nat → Int × Int × Int
  | 0 => (0, 0, 0)
  | i + 1 => upd n i (vS n dl i) (((dl.getD i 0).toNat : Int) - 48)
def tmS (v : Int × Int × Int) : Int := 60000 * v.1 + 1000 * v.2.1 + v.2.2
def prsS (l : List UInt8) : Int × Bool :=
  if l.length < 8 ∨ 11 < l.length then (0, false)
  else if (digs l).all isD then
    (if (fmtT (tmS (vS l.length (digs l) (digs l).length))).data.toList = l then (tmS (vS l.length (digs l) (digs l).length), true) else (0, false))
  else (0, false)

/-! ### Both at the text of a time -/
theorem pu_dg {M acc d : Nat} {l : List UInt8} (hd : d < 10) (ha : acc < 100000) (hM : 10000000 ≤ M) : Lib.parseUintM M acc (dg d :: l) = Lib.parseUintM M (acc * 10 + d) l := by
  have h1 := dg_nat hd
  rw [Lib.parseUintM, h1, if_pos (by omega), if_neg (by omega), if_neg (by omega)]
  congr 1
  omega
theorem pi_of {c : Nat} {l : List UInt8} {u : Nat} (hc : c < 10) (h : Lib.parseUintM 18446744073709551615 0 (dg c :: l) = .ok u) (hu : u < 100000) : Lib.parseIntB 64 (dg c :: l) = .ok (u : Int) := by
  have h1 := dg_nat hc
  unfold Lib.parseIntB
  simp only [h1]
  rw [if_neg (by omega)]
  unfold Lib.parseUintB
  rw [if_neg (by simp)]
  simp only [show 2 ^ 64 - 1 = 18446744073709551615 from by decide, h]
  rw [if_neg (by omega), if_neg (by omega), if_neg (by omega)]
theorem pi1 {a : Nat} (ha : a < 10) : Lib.parseIntB 64 [dg a] = .ok (a : Int) := by
  refine pi_of ha ?_ (by omega)
  rw [pu_dg ha (by omega) (by omega), Lib.parseUintM]; congr 1; omega
theorem pi2 {a b : Nat} (ha : a < 10) (hb : b < 10) : Lib.parseIntB 64 [dg a, dg b] = .ok ((a * 10 + b : Nat) : Int) := by
  refine pi_of ha ?_ (by omega)
  rw [pu_dg ha (by omega) (by omega), pu_dg hb (by omega) (by omega), Lib.parseUintM]; congr 1; omega
theorem pi3 {a b c : Nat} (ha : a < 10) (hb : b < 10) (hc : c < 10) : Lib.parseIntB 64 [dg a, dg b, dg c] = .ok ((a * 100 + b * 10 + c : Nat) : Int) := by
  refine pi_of ha ?_ (by omega)
  rw [pu_dg ha (by omega) (by omega), pu_dg hb (by omega) (by omega), pu_dg hc (by omega) (by omega), Lib.parseUintM]; congr 1; omega
theorem pi4 {a b c d : Nat} (ha : a < 10) (hb : b < 10) (hc : c < 10) (hd : d < 10) : Lib.parseIntB 64 [dg a, dg b, dg c, dg d] = .ok ((a * 1000 + b * 100 + c * 10 + d : Nat) : Int) := by
  refine pi_of ha ?_ (by omega)
  rw [pu_dg ha (by omega) (by omega), pu_dg hb (by omega) (by omega), pu_dg hc (by omega) (by omega), pu_dg hd (by omega) (by omega), Lib.parseUintM]; congr 1; omega
theorem trim_dg {c : Nat} {l : List UInt8} (hc : c < 10) : Lib.trimPrefix (dg c :: l) [45] = dg c :: l := by
  have h1 : dg c ≠ 45 := dg_ne hc (by decide)
  unfold Lib.trimPrefix Lib.hasPrefix
  rw [if_neg]
  simp [List.isPrefixOf]
  exact fun h => h1 h.symm
theorem parse_dd {m : Nat} (h : m < 10000) : Lib.parseIntB 64 (Lib.decDigits m) = .ok (m : Int) ∧ Lib.trimPrefix (Lib.decDigits m) [45] = Lib.decDigits m ∧ 1 ≤ (Lib.decDigits m).length ∧ (Lib.decDigits m).length ≤ 4 := by
  rcases dd_cases h with ⟨h1, e⟩ | ⟨h0, h1, e⟩ | ⟨h0, h1, e⟩ | ⟨h0, e⟩ <;> rw [e]
  · exact ⟨pi1 h1, trim_dg h1, by simp, by simp⟩
  · refine ⟨?_, trim_dg (by omega), by simp, by simp⟩
    rw [pi2 (by omega) (by omega)]; congr 1; omega
  · refine ⟨?_, trim_dg (by omega), by simp, by simp⟩
    rw [pi3 (by omega) (by omega) (by omega)]; congr 1; omega
  · refine ⟨?_, trim_dg (by omega), by simp, by simp⟩
    rw [pi4 (by omega) (by omega) (by omega) (by omega)]; congr 1; omega
theorem rd_dd {m : Nat} (h : m < 10000) : rdDec (Lib.decDigits m) = ((m : Int), true) := by
  obtain ⟨h1, h2, h3, h4⟩ := parse_dd h
  unfold rdDec
  have hn : ¬ (Lib.decDigits m = [] ∨ 19 < (Lib.decDigits m).length) := by
    rintro (h | h)
    · rw [h] at h3; simp at h3
    · omega
  rw [h2, if_neg hn, h1]
  simp only
  rw [if_pos (itoa_nat m)]
theorem cut_at : ∀ (a b : List UInt8) (c : UInt8), (∀ x ∈ a, x ≠ c) → Lib.cut (a ++ c :: b) [c] = (a, b, true) := by
  have hi : ∀ (a b : List UInt8) (c : UInt8), (∀ x ∈ a, x ≠ c) → Lib.index (a ++ c :: b) [c] = (a.length : Int) := by
    intro a
    induction a with
    | nil => intro b c _; simp [Lib.index, List.isPrefixOf]
    | cons x a ih =>
      intro b c h
      have hx := h x (List.mem_cons_self ..)
      have := ih b c (fun y hy => h y (List.mem_cons_of_mem _ hy))
      rw [List.cons_append, Lib.index, this]
      have hf : ([c] : List UInt8).isPrefixOf (x :: (a ++ c :: b)) = false := by
        simp [List.isPrefixOf]; exact fun e => hx e.symm
      rw [hf]
      simp only [Bool.false_eq_true, if_false]
      rw [if_neg (by simp; try omega)]
      simp
  intro a b c h
  have h1 := hi a b c h
  unfold Lib.cut
  rw [h1, if_pos (by omega)]
  simp
theorem dd_ne {m : Nat} (h : m < 10000) {c : UInt8} (hc : c.toNat < 48 ∨ 57 < c.toNat) : ∀ x ∈ Lib.decDigits m, x ≠ c := by
  intro x hx
  rcases dd_cases h with ⟨h1, e⟩ | ⟨h0, h1, e⟩ | ⟨h0, h1, e⟩ | ⟨h0, e⟩ <;> rw [e] at hx <;> simp at hx
  · subst hx; exact dg_ne (by omega) hc
  · rcases hx with rfl | rfl <;> exact dg_ne (by omega) hc
  · rcases hx with rfl | rfl | rfl <;> exact dg_ne (by omega) hc
  · rcases hx with rfl | rfl | rfl | rfl <;> exact dg_ne (by omega) hc
theorem fmt_data {t : Nat} (h : t ≤ 100000000) : (fmtT (t : Int)).data.toList = fmtL t := by
  unfold fmtT
  rw [if_pos (by omega), Int.toNat_natCast]
theorem prsI_fmt {t : Nat} (h : t ≤ 100000000) : prsI (fmtL t) = ((t : Int), true) := by
  have hm : t / 60000 < 10000 := by omega
  have e2 := ds2 (t / 1000 % 60) (by omega)
  have e3 := ds3 (t % 1000) (by omega)
  have hl : fmtL t = Lib.decDigits (t / 60000) ++ 58 :: (ds (t / 1000 % 60) 2 ++ 46 :: ds (t % 1000) 3) := by unfold fmtL; simp
  have c1 : Lib.cut (fmtL t) [58] = (Lib.decDigits (t / 60000), ds (t / 1000 % 60) 2 ++ 46 :: ds (t % 1000) 3, true) := by
    rw [hl]; exact cut_at _ _ _ (dd_ne hm (by decide))
  have c2 : Lib.cut (ds (t / 1000 % 60) 2 ++ 46 :: ds (t % 1000) 3) [46] = (ds (t / 1000 % 60) 2, ds (t % 1000) 3, true) := by
    refine cut_at _ _ _ ?_
    rw [e2]
    intro x hx
    simp at hx
    rcases hx with rfl | rfl <;> exact dg_ne (by omega) (by decide)
  have t2 : tm2 ((t / 60000 : Nat) : Int) (ds (t / 1000 % 60) 2) (ds (t % 1000) 3) = some (t : Int) := by
    unfold tm2
    rw [e2, e3, pi2 (by omega) (by omega), pi3 (by omega) (by omega) (by omega)]
    simp only [Option.some.injEq]
    omega
  unfold prsI
  simp only [c1, c2, rd_dd hm]
  rw [if_pos ⟨trivial, trivial, trivial, by omega, ds_len _ 2, ds_len _ 3⟩, t2]
  simp only
  rw [fmt_data h, if_pos rfl]
theorem dgi {d : Nat} (h : d < 10) : (((dg d).toNat : Nat) : Int) - 48 = (d : Int) := by rw [dg_nat h]; omega
theorem dgD {d : Nat} (h : d < 10) : isD (dg d) = true := by unfold isD; rw [dg_nat h]; exact decide_eq_true (by omega)
theorem vs1 {a x y u v w : Nat} (ha : a < 10) (hx : x < 10) (hy : y < 10) (hu : u < 10) (hv : v < 10) (hw : w < 10) :
    8 ≤ ([dg a] ++ [58] ++ [dg x, dg y] ++ [46] ++ [dg u, dg v, dg w]).length ∧ ([dg a] ++ [58] ++ [dg x, dg y] ++ [46] ++ [dg u, dg v, dg w]).length ≤ 11 ∧ (digs ([dg a] ++ [58] ++ [dg x, dg y] ++ [46] ++ [dg u, dg v, dg w])).all isD = true ∧ tmS (vS ([dg a] ++ [58] ++ [dg x, dg y] ++ [46] ++ [dg u, dg v, dg w]).length (digs ([dg a] ++ [58] ++ [dg x, dg y] ++ [46] ++ [dg u, dg v, dg w])) (digs ([dg a] ++ [58] ++ [dg x, dg y] ++ [46] ++ [dg u, dg v, dg w])).length) = ((60000 * a + 1000 * (x * 10 + y) + (u * 100 + v * 10 + w) : Nat) : Int) := by
  simp [digs, vS, upd, tmS, dgi, dgD, ha, hx, hy, hu, hv, hw]
  try omega
theorem vs2 {a b x y u v w : Nat} (ha : a < 10) (hb : b < 10) (hx : x < 10) (hy : y < 10) (hu : u < 10) (hv : v < 10) (hw : w < 10) :
    8 ≤ ([dg a, dg b] ++ [58] ++ [dg x, dg y] ++ [46] ++ [dg u, dg v, dg w]).length ∧ ([dg a, dg b] ++ [58] ++ [dg x, dg y] ++ [46] ++ [dg u, dg v, dg w]).length ≤ 11 ∧ (digs ([dg a, dg b] ++ [58] ++ [dg x, dg y] ++ [46] ++ [dg u, dg v, dg w])).all isD = true ∧ tmS (vS ([dg a, dg b] ++ [58] ++ [dg x, dg y] ++ [46] ++ [dg u, dg v, dg w]).length (digs ([dg a, dg b] ++ [58] ++ [dg x, dg y] ++ [46] ++ [dg u, dg v, dg w])) (digs ([dg a, dg b] ++ [58] ++ [dg x, dg y] ++ [46] ++ [dg u, dg v, dg w])).length) = ((60000 * (a * 10 + b) + 1000 * (x * 10 + y) + (u * 100 + v * 10 + w) : Nat) : Int) := by
  simp [digs, vS, upd, tmS, dgi, dgD, ha, hb, hx, hy, hu, hv, hw]
  try omega
theorem vs3 {a b c x y u v w : Nat} (ha : a < 10) (hb : b < 10) (hc : c < 10) (hx : x < 10) (hy : y < 10) (hu : u < 10) (hv : v < 10) (hw : w < 10) :
    8 ≤ ([dg a, dg b, dg c] ++ [58] ++ [dg x, dg y] ++ [46] ++ [dg u, dg v, dg w]).length ∧ ([dg a, dg b, dg c] ++ [58] ++ [dg x, dg y] ++ [46] ++ [dg u, dg v, dg w]).length ≤ 11 ∧ (digs ([dg a, dg b, dg c] ++ [58] ++ [dg x, dg y] ++ [46] ++ [dg u, dg v, dg w])).all isD = true ∧ tmS (vS ([dg a, dg b, dg c] ++ [58] ++ [dg x, dg y] ++ [46] ++ [dg u, dg v, dg w]).length (digs ([dg a, dg b, dg c] ++ [58] ++ [dg x, dg y] ++ [46] ++ [dg u, dg v, dg w])) (digs ([dg a, dg b, dg c] ++ [58] ++ [dg x, dg y] ++ [46] ++ [dg u, dg v, dg w])).length) = ((60000 * (a * 100 + b * 10 + c) + 1000 * (x * 10 + y) + (u * 100 + v * 10 + w) : Nat) : Int) := by
  simp [digs, vS, upd, tmS, dgi, dgD, ha, hb, hc, hx, hy, hu, hv, hw]
  try omega
theorem vs4 {a b c d x y u v w : Nat} (ha : a < 10) (hb : b < 10) (hc : c < 10) (hd : d < 10) (hx : x < 10) (hy : y < 10) (hu : u < 10) (hv : v < 10) (hw : w < 10) :
    8 ≤ ([dg a, dg b, dg c, dg d] ++ [58] ++ [dg x, dg y] ++ [46] ++ [dg u, dg v, dg w]).length ∧ ([dg a, dg b, dg c, dg d] ++ [58] ++ [dg x, dg y] ++ [46] ++ [dg u, dg v, dg w]).length ≤ 11 ∧ (digs ([dg a, dg b, dg c, dg d] ++ [58] ++ [dg x, dg y] ++ [46] ++ [dg u, dg v, dg w])).all isD = true ∧ tmS (vS ([dg a, dg b, dg c, dg d] ++ [58] ++ [dg x, dg y] ++ [46] ++ [dg u, dg v, dg w]).length (digs ([dg a, dg b, dg c, dg d] ++ [58] ++ [dg x, dg y] ++ [46] ++ [dg u, dg v, dg w])) (digs ([dg a, dg b, dg c, dg d] ++ [58] ++ [dg x, dg y] ++ [46] ++ [dg u, dg v, dg w])).length) = ((60000 * (a * 1000 + b * 100 + c * 10 + d) + 1000 * (x * 10 + y) + (u * 100 + v * 10 + w) : Nat) : Int) := by
  simp [digs, vS, upd, tmS, dgi, dgD, ha, hb, hc, hd, hx, hy, hu, hv, hw]
  try omega
theorem prsS_fmt {t : Nat} (h : t ≤ 100000000) : prsS (fmtL t) = ((t : Int), true) := by
  have hm : t / 60000 < 10000 := by omega
  have e2 := ds2 (t / 1000 % 60) (by omega)
  have e3 := ds3 (t % 1000) (by omega)
  have key : 8 ≤ (fmtL t).length ∧ (fmtL t).length ≤ 11 ∧ (digs (fmtL t)).all isD = true ∧ tmS (vS (fmtL t).length (digs (fmtL t)) (digs (fmtL t)).length) = (t : Int) := by
    unfold fmtL
    rw [e2, e3]
    rcases dd_cases hm with ⟨h1, e⟩ | ⟨h0, h1, e⟩ | ⟨h0, h1, e⟩ | ⟨h0, e⟩ <;> rw [e]
    · obtain ⟨k1, k2, k3, k4⟩ := vs1 (a := t / 60000) (x := t / 1000 % 60 / 10) (y := t / 1000 % 60 % 10) (u := t % 1000 / 100) (v := t % 1000 / 10 % 10) (w := t % 1000 % 10) (by omega) (by omega) (by omega) (by omega) (by omega) (by omega)
      exact ⟨k1, k2, k3, k4.trans (by omega)⟩
    · obtain ⟨k1, k2, k3, k4⟩ := vs2 (a := t / 60000 / 10) (b := t / 60000 % 10) (x := t / 1000 % 60 / 10) (y := t / 1000 % 60 % 10) (u := t % 1000 / 100) (v := t % 1000 / 10 % 10) (w := t % 1000 % 10) (by omega) (by omega) (by omega) (by omega) (by omega) (by omega) (by omega)
      exact ⟨k1, k2, k3, k4.trans (by omega)⟩
    · obtain ⟨k1, k2, k3, k4⟩ := vs3 (a := t / 60000 / 100) (b := t / 60000 / 10 % 10) (c := t / 60000 % 10) (x := t / 1000 % 60 / 10) (y := t / 1000 % 60 % 10) (u := t % 1000 / 100) (v := t % 1000 / 10 % 10) (w := t % 1000 % 10) (by omega) (by omega) (by omega) (by omega) (by omega) (by omega) (by omega) (by omega)
      exact ⟨k1, k2, k3, k4.trans (by omega)⟩
    · obtain ⟨k1, k2, k3, k4⟩ := vs4 (a := t / 60000 / 1000) (b := t / 60000 / 100 % 10) (c := t / 60000 / 10 % 10) (d := t / 60000 % 10) (x := t / 1000 % 60 / 10) (y := t / 1000 % 60 % 10) (u := t % 1000 / 100) (v := t % 1000 / 10 % 10) (w := t % 1000 % 10) (by omega) (by omega) (by omega) (by omega) (by omega) (by omega) (by omega) (by omega) (by omega)
      exact ⟨k1, k2, k3, k4.trans (by omega)⟩
  obtain ⟨k1, k2, k3, k4⟩ := key
  unfold prsS
  rw [if_neg (by omega), if_pos k3, k4, fmt_data h, if_pos rfl]

/-! ### Both elsewhere -/
theorem fmt_back {t : Int} {l : List UInt8} (h : (fmtT t).data.toList = l) (hl : l ≠ []) : ∃ n : Nat, n ≤ 100000000 ∧ fmtL n = l := by
  unfold fmtT at h
  split at h
  · exact ⟨t.toNat, by omega, h⟩
  · exact absurd h.symm hl
theorem prsI_no {l : List UInt8} (h : ¬ ∃ n : Nat, n ≤ 100000000 ∧ fmtL n = l) : prsI l = (0, false) := by
  unfold prsI
  simp only
  split
  · rename_i hc
    split
    · split
      · rename_i hf
        refine absurd (fmt_back hf ?_) h
        intro e
        rw [e] at hc
        exact absurd hc.1 (by decide)
      · rfl
    · rfl
  · rfl
theorem prsS_no {l : List UInt8} (h : ¬ ∃ n : Nat, n ≤ 100000000 ∧ fmtL n = l) : prsS l = (0, false) := by
  unfold prsS
  split
  · rfl
  · rename_i hl
    split
    · split
      · rename_i hf
        refine absurd (fmt_back hf ?_) h
        intro e
        rw [e] at hl
        simp at hl
      · rfl
    · rfl
/-- **The two agree at every text.** -/
theorem prs_eq (l : List UInt8) : prsI l = prsS l := by
  by_cases h : ∃ n : Nat, n ≤ 100000000 ∧ fmtL n = l
  · obtain ⟨n, hn, rfl⟩ := h
    rw [prsI_fmt hn, prsS_fmt hn]
  · rw [prsI_no h, prsS_no h]
/-- A time's text is read back; the text of no time is not read. -/
theorem prs_text (t : Int) : ((fmtT t).data.toList = [] ∧ prsI (fmtT t).data.toList = (0, false)) ∨ ((fmtT t).data.toList ≠ [] ∧ prsI (fmtT t).data.toList = (t, true)) := by
  by_cases h : 0 ≤ t ∧ t ≤ 100000000
  · obtain ⟨n, rfl⟩ : ∃ n : Nat, t = n := ⟨t.toNat, by omega⟩
    rw [fmt_data (by omega)]
    refine .inr ⟨?_, prsI_fmt (by omega)⟩
    unfold fmtL
    simp
  · have e : (fmtT t).data.toList = [] := by unfold fmtT; rw [if_neg h]
    rw [e]
    exact .inl ⟨rfl, by decide⟩
end Go.Proofs.YtdjopnhbcchedaaDoor.Prs
