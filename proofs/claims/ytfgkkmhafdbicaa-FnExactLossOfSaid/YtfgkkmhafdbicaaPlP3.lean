/-
  Plays, plainly, III: the texts by which the program tells boards apart; floor division; losses and leads. Conditions: each theorem's own.
-/
import Derived.Test.YtfgkkmhafdbicaaPlP2
set_option linter.unusedVariables false
set_option linter.unusedSimpArgs false
namespace Go.Proofs.Ytfgkkmhafdbicaa.PlP

/-- The program's text of a board. -/
def keyP (b : Bd) : List UInt8 := (b.1 ++ b.2).map fun n => UInt8.ofNat n.toNat
theorem list_ext {l m : List Int} (hl : l.length = m.length) (h : ∀ i, i < l.length → at_ l i = at_ m i) : l = m := by
  refine List.ext_getElem? fun i => ?_
  rcases Nat.lt_or_ge i l.length with hi | hi
  · rw [at_get hi, at_get (by omega), h i hi]
  · rw [List.getElem?_eq_none hi, List.getElem?_eq_none (by omega)]
theorem key_side {v : Vr} {l m : List Int} (hl : Sd v l) (hm : Sd v m) (hc : v.c ≤ 15) (h : l.map (fun n : Int => UInt8.ofNat n.toNat) = m.map (fun n : Int => UInt8.ofNat n.toNat)) : l = m := by
  have h1 := hl.len
  have h2 := hm.len
  refine list_ext (by omega) fun i hi => ?_
  have h3 := congrArg (fun l => l[i]?) h
  simp only [List.getElem?_map] at h3
  rw [at_get hi, at_get (by omega : i < m.length)] at h3
  simp only [Option.map_some, Option.some.injEq] at h3
  have a0 := hl.nn i
  have a1 := hl.top i
  have b0 := hm.nn i
  have b1 := hm.top i
  have h4 := congrArg UInt8.toNat h3
  rw [UInt8.toNat_ofNat_of_lt' (by show _ < 256; omega), UInt8.toNat_ofNat_of_lt' (by show _ < 256; omega)] at h4
  omega
theorem key_inj {v : Vr} {a b : Bd} (ha : Ok v a) (hb : Ok v b) (h : keyP a = keyP b) : a = b := by
  unfold keyP at h
  have h1 := ha.own.len
  have h2 := hb.own.len
  have hc := ha.v1
  rw [List.map_append, List.map_append] at h
  have := List.append_inj h (by simp; omega)
  exact Prod.ext (key_side ha.own hb.own (by omega) this.1) (key_side ha.oth hb.oth (by omega) this.2)
theorem has_key {v : Vr} {out : List Pl} {b : Bd} (ho : ∀ q ∈ out, Ok v q.2) (hb : Ok v b) : decide (keyP b ∈ out.map fun q => keyP q.2) = hasB out b := by
  unfold hasB
  cases h : out.any fun q => decide (q.2 = b) with
  | true =>
    obtain ⟨q, hq, he⟩ := List.any_eq_true.1 h
    have he := of_decide_eq_true he
    refine decide_eq_true (List.mem_map.2 ⟨q, hq, by rw [he]⟩)
  | false =>
    refine decide_eq_false fun hm => ?_
    obtain ⟨q, hq, he⟩ := List.mem_map.1 hm
    have := key_inj (ho q hq) hb he
    have h2 := List.any_eq_false.1 h q hq
    exact h2 (decide_eq_true this)

/-- The program's floor division. -/
theorem floor_eq {x y : Int} (hy : 0 < y) : (if x.tmod y < 0 then x.tdiv y - 1 else x.tdiv y) = x / y := by
  have h1 := Int.tmod_add_mul_tdiv x y
  have hlt := Int.tmod_lt_of_pos x hy
  generalize x.tdiv y = q at *
  by_cases h : x.tmod y < 0
  · rw [if_pos h]
    have hgt : -y < x.tmod y := by
      by_cases hx : 0 ≤ x
      · have := Int.tmod_nonneg y hx; omega
      · have h2 : (-x).tmod y = -(x.tmod y) := Int.neg_tmod _ _
        have := Int.tmod_lt_of_pos (-x) hy
        omega
    refine (Int.ediv_eq_iff_of_pos hy).2 ?_ |>.symm
    have e1 : y * (q - 1) = y * q - y := by rw [Int.mul_sub, Int.mul_one]
    have e2 : (q - 1) * y = y * q - y := by rw [Int.mul_comm, e1]
    have e3 : (q - 1 + 1) * y = y * q := by rw [Int.sub_add_cancel, Int.mul_comm]
    constructor <;> (first | omega | (simp only [e1, e2, e3] at *; omega))
  · rw [if_neg h]
    refine (Int.ediv_eq_iff_of_pos hy).2 ?_ |>.symm
    have e2 : q * y = y * q := Int.mul_comm _ _
    have e3 : (q + 1) * y = y * q + y := by rw [Int.add_mul, Int.one_mul, Int.mul_comm]
    constructor <;> (first | omega | (simp only [e2, e3] at *; omega))
end Go.Proofs.Ytfgkkmhafdbicaa.PlP
