/-
  VerdictText of the program and of the reference. Conditions: each theorem's own.
-/
import Derived.Test.YtahpdboehpicoaaDoorSummPlain
import Derived.Test.YtahpdboehpicoaaDoorJoinN
import Derived.Test.YtahpdboehpicoaaDoorDec
import Derived.Deep.DeepCutAuto
set_option linter.unusedVariables false
namespace Go.Proofs.YtahpdboehpicoaaDoor.VText
open Go.ChangeShapes Go.WideShapes Go.ChangeAt Go.RowKit Base Base2 Ints Own RegInv Summ

def words : List ByteArray := [⟨#[103, 111, 111, 100]⟩, ⟨#[100, 111, 117, 98, 116, 102, 117, 108]⟩, ⟨#[101, 114, 114, 111, 114]⟩, ⟨#[98, 108, 117, 110, 100, 101, 114]⟩]
def wordOf (m : Nat) : ByteArray := words.getD m ⟨#[]⟩
theorem word_cell {W : World} {b : Nat} {e : TypeId} (h : RowB W b e (words.map Value.string)) {m : Nat} (hm : m < 4) : W.cell? ⟨b, m, none⟩ = some (.string (wordOf m)) := by
  rw [h.cell]
  match m, hm with
  | 0, _ => rfl
  | 1, _ => rfl
  | 2, _ => rfl
  | 3, _ => rfl
theorem word_size (m : Nat) : (wordOf m).size ≤ 8 := by
  match m with
  | 0 => decide
  | 1 => decide
  | 2 => decide
  | 3 => decide
  | m + 4 => show (⟨#[]⟩ : ByteArray).size ≤ 8; decide
theorem grd_at {x : Int} (h : 0 ≤ x) : ∃ m : Nat, grd x = (m : Int) ∧ m < 4 := by
  unfold grd
  rw [if_neg (by omega)]
  split
  · exact ⟨0, rfl, by decide⟩
  · split
    · exact ⟨1, rfl, by decide⟩
    · split
      · exact ⟨2, rfl, by decide⟩
      · exact ⟨3, rfl, by decide⟩
def itoB (n : Int) : ByteArray := ⟨(Lib.itoa n).toArray⟩
def sp : ByteArray := ⟨#[32]⟩
/-- The text of a verdict. -/
def vtext (p q r s : Int) : ByteArray := if r < 0 then ⟨#[]⟩ else wordOf (grd r).toNat ++ sp ++ itoB p ++ sp ++ itoB q ++ sp ++ itoB r ++ sp ++ itoB s
theorem dd_len (n : Nat) : (Lib.decDigits n).length ≤ n + 1 := by
  induction n using Nat.strongRecOn with
  | _ n ih =>
  rw [Lib.decDigits]
  split
  · simp
  · have := ih (n / 10) (by omega)
    rw [List.length_append]
    simp only [List.length_cons, List.length_nil]
    omega
theorem nd_len (k n : Nat) (h : n < 10 ^ (k + 1)) : (Lib.decDigits n).length ≤ k + 1 := by
  induction k generalizing n with
  | zero => rw [Lib.decDigits_one (by simpa using h)]; simp
  | succ k ih =>
    rw [Lib.decDigits]
    split
    · simp
    · have := ih (n / 10) (Nat.div_lt_of_lt_mul (by rw [Nat.pow_succ, Nat.mul_comm] at h; exact h))
      rw [List.length_append]
      simp only [List.length_cons, List.length_nil]
      omega
theorem ito_size {n : Int} (h0 : -9223372036854775808 ≤ n) (h1 : n ≤ 9223372036854775807) : (Lib.itoa n).length ≤ 21 := by
  unfold Lib.itoa
  split
  · have := nd_len 19 n.natAbs (by show n.natAbs < 100000000000000000000; omega)
    simp only [List.length_cons]; omega
  · have := nd_len 19 n.toNat (by show n.toNat < 100000000000000000000; omega)
    omega
theorem itoB_size {n : Int} (h0 : -9223372036854775808 ≤ n) (h1 : n ≤ 9223372036854775807) : (itoB n).size ≤ 21 := by
  unfold itoB
  simp only [ByteArray.size, List.size_toArray]
  exact ito_size h0 h1
structure VtF (w : World) (b0 : Nat) (p q r s : Int) (wd S0 S1 S2 S3 T0 T1 T2 T3 i0 i1 i2 i3 : ByteArray) (L : Nat → Prop) (v2 v13 v14 v15 v16 v17 v18 v19 v20 v21 v22 v23 v24 v25 v26 v27 v28 v29 v30 v31 v32 v33 : Value) (w' : World) : Prop where
  bel : Below w.heap.size w w'
  rb : RowB w' b0 25 [.int .i64 p, .int .i64 q, .int .i64 r, .int .i64 s]
  f0 : L 0 → v13 = .string wd
  f1 : L 1 → v14 = .string S0
  f2 : L 2 → v15 = .pointer (some ⟨b0, 0, none⟩)
  f3 : L 3 → v16 = .int .i64 p
  f4 : L 4 → v17 = .string i0
  f5 : L 5 → v18 = .string T0
  f6 : L 6 → v19 = .string S1
  f7 : L 7 → v20 = .pointer (some ⟨b0, 1, none⟩)
  f8 : L 8 → v21 = .int .i64 q
  f9 : L 9 → v22 = .string i1
  f10 : L 10 → v23 = .string T1
  f11 : L 11 → v24 = .string S2
  f12 : L 12 → v25 = .pointer (some ⟨b0, 2, none⟩)
  f13 : L 13 → v26 = .int .i64 r
  f14 : L 14 → v27 = .string i2
  f15 : L 15 → v28 = .string T2
  f16 : L 16 → v29 = .string S3
  f17 : L 17 → v30 = .pointer (some ⟨b0, 3, none⟩)
  f18 : L 18 → v31 = .int .i64 s
  f19 : L 19 → v32 = .string i3
  f20 : L 20 → v33 = .string T3
  f21 : L 21 → v2 = v33

set_option maxHeartbeats 2000000 in
set_option maxRecDepth 100000 in
theorem vt_s (p q r s : Int) (hp : -9223372036854775808 ≤ p ∧ p ≤ 9223372036854775807) (hq : -9223372036854775808 ≤ q ∧ q ≤ 9223372036854775807) (hrr : -9223372036854775808 ≤ r ∧ r ≤ 9223372036854775807) (hs : -9223372036854775808 ≤ s ∧ s ≤ 9223372036854775807) (w : World) :
    Calls Tryd.prog 5 #[.agg #[.int .i64 p, .int .i64 q, .int .i64 r, .int .i64 s]] w fun e w' => e = .returned (.string (vtext p q r s)) ∧ Below w.heap.size w w' := by
  by_cases hr : r < 0
  · have hd := decide_eq_true hr
    unfold vtext
    rw [if_pos hr]
    go_enter Tryd.func5, Tryd.ntmps5
    go_wp2_with fail
    go_ret
    exact ⟨rfl, by go_grown⟩
  have hd := decide_eq_false hr
  obtain ⟨m, hg, hm⟩ := grd_at (show 0 ≤ r by omega)
  unfold vtext
  rw [if_neg hr, hg, Int.toNat_natCast]
  obtain ⟨wd, hwd⟩ : ∃ x, x = wordOf m := ⟨_, rfl⟩
  obtain ⟨i0, hi0⟩ : ∃ x, x = itoB p := ⟨_, rfl⟩
  obtain ⟨i1, hi1⟩ : ∃ x, x = itoB q := ⟨_, rfl⟩
  obtain ⟨i2, hi2⟩ : ∃ x, x = itoB r := ⟨_, rfl⟩
  obtain ⟨i3, hi3⟩ : ∃ x, x = itoB s := ⟨_, rfl⟩
  have z0 : i0.size ≤ 21 := by rw [hi0]; exact itoB_size hp.1 hp.2
  have z1 : i1.size ≤ 21 := by rw [hi1]; exact itoB_size hq.1 hq.2
  have z2 : i2.size ≤ 21 := by rw [hi2]; exact itoB_size hrr.1 hrr.2
  have z3 : i3.size ≤ 21 := by rw [hi3]; exact itoB_size hs.1 hs.2
  have zw : wd.size ≤ 8 := by rw [hwd]; exact word_size m
  rw [← hwd, ← hi0, ← hi1, ← hi2, ← hi3]
  obtain ⟨S0, hS0⟩ : ∃ x, wd ++ sp = x := ⟨_, rfl⟩
  obtain ⟨T0, hT0⟩ : ∃ x, S0 ++ i0 = x := ⟨_, rfl⟩
  obtain ⟨S1, hS1⟩ : ∃ x, T0 ++ sp = x := ⟨_, rfl⟩
  obtain ⟨T1, hT1⟩ : ∃ x, S1 ++ i1 = x := ⟨_, rfl⟩
  obtain ⟨S2, hS2⟩ : ∃ x, T1 ++ sp = x := ⟨_, rfl⟩
  obtain ⟨T2, hT2⟩ : ∃ x, S2 ++ i2 = x := ⟨_, rfl⟩
  obtain ⟨S3, hS3⟩ : ∃ x, T2 ++ sp = x := ⟨_, rfl⟩
  obtain ⟨T3, hT3⟩ : ∃ x, S3 ++ i3 = x := ⟨_, rfl⟩
  rw [hS0, hT0, hS1, hT1, hS2, hT2, hS3, hT3]
  have y0 : S0.size = wd.size + 1 := by rw [← hS0, ByteArray.size_append]; rfl
  have y1 : T0.size = S0.size + i0.size := by rw [← hT0, ByteArray.size_append]
  have y2 : S1.size = T0.size + 1 := by rw [← hS1, ByteArray.size_append]; rfl
  have y3 : T1.size = S1.size + i1.size := by rw [← hT1, ByteArray.size_append]
  have y4 : S2.size = T1.size + 1 := by rw [← hS2, ByteArray.size_append]; rfl
  have y5 : T2.size = S2.size + i2.size := by rw [← hT2, ByteArray.size_append]
  have y6 : S3.size = T2.size + 1 := by rw [← hS3, ByteArray.size_append]; rfl
  have HZ0 : Hid (¬ 9223372036854775807 < wd.size + 1) := by show ¬ _; omega
  have HY0 : Hid (¬ 9223372036854775807 < S0.size + i0.size) := by show ¬ _; omega
  have HZ1 : Hid (¬ 9223372036854775807 < T0.size + 1) := by show ¬ _; omega
  have HY1 : Hid (¬ 9223372036854775807 < S1.size + i1.size) := by show ¬ _; omega
  have HZ2 : Hid (¬ 9223372036854775807 < T1.size + 1) := by show ¬ _; omega
  have HY2 : Hid (¬ 9223372036854775807 < S2.size + i2.size) := by show ¬ _; omega
  have HZ3 : Hid (¬ 9223372036854775807 < T2.size + 1) := by show ¬ _; omega
  have HY3 : Hid (¬ 9223372036854775807 < S3.size + i3.size) := by show ¬ _; omega
  have HS0 : Hid (wd ++ (⟨#[32]⟩ : ByteArray) = S0) := hS0
  have HS1 : Hid (T0 ++ (⟨#[32]⟩ : ByteArray) = S1) := hS1
  have HS2 : Hid (T1 ++ (⟨#[32]⟩ : ByteArray) = S2) := hS2
  have HS3 : Hid (T2 ++ (⟨#[32]⟩ : ByteArray) = S3) := hS3
  have HT0 := Lib.hid hT0
  have HT1 := Lib.hid hT1
  have HT2 := Lib.hid hT2
  have HT3 := Lib.hid hT3
  have C0 := Lib.hid (fun W => Dec.dec p hp.1 hp.2 W)
  have C1 := Lib.hid (fun W => Dec.dec q hq.1 hq.2 W)
  have C2 := Lib.hid (fun W => Dec.dec r hrr.1 hrr.2 W)
  have C3 := Lib.hid (fun W => Dec.dec s hs.1 hs.2 W)
  rw [show (⟨(Lib.itoa p).toArray⟩ : ByteArray) = i0 from hi0.symm] at C0
  rw [show (⟨(Lib.itoa q).toArray⟩ : ByteArray) = i1 from hi1.symm] at C1
  rw [show (⟨(Lib.itoa r).toArray⟩ : ByteArray) = i2 from hi2.symm] at C2
  rw [show (⟨(Lib.itoa s).toArray⟩ : ByteArray) = i3 from hi3.symm] at C3
  have HG := Lib.hid hg
  have hw : ∀ h, ([Value.string ⟨#[103, 111, 111, 100]⟩, Value.string ⟨#[100, 111, 117, 98, 116, 102, 117, 108]⟩, Value.string ⟨#[101, 114, 114, 111, 114]⟩, Value.string ⟨#[98, 108, 117, 110, 100, 101, 114]⟩] : List Value)[m]'h = .string wd := fun h => by
    rw [hwd]
    match m, hm with
    | 0, _ => rfl
    | 1, _ => rfl
    | 2, _ => rfl
    | 3, _ => rfl
  clear hS0 hS1 hS2 hS3 hT0 hT1 hT2 hT3 y0 y1 y2 y3 y4 y5 y6 z0 z1 z2 z3 zw hi0 hi1 hi2 hi3 hwd hg
  go_enter Tryd.func5, Tryd.ntmps5
  go_wp2_with fail
  refine (grd_spec r _).mono ?_
  rintro e w1 ⟨rfl, rfl⟩
  rw [HG.out]
  go_upto_region 4 with (fail)
  (try simp only [hw])
  refine wp_gen (fun W' => Below w.heap.size w W' ∧ RowB W' w.heap.size 25 [.int .i64 p, .int .i64 q, .int .i64 r, .int .i64 s]) ⟨by go_grown, (RowB.new _ _ _).alloc _⟩ ?_
  clear hw hd
  rintro w2 ⟨hbel, hrb⟩
  refine region_inv (fun a0 L a w' => ∃ v2 v13 v14 v15 v16 v17 v18 v19 v20 v21 v22 v23 v24 v25 v26 v27 v28 v29 v30 v31 v32 v33 : Value, a = ((((((((((((((((((((((a0.put (some 2) v2).put (some 13) v13).put (some 14) v14).put (some 15) v15).put (some 16) v16).put (some 17) v17).put (some 18) v18).put (some 19) v19).put (some 20) v20).put (some 21) v21).put (some 22) v22).put (some 23) v23).put (some 24) v24).put (some 25) v25).put (some 26) v26).put (some 27) v27).put (some 28) v28).put (some 29) v29).put (some 30) v30).put (some 31) v31).put (some 32) v32).put (some 33) v33) ∧ VtF w w.heap.size p q r s wd S0 S1 S2 S3 T0 T1 T2 T3 i0 i1 i2 i3 L v2 v13 v14 v15 v16 v17 v18 v19 v20 v21 v22 v23 v24 v25 v26 v27 v28 v29 v30 v31 v32 v33 w') (by kernel_rfl) (by kernel_rfl) ?h0 ?hst ?fin
  case h0 =>
    exact ⟨_, _, _, _, _, _, _, _, _, _, _, _, _, _, _, _, _, _, _, _, _, _, by simp only [Act.put, List.setIfInBounds_toArray, List.set_cons_zero, List.set_cons_succ]; exact rfl, ⟨hbel.drew, RowB.drew hrb, fun h => (h : False).elim, fun h => (h : False).elim, fun h => (h : False).elim, fun h => (h : False).elim, fun h => (h : False).elim, fun h => (h : False).elim, fun h => (h : False).elim, fun h => (h : False).elim, fun h => (h : False).elim, fun h => (h : False).elim, fun h => (h : False).elim, fun h => (h : False).elim, fun h => (h : False).elim, fun h => (h : False).elim, fun h => (h : False).elim, fun h => (h : False).elim, fun h => (h : False).elim, fun h => (h : False).elim, fun h => (h : False).elim, fun h => (h : False).elim, fun h => (h : False).elim, fun h => (h : False).elim⟩⟩
  case hst =>
    refine StepsFrom.cons rfl (fun L a w' hI hno hdep hcl K hK => ?_) ?_
    · obtain ⟨v2, v13, v14, v15, v16, v17, v18, v19, v20, v21, v22, v23, v24, v25, v26, v27, v28, v29, v30, v31, v32, v33, ha, F⟩ := hI
      subst ha
      simp only [Act.put, List.setIfInBounds_toArray, List.set_cons_zero, List.set_cons_succ]
      go_simp
      exact hK.out _ _ ⟨v2, _, v14, v15, v16, v17, v18, v19, v20, v21, v22, v23, v24, v25, v26, v27, v28, v29, v30, v31, v32, v33, by simp only [Act.put, List.setIfInBounds_toArray, List.set_cons_zero, List.set_cons_succ], ⟨F.bel, F.rb, fun _ => rfl, fun h => F.f1 (h.resolve_left (by decide)), fun h => F.f2 (h.resolve_left (by decide)), fun h => F.f3 (h.resolve_left (by decide)), fun h => F.f4 (h.resolve_left (by decide)), fun h => F.f5 (h.resolve_left (by decide)), fun h => F.f6 (h.resolve_left (by decide)), fun h => F.f7 (h.resolve_left (by decide)), fun h => F.f8 (h.resolve_left (by decide)), fun h => F.f9 (h.resolve_left (by decide)), fun h => F.f10 (h.resolve_left (by decide)), fun h => F.f11 (h.resolve_left (by decide)), fun h => F.f12 (h.resolve_left (by decide)), fun h => F.f13 (h.resolve_left (by decide)), fun h => F.f14 (h.resolve_left (by decide)), fun h => F.f15 (h.resolve_left (by decide)), fun h => F.f16 (h.resolve_left (by decide)), fun h => F.f17 (h.resolve_left (by decide)), fun h => F.f18 (h.resolve_left (by decide)), fun h => F.f19 (h.resolve_left (by decide)), fun h => F.f20 (h.resolve_left (by decide)), fun h => F.f21 (h.resolve_left (by decide))⟩⟩
    refine StepsFrom.cons rfl (fun L a w' hI hno hdep hcl K hK => ?_) ?_
    · obtain ⟨v2, v13, v14, v15, v16, v17, v18, v19, v20, v21, v22, v23, v24, v25, v26, v27, v28, v29, v30, v31, v32, v33, ha, F⟩ := hI
      have e13 := F.f0 (hdep 0 (by kernel_rfl))
      have hs := HS0.out
      have hz := HZ0.out
      subst ha
      simp only [Act.put, List.setIfInBounds_toArray, List.set_cons_zero, List.set_cons_succ, e13]
      go_simp
      exact hK.out _ _ ⟨v2, v13, .string S0, v15, v16, v17, v18, v19, v20, v21, v22, v23, v24, v25, v26, v27, v28, v29, v30, v31, v32, v33, by simp only [Act.put, List.setIfInBounds_toArray, List.set_cons_zero, List.set_cons_succ, e13], ⟨F.bel, F.rb, fun h => F.f0 (h.resolve_left (by decide)), fun _ => rfl, fun h => F.f2 (h.resolve_left (by decide)), fun h => F.f3 (h.resolve_left (by decide)), fun h => F.f4 (h.resolve_left (by decide)), fun h => F.f5 (h.resolve_left (by decide)), fun h => F.f6 (h.resolve_left (by decide)), fun h => F.f7 (h.resolve_left (by decide)), fun h => F.f8 (h.resolve_left (by decide)), fun h => F.f9 (h.resolve_left (by decide)), fun h => F.f10 (h.resolve_left (by decide)), fun h => F.f11 (h.resolve_left (by decide)), fun h => F.f12 (h.resolve_left (by decide)), fun h => F.f13 (h.resolve_left (by decide)), fun h => F.f14 (h.resolve_left (by decide)), fun h => F.f15 (h.resolve_left (by decide)), fun h => F.f16 (h.resolve_left (by decide)), fun h => F.f17 (h.resolve_left (by decide)), fun h => F.f18 (h.resolve_left (by decide)), fun h => F.f19 (h.resolve_left (by decide)), fun h => F.f20 (h.resolve_left (by decide)), fun h => F.f21 (h.resolve_left (by decide))⟩⟩
    refine StepsFrom.cons rfl (fun L a w' hI hno hdep hcl K hK => ?_) ?_
    · obtain ⟨v2, v13, v14, v15, v16, v17, v18, v19, v20, v21, v22, v23, v24, v25, v26, v27, v28, v29, v30, v31, v32, v33, ha, F⟩ := hI
      subst ha
      simp only [Act.put, List.setIfInBounds_toArray, List.set_cons_zero, List.set_cons_succ]
      go_simp
      exact hK.out _ _ ⟨v2, v13, v14, _, v16, v17, v18, v19, v20, v21, v22, v23, v24, v25, v26, v27, v28, v29, v30, v31, v32, v33, by simp only [Act.put, List.setIfInBounds_toArray, List.set_cons_zero, List.set_cons_succ], ⟨F.bel, F.rb, fun h => F.f0 (h.resolve_left (by decide)), fun h => F.f1 (h.resolve_left (by decide)), fun _ => rfl, fun h => F.f3 (h.resolve_left (by decide)), fun h => F.f4 (h.resolve_left (by decide)), fun h => F.f5 (h.resolve_left (by decide)), fun h => F.f6 (h.resolve_left (by decide)), fun h => F.f7 (h.resolve_left (by decide)), fun h => F.f8 (h.resolve_left (by decide)), fun h => F.f9 (h.resolve_left (by decide)), fun h => F.f10 (h.resolve_left (by decide)), fun h => F.f11 (h.resolve_left (by decide)), fun h => F.f12 (h.resolve_left (by decide)), fun h => F.f13 (h.resolve_left (by decide)), fun h => F.f14 (h.resolve_left (by decide)), fun h => F.f15 (h.resolve_left (by decide)), fun h => F.f16 (h.resolve_left (by decide)), fun h => F.f17 (h.resolve_left (by decide)), fun h => F.f18 (h.resolve_left (by decide)), fun h => F.f19 (h.resolve_left (by decide)), fun h => F.f20 (h.resolve_left (by decide)), fun h => F.f21 (h.resolve_left (by decide))⟩⟩
    refine StepsFrom.cons rfl (fun L a w' hI hno hdep hcl K hK => ?_) ?_
    · obtain ⟨v2, v13, v14, v15, v16, v17, v18, v19, v20, v21, v22, v23, v24, v25, v26, v27, v28, v29, v30, v31, v32, v33, ha, F⟩ := hI
      have e15 := F.f2 (hdep 2 (by kernel_rfl))
      obtain ⟨c0, c1, c2, c3⟩ := F.rb.c4
      subst ha
      simp only [Act.put, List.setIfInBounds_toArray, List.set_cons_zero, List.set_cons_succ, e15]
      go_simp
      exact hK.out _ _ ⟨v2, v13, v14, v15, _, v17, v18, v19, v20, v21, v22, v23, v24, v25, v26, v27, v28, v29, v30, v31, v32, v33, by simp only [Act.put, List.setIfInBounds_toArray, List.set_cons_zero, List.set_cons_succ, e15], ⟨F.bel, F.rb, fun h => F.f0 (h.resolve_left (by decide)), fun h => F.f1 (h.resolve_left (by decide)), fun h => F.f2 (h.resolve_left (by decide)), fun _ => rfl, fun h => F.f4 (h.resolve_left (by decide)), fun h => F.f5 (h.resolve_left (by decide)), fun h => F.f6 (h.resolve_left (by decide)), fun h => F.f7 (h.resolve_left (by decide)), fun h => F.f8 (h.resolve_left (by decide)), fun h => F.f9 (h.resolve_left (by decide)), fun h => F.f10 (h.resolve_left (by decide)), fun h => F.f11 (h.resolve_left (by decide)), fun h => F.f12 (h.resolve_left (by decide)), fun h => F.f13 (h.resolve_left (by decide)), fun h => F.f14 (h.resolve_left (by decide)), fun h => F.f15 (h.resolve_left (by decide)), fun h => F.f16 (h.resolve_left (by decide)), fun h => F.f17 (h.resolve_left (by decide)), fun h => F.f18 (h.resolve_left (by decide)), fun h => F.f19 (h.resolve_left (by decide)), fun h => F.f20 (h.resolve_left (by decide)), fun h => F.f21 (h.resolve_left (by decide))⟩⟩
    refine StepsFrom.cons rfl (fun L a w' hI hno hdep hcl K hK => ?_) ?_
    · obtain ⟨v2, v13, v14, v15, v16, v17, v18, v19, v20, v21, v22, v23, v24, v25, v26, v27, v28, v29, v30, v31, v32, v33, ha, F⟩ := hI
      have e16 := F.f3 (hdep 3 (by kernel_rfl))
      subst ha
      simp only [Act.put, List.setIfInBounds_toArray, List.set_cons_zero, List.set_cons_succ, e16]
      go_simp
      refine (C0.out w').mono ?_
      rintro e w2 ⟨rfl, hb⟩
      exact hK.out _ _ ⟨v2, v13, v14, v15, v16, .string i0, v18, v19, v20, v21, v22, v23, v24, v25, v26, v27, v28, v29, v30, v31, v32, v33, by simp only [Act.put, List.setIfInBounds_toArray, List.set_cons_zero, List.set_cons_succ, e16], ⟨F.bel.trans (hb.mono F.bel.size), F.rb.below hb F.rb.lt, fun h => F.f0 (h.resolve_left (by decide)), fun h => F.f1 (h.resolve_left (by decide)), fun h => F.f2 (h.resolve_left (by decide)), fun h => F.f3 (h.resolve_left (by decide)), fun _ => rfl, fun h => F.f5 (h.resolve_left (by decide)), fun h => F.f6 (h.resolve_left (by decide)), fun h => F.f7 (h.resolve_left (by decide)), fun h => F.f8 (h.resolve_left (by decide)), fun h => F.f9 (h.resolve_left (by decide)), fun h => F.f10 (h.resolve_left (by decide)), fun h => F.f11 (h.resolve_left (by decide)), fun h => F.f12 (h.resolve_left (by decide)), fun h => F.f13 (h.resolve_left (by decide)), fun h => F.f14 (h.resolve_left (by decide)), fun h => F.f15 (h.resolve_left (by decide)), fun h => F.f16 (h.resolve_left (by decide)), fun h => F.f17 (h.resolve_left (by decide)), fun h => F.f18 (h.resolve_left (by decide)), fun h => F.f19 (h.resolve_left (by decide)), fun h => F.f20 (h.resolve_left (by decide)), fun h => F.f21 (h.resolve_left (by decide))⟩⟩
    refine StepsFrom.cons rfl (fun L a w' hI hno hdep hcl K hK => ?_) ?_
    · obtain ⟨v2, v13, v14, v15, v16, v17, v18, v19, v20, v21, v22, v23, v24, v25, v26, v27, v28, v29, v30, v31, v32, v33, ha, F⟩ := hI
      have e14 := F.f1 (hdep 1 (by kernel_rfl))
      have e17 := F.f4 (hdep 4 (by kernel_rfl))
      have hs := HT0.out
      have hz := HY0.out
      subst ha
      simp only [Act.put, List.setIfInBounds_toArray, List.set_cons_zero, List.set_cons_succ, e14, e17]
      go_simp
      exact hK.out _ _ ⟨v2, v13, v14, v15, v16, v17, .string T0, v19, v20, v21, v22, v23, v24, v25, v26, v27, v28, v29, v30, v31, v32, v33, by simp only [Act.put, List.setIfInBounds_toArray, List.set_cons_zero, List.set_cons_succ, e14, e17], ⟨F.bel, F.rb, fun h => F.f0 (h.resolve_left (by decide)), fun h => F.f1 (h.resolve_left (by decide)), fun h => F.f2 (h.resolve_left (by decide)), fun h => F.f3 (h.resolve_left (by decide)), fun h => F.f4 (h.resolve_left (by decide)), fun _ => rfl, fun h => F.f6 (h.resolve_left (by decide)), fun h => F.f7 (h.resolve_left (by decide)), fun h => F.f8 (h.resolve_left (by decide)), fun h => F.f9 (h.resolve_left (by decide)), fun h => F.f10 (h.resolve_left (by decide)), fun h => F.f11 (h.resolve_left (by decide)), fun h => F.f12 (h.resolve_left (by decide)), fun h => F.f13 (h.resolve_left (by decide)), fun h => F.f14 (h.resolve_left (by decide)), fun h => F.f15 (h.resolve_left (by decide)), fun h => F.f16 (h.resolve_left (by decide)), fun h => F.f17 (h.resolve_left (by decide)), fun h => F.f18 (h.resolve_left (by decide)), fun h => F.f19 (h.resolve_left (by decide)), fun h => F.f20 (h.resolve_left (by decide)), fun h => F.f21 (h.resolve_left (by decide))⟩⟩
    refine StepsFrom.cons rfl (fun L a w' hI hno hdep hcl K hK => ?_) ?_
    · obtain ⟨v2, v13, v14, v15, v16, v17, v18, v19, v20, v21, v22, v23, v24, v25, v26, v27, v28, v29, v30, v31, v32, v33, ha, F⟩ := hI
      have e18 := F.f5 (hdep 5 (by kernel_rfl))
      have hs := HS1.out
      have hz := HZ1.out
      subst ha
      simp only [Act.put, List.setIfInBounds_toArray, List.set_cons_zero, List.set_cons_succ, e18]
      go_simp
      exact hK.out _ _ ⟨v2, v13, v14, v15, v16, v17, v18, .string S1, v20, v21, v22, v23, v24, v25, v26, v27, v28, v29, v30, v31, v32, v33, by simp only [Act.put, List.setIfInBounds_toArray, List.set_cons_zero, List.set_cons_succ, e18], ⟨F.bel, F.rb, fun h => F.f0 (h.resolve_left (by decide)), fun h => F.f1 (h.resolve_left (by decide)), fun h => F.f2 (h.resolve_left (by decide)), fun h => F.f3 (h.resolve_left (by decide)), fun h => F.f4 (h.resolve_left (by decide)), fun h => F.f5 (h.resolve_left (by decide)), fun _ => rfl, fun h => F.f7 (h.resolve_left (by decide)), fun h => F.f8 (h.resolve_left (by decide)), fun h => F.f9 (h.resolve_left (by decide)), fun h => F.f10 (h.resolve_left (by decide)), fun h => F.f11 (h.resolve_left (by decide)), fun h => F.f12 (h.resolve_left (by decide)), fun h => F.f13 (h.resolve_left (by decide)), fun h => F.f14 (h.resolve_left (by decide)), fun h => F.f15 (h.resolve_left (by decide)), fun h => F.f16 (h.resolve_left (by decide)), fun h => F.f17 (h.resolve_left (by decide)), fun h => F.f18 (h.resolve_left (by decide)), fun h => F.f19 (h.resolve_left (by decide)), fun h => F.f20 (h.resolve_left (by decide)), fun h => F.f21 (h.resolve_left (by decide))⟩⟩
    refine StepsFrom.cons rfl (fun L a w' hI hno hdep hcl K hK => ?_) ?_
    · obtain ⟨v2, v13, v14, v15, v16, v17, v18, v19, v20, v21, v22, v23, v24, v25, v26, v27, v28, v29, v30, v31, v32, v33, ha, F⟩ := hI
      subst ha
      simp only [Act.put, List.setIfInBounds_toArray, List.set_cons_zero, List.set_cons_succ]
      go_simp
      exact hK.out _ _ ⟨v2, v13, v14, v15, v16, v17, v18, v19, _, v21, v22, v23, v24, v25, v26, v27, v28, v29, v30, v31, v32, v33, by simp only [Act.put, List.setIfInBounds_toArray, List.set_cons_zero, List.set_cons_succ], ⟨F.bel, F.rb, fun h => F.f0 (h.resolve_left (by decide)), fun h => F.f1 (h.resolve_left (by decide)), fun h => F.f2 (h.resolve_left (by decide)), fun h => F.f3 (h.resolve_left (by decide)), fun h => F.f4 (h.resolve_left (by decide)), fun h => F.f5 (h.resolve_left (by decide)), fun h => F.f6 (h.resolve_left (by decide)), fun _ => rfl, fun h => F.f8 (h.resolve_left (by decide)), fun h => F.f9 (h.resolve_left (by decide)), fun h => F.f10 (h.resolve_left (by decide)), fun h => F.f11 (h.resolve_left (by decide)), fun h => F.f12 (h.resolve_left (by decide)), fun h => F.f13 (h.resolve_left (by decide)), fun h => F.f14 (h.resolve_left (by decide)), fun h => F.f15 (h.resolve_left (by decide)), fun h => F.f16 (h.resolve_left (by decide)), fun h => F.f17 (h.resolve_left (by decide)), fun h => F.f18 (h.resolve_left (by decide)), fun h => F.f19 (h.resolve_left (by decide)), fun h => F.f20 (h.resolve_left (by decide)), fun h => F.f21 (h.resolve_left (by decide))⟩⟩
    refine StepsFrom.cons rfl (fun L a w' hI hno hdep hcl K hK => ?_) ?_
    · obtain ⟨v2, v13, v14, v15, v16, v17, v18, v19, v20, v21, v22, v23, v24, v25, v26, v27, v28, v29, v30, v31, v32, v33, ha, F⟩ := hI
      have e20 := F.f7 (hdep 7 (by kernel_rfl))
      obtain ⟨c0, c1, c2, c3⟩ := F.rb.c4
      subst ha
      simp only [Act.put, List.setIfInBounds_toArray, List.set_cons_zero, List.set_cons_succ, e20]
      go_simp
      exact hK.out _ _ ⟨v2, v13, v14, v15, v16, v17, v18, v19, v20, _, v22, v23, v24, v25, v26, v27, v28, v29, v30, v31, v32, v33, by simp only [Act.put, List.setIfInBounds_toArray, List.set_cons_zero, List.set_cons_succ, e20], ⟨F.bel, F.rb, fun h => F.f0 (h.resolve_left (by decide)), fun h => F.f1 (h.resolve_left (by decide)), fun h => F.f2 (h.resolve_left (by decide)), fun h => F.f3 (h.resolve_left (by decide)), fun h => F.f4 (h.resolve_left (by decide)), fun h => F.f5 (h.resolve_left (by decide)), fun h => F.f6 (h.resolve_left (by decide)), fun h => F.f7 (h.resolve_left (by decide)), fun _ => rfl, fun h => F.f9 (h.resolve_left (by decide)), fun h => F.f10 (h.resolve_left (by decide)), fun h => F.f11 (h.resolve_left (by decide)), fun h => F.f12 (h.resolve_left (by decide)), fun h => F.f13 (h.resolve_left (by decide)), fun h => F.f14 (h.resolve_left (by decide)), fun h => F.f15 (h.resolve_left (by decide)), fun h => F.f16 (h.resolve_left (by decide)), fun h => F.f17 (h.resolve_left (by decide)), fun h => F.f18 (h.resolve_left (by decide)), fun h => F.f19 (h.resolve_left (by decide)), fun h => F.f20 (h.resolve_left (by decide)), fun h => F.f21 (h.resolve_left (by decide))⟩⟩
    refine StepsFrom.cons rfl (fun L a w' hI hno hdep hcl K hK => ?_) ?_
    · obtain ⟨v2, v13, v14, v15, v16, v17, v18, v19, v20, v21, v22, v23, v24, v25, v26, v27, v28, v29, v30, v31, v32, v33, ha, F⟩ := hI
      have e21 := F.f8 (hdep 8 (by kernel_rfl))
      subst ha
      simp only [Act.put, List.setIfInBounds_toArray, List.set_cons_zero, List.set_cons_succ, e21]
      go_simp
      refine (C1.out w').mono ?_
      rintro e w2 ⟨rfl, hb⟩
      exact hK.out _ _ ⟨v2, v13, v14, v15, v16, v17, v18, v19, v20, v21, .string i1, v23, v24, v25, v26, v27, v28, v29, v30, v31, v32, v33, by simp only [Act.put, List.setIfInBounds_toArray, List.set_cons_zero, List.set_cons_succ, e21], ⟨F.bel.trans (hb.mono F.bel.size), F.rb.below hb F.rb.lt, fun h => F.f0 (h.resolve_left (by decide)), fun h => F.f1 (h.resolve_left (by decide)), fun h => F.f2 (h.resolve_left (by decide)), fun h => F.f3 (h.resolve_left (by decide)), fun h => F.f4 (h.resolve_left (by decide)), fun h => F.f5 (h.resolve_left (by decide)), fun h => F.f6 (h.resolve_left (by decide)), fun h => F.f7 (h.resolve_left (by decide)), fun h => F.f8 (h.resolve_left (by decide)), fun _ => rfl, fun h => F.f10 (h.resolve_left (by decide)), fun h => F.f11 (h.resolve_left (by decide)), fun h => F.f12 (h.resolve_left (by decide)), fun h => F.f13 (h.resolve_left (by decide)), fun h => F.f14 (h.resolve_left (by decide)), fun h => F.f15 (h.resolve_left (by decide)), fun h => F.f16 (h.resolve_left (by decide)), fun h => F.f17 (h.resolve_left (by decide)), fun h => F.f18 (h.resolve_left (by decide)), fun h => F.f19 (h.resolve_left (by decide)), fun h => F.f20 (h.resolve_left (by decide)), fun h => F.f21 (h.resolve_left (by decide))⟩⟩
    refine StepsFrom.cons rfl (fun L a w' hI hno hdep hcl K hK => ?_) ?_
    · obtain ⟨v2, v13, v14, v15, v16, v17, v18, v19, v20, v21, v22, v23, v24, v25, v26, v27, v28, v29, v30, v31, v32, v33, ha, F⟩ := hI
      have e19 := F.f6 (hdep 6 (by kernel_rfl))
      have e22 := F.f9 (hdep 9 (by kernel_rfl))
      have hs := HT1.out
      have hz := HY1.out
      subst ha
      simp only [Act.put, List.setIfInBounds_toArray, List.set_cons_zero, List.set_cons_succ, e19, e22]
      go_simp
      exact hK.out _ _ ⟨v2, v13, v14, v15, v16, v17, v18, v19, v20, v21, v22, .string T1, v24, v25, v26, v27, v28, v29, v30, v31, v32, v33, by simp only [Act.put, List.setIfInBounds_toArray, List.set_cons_zero, List.set_cons_succ, e19, e22], ⟨F.bel, F.rb, fun h => F.f0 (h.resolve_left (by decide)), fun h => F.f1 (h.resolve_left (by decide)), fun h => F.f2 (h.resolve_left (by decide)), fun h => F.f3 (h.resolve_left (by decide)), fun h => F.f4 (h.resolve_left (by decide)), fun h => F.f5 (h.resolve_left (by decide)), fun h => F.f6 (h.resolve_left (by decide)), fun h => F.f7 (h.resolve_left (by decide)), fun h => F.f8 (h.resolve_left (by decide)), fun h => F.f9 (h.resolve_left (by decide)), fun _ => rfl, fun h => F.f11 (h.resolve_left (by decide)), fun h => F.f12 (h.resolve_left (by decide)), fun h => F.f13 (h.resolve_left (by decide)), fun h => F.f14 (h.resolve_left (by decide)), fun h => F.f15 (h.resolve_left (by decide)), fun h => F.f16 (h.resolve_left (by decide)), fun h => F.f17 (h.resolve_left (by decide)), fun h => F.f18 (h.resolve_left (by decide)), fun h => F.f19 (h.resolve_left (by decide)), fun h => F.f20 (h.resolve_left (by decide)), fun h => F.f21 (h.resolve_left (by decide))⟩⟩
    refine StepsFrom.cons rfl (fun L a w' hI hno hdep hcl K hK => ?_) ?_
    · obtain ⟨v2, v13, v14, v15, v16, v17, v18, v19, v20, v21, v22, v23, v24, v25, v26, v27, v28, v29, v30, v31, v32, v33, ha, F⟩ := hI
      have e23 := F.f10 (hdep 10 (by kernel_rfl))
      have hs := HS2.out
      have hz := HZ2.out
      subst ha
      simp only [Act.put, List.setIfInBounds_toArray, List.set_cons_zero, List.set_cons_succ, e23]
      go_simp
      exact hK.out _ _ ⟨v2, v13, v14, v15, v16, v17, v18, v19, v20, v21, v22, v23, .string S2, v25, v26, v27, v28, v29, v30, v31, v32, v33, by simp only [Act.put, List.setIfInBounds_toArray, List.set_cons_zero, List.set_cons_succ, e23], ⟨F.bel, F.rb, fun h => F.f0 (h.resolve_left (by decide)), fun h => F.f1 (h.resolve_left (by decide)), fun h => F.f2 (h.resolve_left (by decide)), fun h => F.f3 (h.resolve_left (by decide)), fun h => F.f4 (h.resolve_left (by decide)), fun h => F.f5 (h.resolve_left (by decide)), fun h => F.f6 (h.resolve_left (by decide)), fun h => F.f7 (h.resolve_left (by decide)), fun h => F.f8 (h.resolve_left (by decide)), fun h => F.f9 (h.resolve_left (by decide)), fun h => F.f10 (h.resolve_left (by decide)), fun _ => rfl, fun h => F.f12 (h.resolve_left (by decide)), fun h => F.f13 (h.resolve_left (by decide)), fun h => F.f14 (h.resolve_left (by decide)), fun h => F.f15 (h.resolve_left (by decide)), fun h => F.f16 (h.resolve_left (by decide)), fun h => F.f17 (h.resolve_left (by decide)), fun h => F.f18 (h.resolve_left (by decide)), fun h => F.f19 (h.resolve_left (by decide)), fun h => F.f20 (h.resolve_left (by decide)), fun h => F.f21 (h.resolve_left (by decide))⟩⟩
    refine StepsFrom.cons rfl (fun L a w' hI hno hdep hcl K hK => ?_) ?_
    · obtain ⟨v2, v13, v14, v15, v16, v17, v18, v19, v20, v21, v22, v23, v24, v25, v26, v27, v28, v29, v30, v31, v32, v33, ha, F⟩ := hI
      subst ha
      simp only [Act.put, List.setIfInBounds_toArray, List.set_cons_zero, List.set_cons_succ]
      go_simp
      exact hK.out _ _ ⟨v2, v13, v14, v15, v16, v17, v18, v19, v20, v21, v22, v23, v24, _, v26, v27, v28, v29, v30, v31, v32, v33, by simp only [Act.put, List.setIfInBounds_toArray, List.set_cons_zero, List.set_cons_succ], ⟨F.bel, F.rb, fun h => F.f0 (h.resolve_left (by decide)), fun h => F.f1 (h.resolve_left (by decide)), fun h => F.f2 (h.resolve_left (by decide)), fun h => F.f3 (h.resolve_left (by decide)), fun h => F.f4 (h.resolve_left (by decide)), fun h => F.f5 (h.resolve_left (by decide)), fun h => F.f6 (h.resolve_left (by decide)), fun h => F.f7 (h.resolve_left (by decide)), fun h => F.f8 (h.resolve_left (by decide)), fun h => F.f9 (h.resolve_left (by decide)), fun h => F.f10 (h.resolve_left (by decide)), fun h => F.f11 (h.resolve_left (by decide)), fun _ => rfl, fun h => F.f13 (h.resolve_left (by decide)), fun h => F.f14 (h.resolve_left (by decide)), fun h => F.f15 (h.resolve_left (by decide)), fun h => F.f16 (h.resolve_left (by decide)), fun h => F.f17 (h.resolve_left (by decide)), fun h => F.f18 (h.resolve_left (by decide)), fun h => F.f19 (h.resolve_left (by decide)), fun h => F.f20 (h.resolve_left (by decide)), fun h => F.f21 (h.resolve_left (by decide))⟩⟩
    refine StepsFrom.cons rfl (fun L a w' hI hno hdep hcl K hK => ?_) ?_
    · obtain ⟨v2, v13, v14, v15, v16, v17, v18, v19, v20, v21, v22, v23, v24, v25, v26, v27, v28, v29, v30, v31, v32, v33, ha, F⟩ := hI
      have e25 := F.f12 (hdep 12 (by kernel_rfl))
      obtain ⟨c0, c1, c2, c3⟩ := F.rb.c4
      subst ha
      simp only [Act.put, List.setIfInBounds_toArray, List.set_cons_zero, List.set_cons_succ, e25]
      go_simp
      exact hK.out _ _ ⟨v2, v13, v14, v15, v16, v17, v18, v19, v20, v21, v22, v23, v24, v25, _, v27, v28, v29, v30, v31, v32, v33, by simp only [Act.put, List.setIfInBounds_toArray, List.set_cons_zero, List.set_cons_succ, e25], ⟨F.bel, F.rb, fun h => F.f0 (h.resolve_left (by decide)), fun h => F.f1 (h.resolve_left (by decide)), fun h => F.f2 (h.resolve_left (by decide)), fun h => F.f3 (h.resolve_left (by decide)), fun h => F.f4 (h.resolve_left (by decide)), fun h => F.f5 (h.resolve_left (by decide)), fun h => F.f6 (h.resolve_left (by decide)), fun h => F.f7 (h.resolve_left (by decide)), fun h => F.f8 (h.resolve_left (by decide)), fun h => F.f9 (h.resolve_left (by decide)), fun h => F.f10 (h.resolve_left (by decide)), fun h => F.f11 (h.resolve_left (by decide)), fun h => F.f12 (h.resolve_left (by decide)), fun _ => rfl, fun h => F.f14 (h.resolve_left (by decide)), fun h => F.f15 (h.resolve_left (by decide)), fun h => F.f16 (h.resolve_left (by decide)), fun h => F.f17 (h.resolve_left (by decide)), fun h => F.f18 (h.resolve_left (by decide)), fun h => F.f19 (h.resolve_left (by decide)), fun h => F.f20 (h.resolve_left (by decide)), fun h => F.f21 (h.resolve_left (by decide))⟩⟩
    refine StepsFrom.cons rfl (fun L a w' hI hno hdep hcl K hK => ?_) ?_
    · obtain ⟨v2, v13, v14, v15, v16, v17, v18, v19, v20, v21, v22, v23, v24, v25, v26, v27, v28, v29, v30, v31, v32, v33, ha, F⟩ := hI
      have e26 := F.f13 (hdep 13 (by kernel_rfl))
      subst ha
      simp only [Act.put, List.setIfInBounds_toArray, List.set_cons_zero, List.set_cons_succ, e26]
      go_simp
      refine (C2.out w').mono ?_
      rintro e w2 ⟨rfl, hb⟩
      exact hK.out _ _ ⟨v2, v13, v14, v15, v16, v17, v18, v19, v20, v21, v22, v23, v24, v25, v26, .string i2, v28, v29, v30, v31, v32, v33, by simp only [Act.put, List.setIfInBounds_toArray, List.set_cons_zero, List.set_cons_succ, e26], ⟨F.bel.trans (hb.mono F.bel.size), F.rb.below hb F.rb.lt, fun h => F.f0 (h.resolve_left (by decide)), fun h => F.f1 (h.resolve_left (by decide)), fun h => F.f2 (h.resolve_left (by decide)), fun h => F.f3 (h.resolve_left (by decide)), fun h => F.f4 (h.resolve_left (by decide)), fun h => F.f5 (h.resolve_left (by decide)), fun h => F.f6 (h.resolve_left (by decide)), fun h => F.f7 (h.resolve_left (by decide)), fun h => F.f8 (h.resolve_left (by decide)), fun h => F.f9 (h.resolve_left (by decide)), fun h => F.f10 (h.resolve_left (by decide)), fun h => F.f11 (h.resolve_left (by decide)), fun h => F.f12 (h.resolve_left (by decide)), fun h => F.f13 (h.resolve_left (by decide)), fun _ => rfl, fun h => F.f15 (h.resolve_left (by decide)), fun h => F.f16 (h.resolve_left (by decide)), fun h => F.f17 (h.resolve_left (by decide)), fun h => F.f18 (h.resolve_left (by decide)), fun h => F.f19 (h.resolve_left (by decide)), fun h => F.f20 (h.resolve_left (by decide)), fun h => F.f21 (h.resolve_left (by decide))⟩⟩
    refine StepsFrom.cons rfl (fun L a w' hI hno hdep hcl K hK => ?_) ?_
    · obtain ⟨v2, v13, v14, v15, v16, v17, v18, v19, v20, v21, v22, v23, v24, v25, v26, v27, v28, v29, v30, v31, v32, v33, ha, F⟩ := hI
      have e24 := F.f11 (hdep 11 (by kernel_rfl))
      have e27 := F.f14 (hdep 14 (by kernel_rfl))
      have hs := HT2.out
      have hz := HY2.out
      subst ha
      simp only [Act.put, List.setIfInBounds_toArray, List.set_cons_zero, List.set_cons_succ, e24, e27]
      go_simp
      exact hK.out _ _ ⟨v2, v13, v14, v15, v16, v17, v18, v19, v20, v21, v22, v23, v24, v25, v26, v27, .string T2, v29, v30, v31, v32, v33, by simp only [Act.put, List.setIfInBounds_toArray, List.set_cons_zero, List.set_cons_succ, e24, e27], ⟨F.bel, F.rb, fun h => F.f0 (h.resolve_left (by decide)), fun h => F.f1 (h.resolve_left (by decide)), fun h => F.f2 (h.resolve_left (by decide)), fun h => F.f3 (h.resolve_left (by decide)), fun h => F.f4 (h.resolve_left (by decide)), fun h => F.f5 (h.resolve_left (by decide)), fun h => F.f6 (h.resolve_left (by decide)), fun h => F.f7 (h.resolve_left (by decide)), fun h => F.f8 (h.resolve_left (by decide)), fun h => F.f9 (h.resolve_left (by decide)), fun h => F.f10 (h.resolve_left (by decide)), fun h => F.f11 (h.resolve_left (by decide)), fun h => F.f12 (h.resolve_left (by decide)), fun h => F.f13 (h.resolve_left (by decide)), fun h => F.f14 (h.resolve_left (by decide)), fun _ => rfl, fun h => F.f16 (h.resolve_left (by decide)), fun h => F.f17 (h.resolve_left (by decide)), fun h => F.f18 (h.resolve_left (by decide)), fun h => F.f19 (h.resolve_left (by decide)), fun h => F.f20 (h.resolve_left (by decide)), fun h => F.f21 (h.resolve_left (by decide))⟩⟩
    refine StepsFrom.cons rfl (fun L a w' hI hno hdep hcl K hK => ?_) ?_
    · obtain ⟨v2, v13, v14, v15, v16, v17, v18, v19, v20, v21, v22, v23, v24, v25, v26, v27, v28, v29, v30, v31, v32, v33, ha, F⟩ := hI
      have e28 := F.f15 (hdep 15 (by kernel_rfl))
      have hs := HS3.out
      have hz := HZ3.out
      subst ha
      simp only [Act.put, List.setIfInBounds_toArray, List.set_cons_zero, List.set_cons_succ, e28]
      go_simp
      exact hK.out _ _ ⟨v2, v13, v14, v15, v16, v17, v18, v19, v20, v21, v22, v23, v24, v25, v26, v27, v28, .string S3, v30, v31, v32, v33, by simp only [Act.put, List.setIfInBounds_toArray, List.set_cons_zero, List.set_cons_succ, e28], ⟨F.bel, F.rb, fun h => F.f0 (h.resolve_left (by decide)), fun h => F.f1 (h.resolve_left (by decide)), fun h => F.f2 (h.resolve_left (by decide)), fun h => F.f3 (h.resolve_left (by decide)), fun h => F.f4 (h.resolve_left (by decide)), fun h => F.f5 (h.resolve_left (by decide)), fun h => F.f6 (h.resolve_left (by decide)), fun h => F.f7 (h.resolve_left (by decide)), fun h => F.f8 (h.resolve_left (by decide)), fun h => F.f9 (h.resolve_left (by decide)), fun h => F.f10 (h.resolve_left (by decide)), fun h => F.f11 (h.resolve_left (by decide)), fun h => F.f12 (h.resolve_left (by decide)), fun h => F.f13 (h.resolve_left (by decide)), fun h => F.f14 (h.resolve_left (by decide)), fun h => F.f15 (h.resolve_left (by decide)), fun _ => rfl, fun h => F.f17 (h.resolve_left (by decide)), fun h => F.f18 (h.resolve_left (by decide)), fun h => F.f19 (h.resolve_left (by decide)), fun h => F.f20 (h.resolve_left (by decide)), fun h => F.f21 (h.resolve_left (by decide))⟩⟩
    refine StepsFrom.cons rfl (fun L a w' hI hno hdep hcl K hK => ?_) ?_
    · obtain ⟨v2, v13, v14, v15, v16, v17, v18, v19, v20, v21, v22, v23, v24, v25, v26, v27, v28, v29, v30, v31, v32, v33, ha, F⟩ := hI
      subst ha
      simp only [Act.put, List.setIfInBounds_toArray, List.set_cons_zero, List.set_cons_succ]
      go_simp
      exact hK.out _ _ ⟨v2, v13, v14, v15, v16, v17, v18, v19, v20, v21, v22, v23, v24, v25, v26, v27, v28, v29, _, v31, v32, v33, by simp only [Act.put, List.setIfInBounds_toArray, List.set_cons_zero, List.set_cons_succ], ⟨F.bel, F.rb, fun h => F.f0 (h.resolve_left (by decide)), fun h => F.f1 (h.resolve_left (by decide)), fun h => F.f2 (h.resolve_left (by decide)), fun h => F.f3 (h.resolve_left (by decide)), fun h => F.f4 (h.resolve_left (by decide)), fun h => F.f5 (h.resolve_left (by decide)), fun h => F.f6 (h.resolve_left (by decide)), fun h => F.f7 (h.resolve_left (by decide)), fun h => F.f8 (h.resolve_left (by decide)), fun h => F.f9 (h.resolve_left (by decide)), fun h => F.f10 (h.resolve_left (by decide)), fun h => F.f11 (h.resolve_left (by decide)), fun h => F.f12 (h.resolve_left (by decide)), fun h => F.f13 (h.resolve_left (by decide)), fun h => F.f14 (h.resolve_left (by decide)), fun h => F.f15 (h.resolve_left (by decide)), fun h => F.f16 (h.resolve_left (by decide)), fun _ => rfl, fun h => F.f18 (h.resolve_left (by decide)), fun h => F.f19 (h.resolve_left (by decide)), fun h => F.f20 (h.resolve_left (by decide)), fun h => F.f21 (h.resolve_left (by decide))⟩⟩
    refine StepsFrom.cons rfl (fun L a w' hI hno hdep hcl K hK => ?_) ?_
    · obtain ⟨v2, v13, v14, v15, v16, v17, v18, v19, v20, v21, v22, v23, v24, v25, v26, v27, v28, v29, v30, v31, v32, v33, ha, F⟩ := hI
      have e30 := F.f17 (hdep 17 (by kernel_rfl))
      obtain ⟨c0, c1, c2, c3⟩ := F.rb.c4
      subst ha
      simp only [Act.put, List.setIfInBounds_toArray, List.set_cons_zero, List.set_cons_succ, e30]
      go_simp
      exact hK.out _ _ ⟨v2, v13, v14, v15, v16, v17, v18, v19, v20, v21, v22, v23, v24, v25, v26, v27, v28, v29, v30, _, v32, v33, by simp only [Act.put, List.setIfInBounds_toArray, List.set_cons_zero, List.set_cons_succ, e30], ⟨F.bel, F.rb, fun h => F.f0 (h.resolve_left (by decide)), fun h => F.f1 (h.resolve_left (by decide)), fun h => F.f2 (h.resolve_left (by decide)), fun h => F.f3 (h.resolve_left (by decide)), fun h => F.f4 (h.resolve_left (by decide)), fun h => F.f5 (h.resolve_left (by decide)), fun h => F.f6 (h.resolve_left (by decide)), fun h => F.f7 (h.resolve_left (by decide)), fun h => F.f8 (h.resolve_left (by decide)), fun h => F.f9 (h.resolve_left (by decide)), fun h => F.f10 (h.resolve_left (by decide)), fun h => F.f11 (h.resolve_left (by decide)), fun h => F.f12 (h.resolve_left (by decide)), fun h => F.f13 (h.resolve_left (by decide)), fun h => F.f14 (h.resolve_left (by decide)), fun h => F.f15 (h.resolve_left (by decide)), fun h => F.f16 (h.resolve_left (by decide)), fun h => F.f17 (h.resolve_left (by decide)), fun _ => rfl, fun h => F.f19 (h.resolve_left (by decide)), fun h => F.f20 (h.resolve_left (by decide)), fun h => F.f21 (h.resolve_left (by decide))⟩⟩
    refine StepsFrom.cons rfl (fun L a w' hI hno hdep hcl K hK => ?_) ?_
    · obtain ⟨v2, v13, v14, v15, v16, v17, v18, v19, v20, v21, v22, v23, v24, v25, v26, v27, v28, v29, v30, v31, v32, v33, ha, F⟩ := hI
      have e31 := F.f18 (hdep 18 (by kernel_rfl))
      subst ha
      simp only [Act.put, List.setIfInBounds_toArray, List.set_cons_zero, List.set_cons_succ, e31]
      go_simp
      refine (C3.out w').mono ?_
      rintro e w2 ⟨rfl, hb⟩
      exact hK.out _ _ ⟨v2, v13, v14, v15, v16, v17, v18, v19, v20, v21, v22, v23, v24, v25, v26, v27, v28, v29, v30, v31, .string i3, v33, by simp only [Act.put, List.setIfInBounds_toArray, List.set_cons_zero, List.set_cons_succ, e31], ⟨F.bel.trans (hb.mono F.bel.size), F.rb.below hb F.rb.lt, fun h => F.f0 (h.resolve_left (by decide)), fun h => F.f1 (h.resolve_left (by decide)), fun h => F.f2 (h.resolve_left (by decide)), fun h => F.f3 (h.resolve_left (by decide)), fun h => F.f4 (h.resolve_left (by decide)), fun h => F.f5 (h.resolve_left (by decide)), fun h => F.f6 (h.resolve_left (by decide)), fun h => F.f7 (h.resolve_left (by decide)), fun h => F.f8 (h.resolve_left (by decide)), fun h => F.f9 (h.resolve_left (by decide)), fun h => F.f10 (h.resolve_left (by decide)), fun h => F.f11 (h.resolve_left (by decide)), fun h => F.f12 (h.resolve_left (by decide)), fun h => F.f13 (h.resolve_left (by decide)), fun h => F.f14 (h.resolve_left (by decide)), fun h => F.f15 (h.resolve_left (by decide)), fun h => F.f16 (h.resolve_left (by decide)), fun h => F.f17 (h.resolve_left (by decide)), fun h => F.f18 (h.resolve_left (by decide)), fun _ => rfl, fun h => F.f20 (h.resolve_left (by decide)), fun h => F.f21 (h.resolve_left (by decide))⟩⟩
    refine StepsFrom.cons rfl (fun L a w' hI hno hdep hcl K hK => ?_) ?_
    · obtain ⟨v2, v13, v14, v15, v16, v17, v18, v19, v20, v21, v22, v23, v24, v25, v26, v27, v28, v29, v30, v31, v32, v33, ha, F⟩ := hI
      have e29 := F.f16 (hdep 16 (by kernel_rfl))
      have e32 := F.f19 (hdep 19 (by kernel_rfl))
      have hs := HT3.out
      have hz := HY3.out
      subst ha
      simp only [Act.put, List.setIfInBounds_toArray, List.set_cons_zero, List.set_cons_succ, e29, e32]
      go_simp
      exact hK.out _ _ ⟨v2, v13, v14, v15, v16, v17, v18, v19, v20, v21, v22, v23, v24, v25, v26, v27, v28, v29, v30, v31, v32, .string T3, by simp only [Act.put, List.setIfInBounds_toArray, List.set_cons_zero, List.set_cons_succ, e29, e32], ⟨F.bel, F.rb, fun h => F.f0 (h.resolve_left (by decide)), fun h => F.f1 (h.resolve_left (by decide)), fun h => F.f2 (h.resolve_left (by decide)), fun h => F.f3 (h.resolve_left (by decide)), fun h => F.f4 (h.resolve_left (by decide)), fun h => F.f5 (h.resolve_left (by decide)), fun h => F.f6 (h.resolve_left (by decide)), fun h => F.f7 (h.resolve_left (by decide)), fun h => F.f8 (h.resolve_left (by decide)), fun h => F.f9 (h.resolve_left (by decide)), fun h => F.f10 (h.resolve_left (by decide)), fun h => F.f11 (h.resolve_left (by decide)), fun h => F.f12 (h.resolve_left (by decide)), fun h => F.f13 (h.resolve_left (by decide)), fun h => F.f14 (h.resolve_left (by decide)), fun h => F.f15 (h.resolve_left (by decide)), fun h => F.f16 (h.resolve_left (by decide)), fun h => F.f17 (h.resolve_left (by decide)), fun h => F.f18 (h.resolve_left (by decide)), fun h => F.f19 (h.resolve_left (by decide)), fun _ => rfl, fun h => absurd (hcl 21 20 (by kernel_rfl) (h.resolve_left (by decide))) hno⟩⟩
    refine StepsFrom.cons rfl (fun L a w' hI hno hdep hcl K hK => ?_) ?_
    · obtain ⟨v2, v13, v14, v15, v16, v17, v18, v19, v20, v21, v22, v23, v24, v25, v26, v27, v28, v29, v30, v31, v32, v33, ha, F⟩ := hI
      have e33 := F.f20 (hdep 20 (by kernel_rfl))
      subst ha
      simp only [Act.put, List.setIfInBounds_toArray, List.set_cons_zero, List.set_cons_succ, e33]
      go_simp
      exact hK.out _ _ ⟨.string T3, v13, v14, v15, v16, v17, v18, v19, v20, v21, v22, v23, v24, v25, v26, v27, v28, v29, v30, v31, v32, v33, by simp only [Act.put, List.setIfInBounds_toArray, List.set_cons_zero, List.set_cons_succ, e33], ⟨F.bel, F.rb, fun h => F.f0 (h.resolve_left (by decide)), fun h => F.f1 (h.resolve_left (by decide)), fun h => F.f2 (h.resolve_left (by decide)), fun h => F.f3 (h.resolve_left (by decide)), fun h => F.f4 (h.resolve_left (by decide)), fun h => F.f5 (h.resolve_left (by decide)), fun h => F.f6 (h.resolve_left (by decide)), fun h => F.f7 (h.resolve_left (by decide)), fun h => F.f8 (h.resolve_left (by decide)), fun h => F.f9 (h.resolve_left (by decide)), fun h => F.f10 (h.resolve_left (by decide)), fun h => F.f11 (h.resolve_left (by decide)), fun h => F.f12 (h.resolve_left (by decide)), fun h => F.f13 (h.resolve_left (by decide)), fun h => F.f14 (h.resolve_left (by decide)), fun h => F.f15 (h.resolve_left (by decide)), fun h => F.f16 (h.resolve_left (by decide)), fun h => F.f17 (h.resolve_left (by decide)), fun h => F.f18 (h.resolve_left (by decide)), fun h => F.f19 (h.resolve_left (by decide)), fun h => F.f20 (h.resolve_left (by decide)), fun _ => e33.symm⟩⟩
    exact StepsFrom.nil (by decide)
  case fin =>
    rintro L a' w9 ⟨v2, v13, v14, v15, v16, v17, v18, v19, v20, v21, v22, v23, v24, v25, v26, v27, v28, v29, v30, v31, v32, v33, rfl, F⟩ hL
    have e2 := F.f21 (hL 21 (by decide))
    have e33 := F.f20 (hL 20 (by decide))
    have hb := F.bel
    clear F hL
    subst e2 e33
    simp only [Act.put, List.setIfInBounds_toArray, List.set_cons_zero, List.set_cons_succ]
    go_wp2_with fail
    go_ret
    exact ⟨rfl, hb⟩

theorem vt_assoc (wd : ByteArray) (a b c d : List UInt8) : wd ++ sp ++ (⟨a.toArray⟩ : ByteArray) ++ sp ++ ⟨b.toArray⟩ ++ sp ++ ⟨c.toArray⟩ ++ sp ++ ⟨d.toArray⟩ = (wd ++ sp) ++ (⟨(Lib.join [a, b, c, d] [32]).toArray⟩ : ByteArray) := by
  obtain ⟨⟨l⟩⟩ := wd
  have e : ∀ x y : List UInt8, ((⟨x.toArray⟩ : ByteArray) ++ (⟨y.toArray⟩ : ByteArray)) = ⟨(x ++ y).toArray⟩ := fun x y => by
    show ByteArray.append _ _ = _
    simp [ByteArray.append]
  have es : sp = ⟨[32].toArray⟩ := rfl
  rw [es, e, e, e, e, e, e, e, e, e]
  simp [Lib.join]

set_option maxHeartbeats 2000000 in
set_option maxRecDepth 100000 in
theorem vt_i (p q r s : Int) (hp : -9223372036854775808 ≤ p ∧ p ≤ 9223372036854775807) (hq : -9223372036854775808 ≤ q ∧ q ≤ 9223372036854775807) (hrr : -9223372036854775808 ≤ r ∧ r ≤ 9223372036854775807) (hs : -9223372036854775808 ≤ s ∧ s ≤ 9223372036854775807) (w : World) (ht : JoinN.TabOk w) :
    Calls Tryd.prog 7 #[.agg #[.int .i64 p, .int .i64 q, .int .i64 r, .int .i64 s]] w fun e w' => e = .returned (.string (vtext p q r s)) ∧ Below w.heap.size w w' := by
  by_cases hr : r < 0
  · have hd := decide_eq_true hr
    unfold vtext
    rw [if_pos hr]
    go_enter Tryd.func7, Tryd.ntmps7
    go_wp2_with fail
    go_ret
    exact ⟨rfl, by go_grown⟩
  have hd := decide_eq_false hr
  obtain ⟨m, hg, hm⟩ := grd_at (show 0 ≤ r by omega)
  unfold vtext
  rw [if_neg hr, hg, Int.toNat_natCast]
  obtain ⟨wd, hwd⟩ : ∃ x, x = wordOf m := ⟨_, rfl⟩
  have zw : wd.size ≤ 8 := by rw [hwd]; exact word_size m
  rw [← hwd]
  unfold itoB
  rw [vt_assoc]
  obtain ⟨S0, hS0⟩ : ∃ x, wd ++ sp = x := ⟨_, rfl⟩
  have y0 : S0.size = wd.size + 1 := by rw [← hS0, ByteArray.size_append]; rfl
  obtain ⟨J, hJ⟩ : ∃ x : ByteArray, x = ⟨(Lib.join [Lib.itoa p, Lib.itoa q, Lib.itoa r, Lib.itoa s] [32]).toArray⟩ := ⟨_, rfl⟩
  have hJl : (Lib.join ([p, q, r, s].map Lib.itoa) (⟨#[32]⟩ : ByteArray).data.toList).length ≤ 100 := by
    have a1 := ito_size hp.1 hp.2
    have a2 := ito_size hq.1 hq.2
    have a3 := ito_size hrr.1 hrr.2
    have a4 := ito_size hs.1 hs.2
    simp [Lib.join]
    omega
  have HJ : Hid ((⟨(Lib.join ([p, q, r, s].map Lib.itoa) (⟨#[32]⟩ : ByteArray).data.toList).toArray⟩ : ByteArray) = J) := hJ.symm
  have yJ : J.size ≤ 100 := by rw [← HJ.out]; simp only [ByteArray.size, List.size_toArray]; exact hJl
  rw [hS0, ← hJ]
  have hz0 : ¬ 9223372036854775807 < wd.size + 1 := by omega
  have hz1 : ¬ 9223372036854775807 < S0.size + J.size := by omega
  have HS0 : Hid (wd ++ (⟨#[32]⟩ : ByteArray) = S0) := hS0
  have HG := Lib.hid hg
  have hw : ∀ h, ([Value.string ⟨#[103, 111, 111, 100]⟩, Value.string ⟨#[100, 111, 117, 98, 116, 102, 117, 108]⟩, Value.string ⟨#[101, 114, 114, 111, 114]⟩, Value.string ⟨#[98, 108, 117, 110, 100, 101, 114]⟩] : List Value)[m]'h = .string wd := fun h => by
    rw [hwd]
    match m, hm with
    | 0, _ => rfl
    | 1, _ => rfl
    | 2, _ => rfl
    | 3, _ => rfl
  clear hS0 hJ y0 yJ zw hwd hg
  go_enter Tryd.func7, Tryd.ntmps7
  go_wp2_with fail
  refine (grd_impl r _).mono ?_
  rintro e w1 ⟨rfl, rfl⟩
  rw [HG.out]
  go_upto_region 4 with (fail)
  (try simp only [hw])
  clear hw
  have hs0 := HS0.out
  refine wp_gen (fun W' => Below w.heap.size w W' ∧ RowB W' w.heap.size 25 [.int .i64 p, .int .i64 q, .int .i64 r, .int .i64 s]) ⟨by go_grown, (RowB.new _ _ _).alloc _⟩ ?_
  rintro w2 ⟨hbel, hrb⟩
  obtain ⟨c0, c1, c2, c3⟩ := hrb.c4
  have hl := hrb.lt
  go_wp2_with fail
  have rJ : RowB (w2.alloc (.cells #[.int .i64 p, .int .i64 q, .int .i64 r, .int .i64 s] 2)) w2.heap.size 2 (([p, q, r, s] : List Int).flatMap enI) := RowB.new _ _ _
  have oJ := rJ.own enI_len (lo := w2.heap.size) (hi := w2.heap.size + 1) (Nat.le_refl _) (by omega) (by show 4 ≤ maxLen; decide)
  have CJ := JoinN.join (some ⟨w2.heap.size, 0, none⟩) 4 (w2.heap.size + 1) [p, q, r, s] ⟨#[32]⟩ _ (by simp) (oJ.rd enI_len) (by intro x hx; simp at hx; rcases hx with rfl | rfl | rfl | rfl <;> assumption) (by simp) (Nat.le_trans hJl (by decide)) (by simp) ((ht.below hbel).below ((Below.refl _ _).alloc (Nat.le_refl _) _))
  rw [HJ.out] at CJ
  refine CJ.mono ?_
  rintro e w3 ⟨rfl, hb3⟩
  go_wp2_with fail
  go_ret
  exact ⟨rfl, (hbel.alloc hbel.size _).trans (hb3.mono (by rw [World.size_alloc]; have := hbel.size; omega))⟩

set_option maxHeartbeats 1000000 in
set_option maxRecDepth 100000 in
theorem verdictLaw (p q r s : Int) (W : World) (w0 : (Lit.int .i64 p).wf = true) (w1 : (Lit.int .i64 q).wf = true) (w2 : (Lit.int .i64 r).wf = true) (w3 : (Lit.int .i64 s).wf = true) (ht : JoinN.TabOk W) :
    Calls Tryd.prog 3 #[.agg #[.int .i64 p, .int .i64 q, .int .i64 r, .int .i64 s]] W fun e w' => e = .returned (.bool true) ∧ Below W.heap.size W w' := by
  have hp := I64.of_wf w0
  have hq := I64.of_wf w1
  have hr := I64.of_wf w2
  have hs := I64.of_wf w3
  clear w0 w1 w2 w3
  go_enter Tryd.func3, Tryd.ntmps3
  go_wp2_with fail
  refine (VdS.copy1 p q r s _).mono ?_
  rintro e w1 ⟨rfl, hb1⟩
  have rb := RowB.below (RowB.new _ _ _) hb1 (by go_size)
  have t1 : Below W.heap.size W w1 := Below.then_ (by go_grown) hb1 (by go_size)
  have hl := rb.lt
  obtain ⟨c0, c1, c2, c3⟩ := rb.c4
  go_wp2_with fail
  refine (vt_s p q r s hp hq hr hs _).mono ?_
  rintro e w2 ⟨rfl, hb2⟩
  have rb := rb.below hb2 hl
  have t1 := t1.trans (hb2.mono t1.size)
  clear c0 c1 c2 c3 hl
  have hl := rb.lt
  obtain ⟨c0, c1, c2, c3⟩ := rb.c4
  go_wp2_with fail
  refine (VdS.copy1 p q r s _).mono ?_
  rintro e w3 ⟨rfl, hb3⟩
  have t1 := t1.trans (hb3.mono t1.size)
  go_wp2_with fail
  refine (vt_i p q r s hp hq hr hs _ (ht.below t1)).mono ?_
  rintro e w4 ⟨rfl, hb4⟩
  have t1 := t1.trans (hb4.mono t1.size)
  go_wp2_with fail
  go_ret
  exact ⟨rfl, t1⟩
end Go.Proofs.YtahpdboehpicoaaDoor.VText
