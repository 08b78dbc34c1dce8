/-
  l01Number of the reference. Conditions: each theorem's own.
-/
import Derived.Test.YtlfdcefgelpgmaaGreatDoorBase2
import Derived.Test.YtlfdcefgelpgmaaGreatDoorInv
import Derived.Test.YtlfdcefgelpgmaaGreatDoorInts
import Derived.Test.YtlfdcefgelpgmaaGreatDoorShelf
import Derived.Laws.IdiomStrings
import Derived.WalkKit
import Derived.Deep.QuietTactic
import Derived.Deep.RegionHeld3
set_option linter.unusedVariables false
namespace Go.Proofs.YtlfdcefgelpgmaaGreatDoor.TsN
open Go.ChangeShapes Go.WideShapes Go.ChangeAt Go.RowKit Base Base2 Ints RegInv

theorem tdiv_nat (n m : Nat) : Int.tdiv (n : Int) (m : Int) = ((n / m : Nat) : Int) := by rw [Int.tdiv_eq_ediv_of_nonneg (by omega)]; omega
theorem tmod_nat (n m : Nat) : Int.tmod (n : Int) (m : Int) = ((n % m : Nat) : Int) := by rw [Int.tmod_eq_emod_of_nonneg (by omega)]; omega
theorem u8_in (x : Int) (h : 0 ≤ x ∧ x < 256) : IntKind.u8.wrap x = x := by
  show x % 2 ^ 8 = x
  omega
theorem conv1 (W : World) (b m : Nat) (t : ByteArray) (ht : t = ⟨#[UInt8.ofNat m]⟩) (hm : m < 256) (hR : RowB W b 5 [.int .u8 (m : Int)]) : (convert 22 9 (.slice (some ⟨b, 0, none⟩) 1 1)).run Tryz.prog W = .ok (.string t) W := by
  subst ht
  refine run_convert_bytes_back W 22 9 5 ⟨b, 0, none⟩ 1 [UInt8.ofNat m] Tryz.underlying22 Tryz.underlying5 Tryz.underlying9 ?_
  intro j hj
  have hj0 : j = 0 := by simpa using hj
  subst hj0
  have h1 : W.cell? ⟨b, 0, none⟩ = some (.int .u8 (m : Int)) := hR.cell 0
  have h2 : (UInt8.ofNat m).toNat = m := by simp; omega
  simpa [Addr.add, h2] using h1
theorem dd_len (n : Nat) : (Lib.decDigits n).length ≤ n + 1 := by
  induction n using Nat.strongRecOn with
  | _ n ih =>
  rw [Lib.decDigits]
  split
  · simp
  · have := ih (n / 10) (by omega)
    rw [List.length_append]
    simp only [List.length_cons, List.length_nil]
    omega
theorem app_str (a b : List UInt8) : ((⟨a.toArray⟩ : ByteArray) ++ (⟨b.toArray⟩ : ByteArray)) = ⟨(a ++ b).toArray⟩ := by
  show ByteArray.append _ _ = _
  simp [ByteArray.append]
structure NmF (w : World) (n q m c : Nat) (s t : ByteArray) (L : Nat → Prop) (v2 v10 v11 v12 v13 v14 v15 v16 v17 v18 v19 : Value) (w' : World) : Prop where
  bel : Below w.heap.size w w'
  f0 : L 0 → v10 = .int .i64 (n : Int)
  f1 : L 1 → v11 = .int .i64 (q : Int)
  f2 : L 2 → v12 = .string s
  f3 : L 3 → v13 = .int .i64 (n : Int)
  f4 : L 4 → v14 = .int .i64 (m : Int)
  f5 : L 5 → v15 = .int .i64 (c : Int)
  f6 : L 6 → v16 = .int .u8 (c : Int)
  f7 : L 7 → ∃ bk, v17 = .slice (some ⟨bk, 0, none⟩) 1 1 ∧ RowB w' bk 5 [.int .u8 (c : Int)]
  f8 : L 8 → v18 = .string t
  f9 : L 9 → v19 = .string (s ++ t)
  f10 : L 10 → v2 = v19

set_option maxHeartbeats 1000000 in
set_option maxRecDepth 100000 in
theorem num (n : Nat) : n < 1000000000000000000 → ∀ w : World,
    Calls Tryz.prog 48 #[.int .i64 (n : Int)] w fun e w' => e = .returned (.string ⟨(Lib.decDigits n).toArray⟩) ∧ Below w.heap.size w w' := by
  induction n using Nat.strongRecOn with
  | _ n IH =>
  intro hn w
  by_cases h : n < 10
  · have h1 : decide ((n : Int) < 10) = true := decide_eq_true (by omega)
    rw [Lib.decDigits_one h]
    obtain ⟨c, hc⟩ : ∃ c, 48 + n = c := ⟨_, rfl⟩
    rw [hc]
    have hc2 : c < 256 := by omega
    have e0 : (48 : Int) + (n : Int) = (c : Int) := by omega
    obtain ⟨t, ht⟩ : ∃ t : ByteArray, t = ⟨#[UInt8.ofNat c]⟩ := ⟨_, rfl⟩
    have qc := conv1 (w.alloc (.cells #[.int .u8 (c : Int)] 5)) w.heap.size c t ht hc2 (RowB.new _ _ _)
    rw [show (⟨[UInt8.ofNat c].toArray⟩ : ByteArray) = t from ht.symm]
    clear hc ht
    go_enter Tryz.func48, Tryz.ntmps48
    go_wp2_with fail
    go_ret
    exact ⟨rfl, by go_grown⟩
  · have h1 : decide ((n : Int) < 10) = false := decide_eq_false (by omega)
    have hd : Lib.decDigits n = Lib.decDigits (n / 10) ++ [UInt8.ofNat (48 + n % 10)] := by rw [Lib.decDigits, dif_neg h]
    rw [hd, ← app_str]
    clear hd
    have hm : n % 10 < 10 := Nat.mod_lt _ (by decide)
    replace IH := IH (n / 10) (by omega) (by omega)
    obtain ⟨s, hs⟩ : ∃ s : ByteArray, s = ⟨(Lib.decDigits (n / 10)).toArray⟩ := ⟨_, rfl⟩
    obtain ⟨t, ht⟩ : ∃ t : ByteArray, t = ⟨#[UInt8.ofNat (48 + n % 10)]⟩ := ⟨_, rfl⟩
    rw [← hs] at IH ⊢
    rw [show (⟨[UInt8.ofNat (48 + n % 10)].toArray⟩ : ByteArray) = t from ht.symm]
    have HC := Lib.hid (fun W b hR => conv1 W b (48 + n % 10) t ht (by omega) hR)
    have HSZ : Hid (¬ 9223372036854775807 < s.size + t.size) := by
      show ¬ _
      have h1 : s.size = (Lib.decDigits (n / 10)).length := by rw [hs]; simp [ByteArray.size]
      have h2 : t.size = 1 := by rw [ht]; rfl
      have := dd_len (n / 10)
      omega
    have EQ : Hid (IntKind.i64.wrap ((n : Int) / 10) = ((n / 10 : Nat) : Int)) := by show _ = _; rw [IntWalk.i64_in _ (by omega)]; omega
    have EM : Hid (((n : Int)).tmod 10 = ((n % 10 : Nat) : Int)) := tmod_nat n 10
    have EC : Hid (IntKind.i64.wrap (48 + ((n % 10 : Nat) : Int)) = ((48 + n % 10 : Nat) : Int)) := by show _ = _; rw [IntWalk.i64_in _ (by omega)]; omega
    have EU : Hid (IntKind.u8.wrap ((48 + n % 10 : Nat) : Int) = ((48 + n % 10 : Nat) : Int)) := u8_in _ (by omega)
    generalize 48 + n % 10 = c at *
    generalize n % 10 = m at *
    generalize n / 10 = q at *
    clear hs ht hm
    go_enter Tryz.func48, Tryz.ntmps48
    go_wp2_with fail
    refine region_inv (fun a0 L a w' => ∃ v2 v10 v11 v12 v13 v14 v15 v16 v17 v18 v19 : Value, a = (((((((((((a0.put (some 2) v2).put (some 10) v10).put (some 11) v11).put (some 12) v12).put (some 13) v13).put (some 14) v14).put (some 15) v15).put (some 16) v16).put (some 17) v17).put (some 18) v18).put (some 19) v19) ∧ NmF w n q m c s t L v2 v10 v11 v12 v13 v14 v15 v16 v17 v18 v19 w') (by kernel_rfl) (by kernel_rfl) ?h0 ?hst ?fin
    case h0 =>
      exact ⟨_, _, _, _, _, _, _, _, _, _, _, by simp only [Act.put, List.setIfInBounds_toArray, List.set_cons_zero, List.set_cons_succ]; exact rfl, ⟨(Below.refl _ _).drew, fun h => (h : False).elim, fun h => (h : False).elim, fun h => (h : False).elim, fun h => (h : False).elim, fun h => (h : False).elim, fun h => (h : False).elim, fun h => (h : False).elim, fun h => (h : False).elim, fun h => (h : False).elim, fun h => (h : False).elim, fun h => (h : False).elim⟩⟩
    case hst =>
      refine StepsFrom.cons rfl (fun L a w' hI hno hdep hcl K hK => ?_) ?_
      · obtain ⟨v2, v10, v11, v12, v13, v14, v15, v16, v17, v18, v19, ha, F⟩ := hI
        subst ha
        simp only [Act.put, List.setIfInBounds_toArray, List.set_cons_zero, List.set_cons_succ]
        go_simp
        exact hK.out _ _ ⟨v2, _, v11, v12, v13, v14, v15, v16, v17, v18, v19, by simp only [Act.put, List.setIfInBounds_toArray, List.set_cons_zero, List.set_cons_succ], ⟨F.bel, fun _ => rfl, fun h => F.f1 (h.resolve_left (by decide)), fun h => F.f2 (h.resolve_left (by decide)), fun h => F.f3 (h.resolve_left (by decide)), fun h => F.f4 (h.resolve_left (by decide)), fun h => F.f5 (h.resolve_left (by decide)), fun h => F.f6 (h.resolve_left (by decide)), fun h => F.f7 (h.resolve_left (by decide)), fun h => F.f8 (h.resolve_left (by decide)), fun h => F.f9 (h.resolve_left (by decide)), fun h => F.f10 (h.resolve_left (by decide))⟩⟩
      refine StepsFrom.cons rfl (fun L a w' hI hno hdep hcl K hK => ?_) ?_
      · obtain ⟨v2, v10, v11, v12, v13, v14, v15, v16, v17, v18, v19, ha, F⟩ := hI
        have e10 := F.f0 (hdep 0 (by kernel_rfl))
        have ed := EQ.out
        subst ha
        simp only [Act.put, List.setIfInBounds_toArray, List.set_cons_zero, List.set_cons_succ, e10]
        go_simp
        exact hK.out _ _ ⟨v2, v10, _, v12, v13, v14, v15, v16, v17, v18, v19, by simp only [Act.put, List.setIfInBounds_toArray, List.set_cons_zero, List.set_cons_succ, e10], ⟨F.bel, fun h => F.f0 (h.resolve_left (by decide)), fun _ => rfl, fun h => F.f2 (h.resolve_left (by decide)), fun h => F.f3 (h.resolve_left (by decide)), fun h => F.f4 (h.resolve_left (by decide)), fun h => F.f5 (h.resolve_left (by decide)), fun h => F.f6 (h.resolve_left (by decide)), fun h => F.f7 (h.resolve_left (by decide)), fun h => F.f8 (h.resolve_left (by decide)), fun h => F.f9 (h.resolve_left (by decide)), fun h => F.f10 (h.resolve_left (by decide))⟩⟩
      refine StepsFrom.cons rfl (fun L a w' hI hno hdep hcl K hK => ?_) ?_
      · obtain ⟨v2, v10, v11, v12, v13, v14, v15, v16, v17, v18, v19, ha, F⟩ := hI
        have e11 := F.f1 (hdep 1 (by kernel_rfl))
        subst ha
        simp only [Act.put, List.setIfInBounds_toArray, List.set_cons_zero, List.set_cons_succ, e11]
        go_simp
        refine (IH w').mono ?_
        rintro e w2 ⟨rfl, hb⟩
        exact hK.out _ _ ⟨v2, v10, v11, _, v13, v14, v15, v16, v17, v18, v19, by simp only [Act.put, List.setIfInBounds_toArray, List.set_cons_zero, List.set_cons_succ, e11], ⟨F.bel.trans (hb.mono F.bel.size), fun h => F.f0 (h.resolve_left (by decide)), fun h => F.f1 (h.resolve_left (by decide)), fun _ => rfl, fun h => F.f3 (h.resolve_left (by decide)), fun h => F.f4 (h.resolve_left (by decide)), fun h => F.f5 (h.resolve_left (by decide)), fun h => F.f6 (h.resolve_left (by decide)), fun h => by obtain ⟨bk, h1, h2⟩ := F.f7 (h.resolve_left (by decide)); exact ⟨bk, h1, h2.below hb h2.lt⟩, fun h => F.f8 (h.resolve_left (by decide)), fun h => F.f9 (h.resolve_left (by decide)), fun h => F.f10 (h.resolve_left (by decide))⟩⟩
      refine StepsFrom.cons rfl (fun L a w' hI hno hdep hcl K hK => ?_) ?_
      · obtain ⟨v2, v10, v11, v12, v13, v14, v15, v16, v17, v18, v19, ha, F⟩ := hI
        subst ha
        simp only [Act.put, List.setIfInBounds_toArray, List.set_cons_zero, List.set_cons_succ]
        go_simp
        exact hK.out _ _ ⟨v2, v10, v11, v12, _, v14, v15, v16, v17, v18, v19, by simp only [Act.put, List.setIfInBounds_toArray, List.set_cons_zero, List.set_cons_succ], ⟨F.bel, fun h => F.f0 (h.resolve_left (by decide)), fun h => F.f1 (h.resolve_left (by decide)), fun h => F.f2 (h.resolve_left (by decide)), fun _ => rfl, fun h => F.f4 (h.resolve_left (by decide)), fun h => F.f5 (h.resolve_left (by decide)), fun h => F.f6 (h.resolve_left (by decide)), fun h => F.f7 (h.resolve_left (by decide)), fun h => F.f8 (h.resolve_left (by decide)), fun h => F.f9 (h.resolve_left (by decide)), fun h => F.f10 (h.resolve_left (by decide))⟩⟩
      refine StepsFrom.cons rfl (fun L a w' hI hno hdep hcl K hK => ?_) ?_
      · obtain ⟨v2, v10, v11, v12, v13, v14, v15, v16, v17, v18, v19, ha, F⟩ := hI
        have e13 := F.f3 (hdep 3 (by kernel_rfl))
        have ed := EM.out
        subst ha
        simp only [Act.put, List.setIfInBounds_toArray, List.set_cons_zero, List.set_cons_succ, e13]
        go_simp
        exact hK.out _ _ ⟨v2, v10, v11, v12, v13, _, v15, v16, v17, v18, v19, by simp only [Act.put, List.setIfInBounds_toArray, List.set_cons_zero, List.set_cons_succ, e13], ⟨F.bel, fun h => F.f0 (h.resolve_left (by decide)), fun h => F.f1 (h.resolve_left (by decide)), fun h => F.f2 (h.resolve_left (by decide)), fun h => F.f3 (h.resolve_left (by decide)), fun _ => rfl, fun h => F.f5 (h.resolve_left (by decide)), fun h => F.f6 (h.resolve_left (by decide)), fun h => F.f7 (h.resolve_left (by decide)), fun h => F.f8 (h.resolve_left (by decide)), fun h => F.f9 (h.resolve_left (by decide)), fun h => F.f10 (h.resolve_left (by decide))⟩⟩
      refine StepsFrom.cons rfl (fun L a w' hI hno hdep hcl K hK => ?_) ?_
      · obtain ⟨v2, v10, v11, v12, v13, v14, v15, v16, v17, v18, v19, ha, F⟩ := hI
        have e14 := F.f4 (hdep 4 (by kernel_rfl))
        have ed := EC.out
        subst ha
        simp only [Act.put, List.setIfInBounds_toArray, List.set_cons_zero, List.set_cons_succ, e14]
        go_simp
        exact hK.out _ _ ⟨v2, v10, v11, v12, v13, v14, _, v16, v17, v18, v19, by simp only [Act.put, List.setIfInBounds_toArray, List.set_cons_zero, List.set_cons_succ, e14], ⟨F.bel, fun h => F.f0 (h.resolve_left (by decide)), fun h => F.f1 (h.resolve_left (by decide)), fun h => F.f2 (h.resolve_left (by decide)), fun h => F.f3 (h.resolve_left (by decide)), fun h => F.f4 (h.resolve_left (by decide)), fun _ => rfl, fun h => F.f6 (h.resolve_left (by decide)), fun h => F.f7 (h.resolve_left (by decide)), fun h => F.f8 (h.resolve_left (by decide)), fun h => F.f9 (h.resolve_left (by decide)), fun h => F.f10 (h.resolve_left (by decide))⟩⟩
      refine StepsFrom.cons rfl (fun L a w' hI hno hdep hcl K hK => ?_) ?_
      · obtain ⟨v2, v10, v11, v12, v13, v14, v15, v16, v17, v18, v19, ha, F⟩ := hI
        have e15 := F.f5 (hdep 5 (by kernel_rfl))
        have ed := EU.out
        subst ha
        simp only [Act.put, List.setIfInBounds_toArray, List.set_cons_zero, List.set_cons_succ, e15]
        go_simp
        exact hK.out _ _ ⟨v2, v10, v11, v12, v13, v14, v15, _, v17, v18, v19, by simp only [Act.put, List.setIfInBounds_toArray, List.set_cons_zero, List.set_cons_succ, e15], ⟨F.bel, fun h => F.f0 (h.resolve_left (by decide)), fun h => F.f1 (h.resolve_left (by decide)), fun h => F.f2 (h.resolve_left (by decide)), fun h => F.f3 (h.resolve_left (by decide)), fun h => F.f4 (h.resolve_left (by decide)), fun h => F.f5 (h.resolve_left (by decide)), fun _ => rfl, fun h => F.f7 (h.resolve_left (by decide)), fun h => F.f8 (h.resolve_left (by decide)), fun h => F.f9 (h.resolve_left (by decide)), fun h => F.f10 (h.resolve_left (by decide))⟩⟩
      refine StepsFrom.cons rfl (fun L a w' hI hno hdep hcl K hK => ?_) ?_
      · obtain ⟨v2, v10, v11, v12, v13, v14, v15, v16, v17, v18, v19, ha, F⟩ := hI
        have e16 := F.f6 (hdep 6 (by kernel_rfl))
        subst ha
        simp only [Act.put, List.setIfInBounds_toArray, List.set_cons_zero, List.set_cons_succ, e16]
        go_simp
        exact hK.out _ _ ⟨v2, v10, v11, v12, v13, v14, v15, v16, .slice (some ⟨w'.heap.size, 0, none⟩) 1 1, v18, v19, by simp only [Act.put, List.setIfInBounds_toArray, List.set_cons_zero, List.set_cons_succ, e16], ⟨F.bel.alloc F.bel.size _, fun h => F.f0 (h.resolve_left (by decide)), fun h => F.f1 (h.resolve_left (by decide)), fun h => F.f2 (h.resolve_left (by decide)), fun h => F.f3 (h.resolve_left (by decide)), fun h => F.f4 (h.resolve_left (by decide)), fun h => F.f5 (h.resolve_left (by decide)), fun h => F.f6 (h.resolve_left (by decide)), fun _ => ⟨_, rfl, RowB.new _ _ _⟩, fun h => absurd (hcl 8 7 (by kernel_rfl) (h.resolve_left (by decide))) hno, fun h => F.f9 (h.resolve_left (by decide)), fun h => F.f10 (h.resolve_left (by decide))⟩⟩
      refine StepsFrom.cons rfl (fun L a w' hI hno hdep hcl K hK => ?_) ?_
      · obtain ⟨v2, v10, v11, v12, v13, v14, v15, v16, v17, v18, v19, ha, F⟩ := hI
        obtain ⟨bk, e17, h2⟩ := F.f7 (hdep 7 (by kernel_rfl))
        have qc := HC.out w' bk h2
        subst ha
        simp only [Act.put, List.setIfInBounds_toArray, List.set_cons_zero, List.set_cons_succ, e17]
        go_simp
        exact hK.out _ _ ⟨v2, v10, v11, v12, v13, v14, v15, v16, v17, _, v19, by simp only [Act.put, List.setIfInBounds_toArray, List.set_cons_zero, List.set_cons_succ, e17], ⟨F.bel, fun h => F.f0 (h.resolve_left (by decide)), fun h => F.f1 (h.resolve_left (by decide)), fun h => F.f2 (h.resolve_left (by decide)), fun h => F.f3 (h.resolve_left (by decide)), fun h => F.f4 (h.resolve_left (by decide)), fun h => F.f5 (h.resolve_left (by decide)), fun h => F.f6 (h.resolve_left (by decide)), fun h => F.f7 (h.resolve_left (by decide)), fun _ => rfl, fun h => F.f9 (h.resolve_left (by decide)), fun h => F.f10 (h.resolve_left (by decide))⟩⟩
      refine StepsFrom.cons rfl (fun L a w' hI hno hdep hcl K hK => ?_) ?_
      · obtain ⟨v2, v10, v11, v12, v13, v14, v15, v16, v17, v18, v19, ha, F⟩ := hI
        have e12 := F.f2 (hdep 2 (by kernel_rfl))
        have e18 := F.f8 (hdep 8 (by kernel_rfl))
        have hsz := HSZ.out
        subst ha
        simp only [Act.put, List.setIfInBounds_toArray, List.set_cons_zero, List.set_cons_succ, e12, e18]
        go_simp
        exact hK.out _ _ ⟨v2, v10, v11, v12, v13, v14, v15, v16, v17, v18, _, by simp only [Act.put, List.setIfInBounds_toArray, List.set_cons_zero, List.set_cons_succ, e12, e18], ⟨F.bel, fun h => F.f0 (h.resolve_left (by decide)), fun h => F.f1 (h.resolve_left (by decide)), fun h => F.f2 (h.resolve_left (by decide)), fun h => F.f3 (h.resolve_left (by decide)), fun h => F.f4 (h.resolve_left (by decide)), fun h => F.f5 (h.resolve_left (by decide)), fun h => F.f6 (h.resolve_left (by decide)), fun h => F.f7 (h.resolve_left (by decide)), fun h => F.f8 (h.resolve_left (by decide)), fun _ => rfl, fun h => absurd (hcl 10 9 (by kernel_rfl) (h.resolve_left (by decide))) hno⟩⟩
      refine StepsFrom.cons rfl (fun L a w' hI hno hdep hcl K hK => ?_) ?_
      · obtain ⟨v2, v10, v11, v12, v13, v14, v15, v16, v17, v18, v19, ha, F⟩ := hI
        have e19 := F.f9 (hdep 9 (by kernel_rfl))
        subst ha
        simp only [Act.put, List.setIfInBounds_toArray, List.set_cons_zero, List.set_cons_succ, e19]
        go_simp
        exact hK.out _ _ ⟨.string (s ++ t), v10, v11, v12, v13, v14, v15, v16, v17, v18, v19, by simp only [Act.put, List.setIfInBounds_toArray, List.set_cons_zero, List.set_cons_succ, e19], ⟨F.bel, fun h => F.f0 (h.resolve_left (by decide)), fun h => F.f1 (h.resolve_left (by decide)), fun h => F.f2 (h.resolve_left (by decide)), fun h => F.f3 (h.resolve_left (by decide)), fun h => F.f4 (h.resolve_left (by decide)), fun h => F.f5 (h.resolve_left (by decide)), fun h => F.f6 (h.resolve_left (by decide)), fun h => F.f7 (h.resolve_left (by decide)), fun h => F.f8 (h.resolve_left (by decide)), fun h => F.f9 (h.resolve_left (by decide)), fun _ => e19.symm⟩⟩
      exact StepsFrom.nil (by decide)
    case fin =>
      rintro L a' w9 ⟨v2, v10, v11, v12, v13, v14, v15, v16, v17, v18, v19, rfl, F⟩ hL
      have e2 := F.f10 (hL 10 (by decide))
      have e19 := F.f9 (hL 9 (by decide))
      have hb := F.bel
      clear F hL
      subst e2 e19
      simp only [Act.put, List.setIfInBounds_toArray, List.set_cons_zero, List.set_cons_succ]
      go_wp2_with fail
      go_ret
      exact ⟨rfl, hb⟩
end Go.Proofs.YtlfdcefgelpgmaaGreatDoor.TsN
