/-
  The library's functions on strings, told over lists of bytes. Conditions: each theorem's own.
-/
import Derived.Test.YtlfdcefgelpgmaaGreatDoorTxI
set_option linter.unusedVariables false
set_option linter.unusedSimpArgs false
namespace Go.Proofs.YtlfdcefgelpgmaaGreatDoor.TxI
open Go.ChangeShapes Go.WideShapes Go.ChangeAt Go.RowKit Base Ints JoinN PlP TxP Num Bd1

theorem cut_w (l sep : By) (hl : l.length ≤ 4194304) (w : World) (E : Env w) : Calls Tryz.prog 50 #[.string (bs l), .string (bs sep)] w fun e w' =>
    e = .returned (.tuple #[.string (bs (Lib.cut l sep).1), .string (bs (Lib.cut l sep).2.1), .bool (Lib.cut l sep).2.2]) ∧ Below w.heap.size w w' := by
  refine (Tryz.strings_Cut_shaped (bs l) (bs sep) w E.shp (by rw [bs_size]; omega)).mono ?_
  rintro e w' ⟨rfl, n, rfl⟩
  exact ⟨rfl, below_drewN (Below.refl _ _) _⟩
theorem cpre_w (l p : By) (w : World) : Calls Tryz.prog 131 #[.string (bs l), .string (bs p)] w fun e w' => e = .returned (.tuple #[.string (bs (Lib.trimPrefix l p)), .bool (Lib.hasPrefix l p)]) ∧ w = w' := by
  refine (Tryz.strings_CutPrefix (bs l) (bs p) w).mono ?_
  rintro e w' ⟨rfl, rfl⟩
  exact ⟨rfl, rfl⟩
theorem csuf_w (l p : By) (hl : l.length ≤ 4194304) (w : World) : Calls Tryz.prog 133 #[.string (bs l), .string (bs p)] w fun e w' => e = .returned (.tuple #[.string (bs (Lib.trimSuffix l p)), .bool (Lib.hasSuffix l p)]) ∧ w = w' := by
  refine (Tryz.strings_CutSuffix (bs l) (bs p) w (by rw [bs_size]; omega)).mono ?_
  rintro e w' ⟨rfl, rfl⟩
  exact ⟨rfl, rfl⟩
theorem tpre_w (l p : By) (w : World) : Calls Tryz.prog 76 #[.string (bs l), .string (bs p)] w fun e w' => e = .returned (.string (bs (Lib.trimPrefix l p))) ∧ w = w' := by
  refine (Tryz.strings_TrimPrefix (bs l) (bs p) w).mono ?_
  rintro e w' ⟨rfl, rfl⟩
  exact ⟨rfl, rfl⟩
theorem tsuf_w (l p : By) (hl : l.length ≤ 4194304) (w : World) : Calls Tryz.prog 132 #[.string (bs l), .string (bs p)] w fun e w' => e = .returned (.string (bs (Lib.trimSuffix l p))) ∧ w = w' := by
  refine (Tryz.strings_TrimSuffix (bs l) (bs p) w (by rw [bs_size]; omega)).mono ?_
  rintro e w' ⟨rfl, rfl⟩
  exact ⟨rfl, rfl⟩
theorem rdd_w (l : By) (hl : l.length ≤ 4194304) (w : World) (E : Env w) : Calls Tryz.prog 53 #[.string (bs l)] w fun e w' => e = .returned (.tuple #[.int .i64 (rdDec l).1, .bool (rdDec l).2]) ∧ Below w.heap.size w w' :=
  readD (bs l) (by rw [bs_size]; omega) w E
theorem trp_len (l p : By) : (Lib.trimPrefix l p).length ≤ l.length := by
  unfold Lib.trimPrefix
  split
  · simp
  · exact Nat.le_refl _
theorem trs_len (l p : By) : (Lib.trimSuffix l p).length ≤ l.length := by
  unfold Lib.trimSuffix
  split
  · rw [List.length_take]; omega
  · exact Nat.le_refl _
theorem rd_bd (l : By) : -9223372036854775808 ≤ (rdDec l).1 ∧ (rdDec l).1 ≤ 9223372036854775807 := by
  unfold rdDec
  split
  · exact ⟨by decide, by decide⟩
  · split
    · rename_i v hv
      have := Lib.parseIntB_bounds hv
      have h63 : ((2 ^ (64 - 1) : Nat) : Int) = 9223372036854775808 := by decide
      rw [h63] at this
      split
      · simp only; omega
      · exact ⟨by decide, by decide⟩
    · exact ⟨by decide, by decide⟩
theorem spB (c : UInt8) (l : By) : (Lib.splitB (bs [c]) 0 (Lib.countB (bs l) (bs [c])) (bs l)) = (spl c l).map bs ∧ Lib.countB (bs l) (bs [c]) + 1 = (spl c l).length := by
  have h1 := Lib.splitB_data (bs [c]) 0 (Lib.countB (bs l) (bs [c])) (bs l)
  have h2 := split_spl c l.length l (Nat.le_refl _)
  have h3 : (Lib.splitB (bs [c]) 0 (Lib.countB (bs l) (bs [c])) (bs l)).map (·.data.toList) = spl c l := by rw [h1, ← h2]; rfl
  refine ⟨?_, ?_⟩
  · rw [← h3, List.map_map]
    have : (bs ∘ fun x : ByteArray => x.data.toList) = id := funext fun x => bs_of x
    rw [this, List.map_id]
  · rw [← h3, List.length_map, Lib.splitB_all (bs [c]) (by rw [bs_size]; exact Nat.le_refl _) 0 _ (bs l) rfl]
def enBs (x : By) : List Value := [.string (bs x)]
/-- strings.Split at one byte: the pieces in a block of the call's own. -/
theorem split_w (l : By) (c : UInt8) (hl : l.length ≤ 4194304) (w : World) (E : Env w) : Calls Tryz.prog 73 #[.string (bs l), .string (bs [c])] w fun e w' =>
    ∃ A cp, e = .returned (.slice A (spl c l).length cp) ∧ RdS w' w'.heap.size 1 enBs A (spl c l) ∧ Below w.heap.size w w' := by
  refine (Tryz.strings_Split_shaped (bs l) (bs [c]) w E.shp (by rw [bs_size]; omega) (by rw [bs_size]; exact Nat.le_refl _)).mono ?_
  rintro e w' ⟨rfl, rfl⟩
  obtain ⟨h1, h2⟩ := spB c l
  have hsl := spl_len c l
  rw [h1, h2]
  refine ⟨_, _, rfl, ⟨by unfold maxLen; omega, fun _ => ⟨w.heap.size, 0, rfl, by simp, fun i x hx j u hu => ?_⟩⟩, (Below.refl _ _).alloc (Nat.le_refl _) _⟩
  have hj : j = 0 := by
    have := (List.getElem?_eq_some_iff.1 hu).1
    simpa [enBs] using this
  subst hj
  simp only [enBs, List.getElem?_cons_zero, Option.some.injEq] at hu
  subst hu
  rw [Nat.mul_one, Nat.add_zero, Nat.zero_add]
  rw [World.cell?_alloc_at _ _ _ _ rfl, List.getElem?_toArray, List.getElem?_map, List.getElem?_map, hx]
  rfl
theorem rdBs_at {w : World} {B : Nat} {A : Option Addr} {xs : List By} (h : RdS w B 1 enBs A xs) {i : Nat} (hi : i < xs.length) :
    ∃ b off x, A = some ⟨b, off, none⟩ ∧ b < B ∧ xs[i]? = some x ∧ w.cell? ⟨b, off + i, none⟩ = some (.string (bs x)) := by
  obtain ⟨b, off, x, e, hb, hx, hc⟩ := h.at_ hi
  exact ⟨b, off, x, e, hb, hx, by simpa using hc 0 _ rfl⟩
end Go.Proofs.YtlfdcefgelpgmaaGreatDoor.TxI
