/-
  slices.Clone and its twins on []int64: a copy of the call's own. Conditions: each theorem's own.
-/
import Derived.Test.YtjmckpaemmjcmaaOwn
import Derived.Test.YtjmckpaemmjcmaaInts
import Derived.Laws.AppendOwnNone
set_option linter.unusedVariables false
namespace Go.Proofs.Ytjmckpaemmjcmaa.Clone
open Go.ChangeShapes Go.WideShapes Go.ChangeAt Go.RowKit Base Ints Own

theorem news_rd {w : World} {B : Nat} {ad : Addr} {xs : List Int} (h : RdS w B 1 enI (some ad) xs) : ∀ j u, (xs.flatMap enI)[j]? = some u → w.cell? (ad.add j) = some u := by
  intro j u hu
  have hj : j < (xs.flatMap enI).length := (List.getElem?_eq_some_iff.1 hu).1
  rw [flatMap_len enI_len, Nat.mul_one] at hj
  obtain ⟨b, off, he, _, hc⟩ := h.2 (by omega)
  simp only [Option.some.injEq] at he
  subst he
  have hx : xs[j]? = some xs[j] := List.getElem?_eq_getElem hj
  have h1 := flatMap_at enI_len xs j _ hx 0 _ rfl
  rw [Nat.mul_one, Nat.add_zero, hu] at h1
  have h2 := hc j _ hx 0 _ rfl
  rw [← h1, Nat.mul_one, Nat.add_zero] at h2
  have hadd : (⟨b, off, none⟩ : Addr).add j = ⟨b, off + j, none⟩ := by unfold Addr.add; split <;> simp_all
  rw [hadd]; exact h2
theorem rd_none {w : World} {B : Nat} {xs : List Int} (h : RdS w B 1 enI none xs) : xs = [] := by
  cases xs with
  | nil => rfl
  | cons x xs => obtain ⟨b, off, he, _⟩ := h.2 (by simp); cases he
theorem one_Is (xs : List Int) : ∀ u ∈ xs.flatMap enI, u.oneCell' = true := by
  intro u hu
  obtain ⟨y, _, hy⟩ := List.mem_flatMap.1 hu
  exact one_I y u hy



end Go.Proofs.Ytjmckpaemmjcmaa.Clone
