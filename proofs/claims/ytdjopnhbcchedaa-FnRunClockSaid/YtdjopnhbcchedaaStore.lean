/-
  A store of a whole struct into a box at a plain region: the world behind it under a new name. Conditions: each theorem's own.
-/
import Derived.Test.YtdjopnhbcchedaaBase
import Derived.Laws.Tables
set_option linter.unusedVariables false
namespace Go.Proofs.Ytdjopnhbcchedaa.Store
open Go Go.RowKit Base
theorem row_set {w : World} {g : Nat} {t : TypeId} {old cs : List Value} (h : RowB w g t old) : RowB (w.setRow g ⟨cs⟩) g t cs := by
  unfold RowB at h ⊢
  simp [World.setRow, Array.getElem?_modify, h]
theorem grown_set (w : World) (g : Nat) (cs : Array Value) : w.grownBy (w.setRow g cs) (some g) :=
  ⟨rfl, rfl, rfl, by simp [World.setRow], fun k _ hk => by
    have : k ≠ g := fun e => hk (by simp [e])
    simp [World.setRow, Array.getElem?_modify, this.symm]⟩
theorem size_set (w : World) (g : Nat) (cs : Array Value) : (w.setRow g cs).heap.size = w.heap.size := by simp [World.setRow]
theorem wpL_st {P : Program} {ops : Array Oper} {rest : List Oper} {o : Oper} {a : Act} {w : World} {Q : Exit → Act → World → Prop} (ty : TypeId) (x y : Operand) (ho : o = { dst := none, op := .store ty x y, type := o.type, pos := o.pos, after := o.after, guard := none })
    (g : Nat) (cs old : List Value) (hx : a.eval x = .pointer (some ⟨g, 0, none⟩)) (hy : a.eval y = .agg ⟨cs⟩)
    (t : TypeId) (hg : RowB w g t old) (hi : (P.info? ty).map (·.size) = some cs.length) (hold : old.length = cs.length) (h1 : cs.all (·.oneCell') = true)
    (h : ∀ w', RowB w' g t cs → w.grownBy w' (some g) → w'.heap.size = w.heap.size → wpList P ops Q rest a w') : wpList P ops Q (o :: rest) a w := by
  refine wpList_store_row (by rw [ho]) ty x y (by rw [ho]) g ⟨cs⟩ hx hy t ⟨old⟩ hg (by simpa using hi) (by simpa using hold) (by simpa [Array.all_toList] using h1) ?_
  rw [show o.dst = none from by rw [ho]]
  exact h _ (row_set hg) (grown_set _ _ _) (size_set _ _ _)
end Go.Proofs.Ytdjopnhbcchedaa.Store
