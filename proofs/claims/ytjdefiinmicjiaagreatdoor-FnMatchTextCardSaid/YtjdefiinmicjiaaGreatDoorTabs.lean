/-
  Tables listed in a row, wherever they stand on the list. Conditions: each theorem's own.
-/
import Derived.Lib.LaidTab
import Derived.Test.YtjdefiinmicjiaaGreatDoorRows
set_option linter.unusedVariables false
namespace Go.Proofs.YtjdefiinmicjiaaGreatDoor.Tabs
open Go Go.Lib
theorem laid_at {P : Program} {w : World} : ∀ (laid : List (String × DataW Unit)) (ps : List MemPlace) (i : Nat) (name : String) (d : DataW Unit), laid[i]? = some (name, d) → DataW.LaidVars P w laid ps →
    ∃ g t cs fuel p, P.globalNamed name = some g ∧ (P.globals[g]?).map (·.type) = some t ∧ w.var? P name = some cs ∧ DataW.trod (fun _ => ()) P w 0 (fun _ => true) false fuel t cs.toList = some (d, p) := by
  intro laid
  induction laid with
  | nil => intro ps i name d h; simp at h
  | cons x r ih =>
    intro ps i name d h hv
    obtain ⟨n, d'⟩ := x
    obtain ⟨g, t, cs, fuel, p, q, h1, h2, h3, h4, h5, h6⟩ := hv
    cases i with
    | zero =>
      simp only [List.getElem?_cons_zero, Option.some.injEq, Prod.mk.injEq] at h
      obtain ⟨rfl, rfl⟩ := h
      exact ⟨g, t, cs, fuel, p, h1, h2, h3, h4⟩
    | succ i => exact ih q i name d (by simpa using h) h5
theorem tab_at {P : Program} {W : World} {laid : List (String × DataW Unit)} (i : Nat) {name : String} {k : IntKind} {zs : List Int} {g : Nat} {t e : TypeId} {n : Nat} (hi : laid[i]? = some (name, tabData k zs))
    (hg : P.globalNamed name = some g) (hty : (P.globals[g]?).map (·.type) = some t) (ht : P.underlying t = some (.array n e)) (he : P.underlying e = some (.int k)) (hce : P.cellsOf e = 1) (hct : P.cellsOf t = n)
    (h : laidMet P laid W) : TabIs P W name k zs := by
  obtain ⟨ps, hv, _⟩ := h
  obtain ⟨g', t', cs, fuel, p, hg', ht', hvar, hd⟩ := laid_at laid ps i name _ hi hv
  obtain rfl := Option.some.inj (hg.symm.trans hg')
  obtain rfl := Option.some.inj (hty.symm.trans ht')
  unfold TabIs
  rw [hvar, ← cells_of_tab ht he hce hct hd]
end Go.Proofs.YtjdefiinmicjiaaGreatDoor.Tabs
