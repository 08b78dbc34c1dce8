/-
  Sentinels listed in a row, wherever they stand on the list. Conditions: each theorem's own.
-/
import Derived.Test.YtjdefiinmicjiaaGreatDoorTabs
set_option linter.unusedVariables false
namespace Go.Proofs.YtjdefiinmicjiaaGreatDoor.TabsS
open Go Go.Lib Tabs
theorem iface_of {H : Type} {enc : TypeId × Value → H} {P : Program} {w : World} {sp : Nat → Bool} {held : Bool} {fuel : Nat} {t : TypeId} {ms : Array (String × TypeId)} {cs : List Value} {nm : String} {d : DataW H} {p : List MemPlace}
    (ht : P.underlying t = some (.interface ms)) (h : DataW.trod enc P w 0 sp held fuel t cs = some (.iface nm d, p)) : ∃ u v, cs = [.iface u v] := by
  cases fuel with
  | zero => simp [DataW.trod] at h
  | succ fuel =>
    match cs with
    | [.iface u v] => exact ⟨u, v, rfl⟩
    | [] => simp [DataW.trod, ht] at h
    | x :: y :: l => simp [DataW.trod, ht] at h
    | [x] =>
      cases x <;> simp [DataW.trod, ht] at h
      exact ⟨_, _, rfl⟩
theorem sent_at {P : Program} {W : World} {laid : List (String × DataW Unit)} (i : Nat) {name nm : String} {d : DataW Unit} {g : Nat} {t : TypeId} {ms : Array (String × TypeId)} (hi : laid[i]? = some (name, .iface nm d))
    (hg : P.globalNamed name = some g) (hty : (P.globals[g]?).map (·.type) = some t) (ht : P.underlying t = some (.interface ms)) (h : laidMet P laid W) : ∃ tp p, W.var? P name = some #[.iface tp p] := by
  obtain ⟨ps, hv, _⟩ := h
  obtain ⟨g', t', cs, fuel, p, hg', ht', hvar, hd⟩ := laid_at laid ps i name _ hi hv
  obtain rfl := Option.some.inj (hg.symm.trans hg')
  obtain rfl := Option.some.inj (hty.symm.trans ht')
  obtain ⟨u, v, e⟩ := iface_of ht hd
  obtain ⟨l⟩ := cs
  simp only at e
  subst e
  exact ⟨u, v, hvar⟩
end Go.Proofs.YtjdefiinmicjiaaGreatDoor.TabsS
