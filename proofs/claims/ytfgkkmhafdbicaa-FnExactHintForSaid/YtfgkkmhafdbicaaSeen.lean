/-
  A set of texts that a call keeps in a map of its own (map[string]bool): what it holds, looked up and put. Conditions: each theorem's own.
-/
import Derived.Test.YtfgkkmhafdbicaaInts
import Derived.Maps.Own
import Derived.Maps.OwnSet
import Derived.Maps.Views
import Derived.StringKeys
set_option linter.unusedVariables false
namespace Go.Proofs.Ytfgkkmhafdbicaa.Seen
open Go Go.RowKit Base
open Go.Maps (Keyed IsMap isMap_empty)
open Go.WideMaps (keyOf_string_mk)

theorem law : Keyed Try.prog 9 := Go.Maps.string_keyed Try.underlying9
theorem zeroB (w : World) : (zeroValue 4).run Try.prog w = .ok (.bool false) w := by kernel_rfl
theorem bool_inv {P : Program} {e : TypeId} (he : P.underlying e = some .bool) {v : Value} {c : Bool} {ps : List MemPlace} (hv : plainElem (H := Unit) P e v = some (.lit (.bool c), ps)) : v = .bool c := by
  unfold plainElem at hv
  rw [he] at hv
  cases v <;> simp at hv
  rw [hv.1]
/-- Block b is a map that holds just the texts of S. -/
def Seen (w : World) (b n : Nat) (S : List (List UInt8)) : Prop :=
  ∃ D : DataW Unit, w.ownsMap Try.prog 9 (plainElem Try.prog 4) b n D ∧ IsMap D ∧ ∀ s : ByteArray, s.size ≤ maxLen → D.atKey (.string s.data.toList) (.lit (.bool false)) = .lit (.bool (decide (s.data.toList ∈ S)))
section
variable {w w' : World} {b n : Nat} {S : List (List UInt8)}
theorem Seen.made (w : World) : Seen (w.alloc (.map #[] 0)) w.heap.size 0 [] := ⟨_, World.ownsMap_made _ _ _ _, isMap_empty, fun s _ => by simp; rfl⟩
theorem Seen.lt (h : Seen w b n S) : b < w.heap.size := by obtain ⟨D, h, _⟩ := h; exact h.lt
theorem Seen.grown {row : Option Nat} (h : Seen w b n S) (hg : w.grownBy w' row) (hr : row ≠ some b) : Seen w' b n S := by
  obtain ⟨D, h1, h2⟩ := h
  exact ⟨D, h1.kept hg (fun e => hr e.symm), h2⟩
theorem Seen.below (h : Seen w b n S) (hb : Below w.heap.size w w') : Seen w' b n S :=
  h.grown (row := none) ⟨hb.os, hb.tape, hb.output, hb.size, fun i hi _ => hb.block i hi⟩ (by simp)
theorem Seen.look (h : Seen w b n S) {t : TypeId} (ht : Try.prog.underlying t = some (.map 9 4)) (s : ByteArray) (hs : s.size ≤ maxLen) (x : Bool) (hx : decide (s.data.toList ∈ S) = x) :
    (Instr.lookup t (.map (some b)) (.string s) false).run Try.prog w = .ok (.bool x) w := by
  subst hx
  obtain ⟨D, h1, h2, h3⟩ := h
  obtain ⟨v, ps, hrun, hv⟩ := h1.lookup law ht (zeroB w) (plainElem_bool Try.underlying4 false) (keyOf_string_mk Try.underlying9 hs)
  rw [h3 s hs] at hv
  have := bool_inv Try.underlying4 hv
  rw [this] at hrun
  exact hrun
theorem Seen.put (h : Seen w b n S) {t : TypeId} (ht : Try.prog.underlying t = some (.map 9 4)) (hn : n < maxLen) (s : ByteArray) (hs : s.size ≤ maxLen) :
    ∃ w', (Instr.mapUpdate t (.map (some b)) (.string s) (.bool true)).run Try.prog w = .ok () w' ∧ Seen w' b (n + 1) (s.data.toList :: S) ∧ w.grownBy w' (some b) := by
  obtain ⟨D, h1, h2, h3⟩ := h
  obtain ⟨w', hrun, hown, hg⟩ := h1.update law ht hn (keyOf_string_mk Try.underlying9 hs) (plainElem_bool Try.underlying4 true)
  refine ⟨w', hrun, ⟨_, hown, h2.put _ _, fun u hu => ?_⟩, hg⟩
  by_cases e : u.data.toList = s.data.toList
  · rw [e, Go.Maps.atKey_put_same h2 (show WideAt.IsKeyLit (.string s.data.toList) from trivial)]
    simp
  · rw [Go.Maps.atKey_put_other (fun h => e (by injection h))]
    rw [h3 u hu]
    simp [e]
end
/-- A store into the set, for the walk. -/
theorem wpL_put {ops : Array Oper} {rest : List Oper} {o : Oper} {a : Act} {Q : Exit → Act → World → Prop} {w : World} {b n : Nat} {S : List (List UInt8)} (hgd : o.guard = none) (m x v : Operand) (t : TypeId) (hop : o.op = Op.mapUpdate t m x v)
    (ht : Try.prog.underlying t = some (.map 9 4)) (hm : a.eval m = .map (some b)) (h : Seen w b n S) (hn : n < maxLen) (s : ByteArray) (hs : s.size ≤ maxLen) (hx : a.eval x = .string s) (hv : a.eval v = .bool true)
    (hK : ∀ w', Seen w' b (n + 1) (s.data.toList :: S) → w.grownBy w' (some b) → wpList Try.prog ops Q rest (a.put o.dst undef) w') : wpList Try.prog ops Q (o :: rest) a w := by
  refine wpList_plain hgd fun K' hK' => ?_
  obtain ⟨w', hrun, r1, r2⟩ := h.put ht hn s hs
  unfold Oper.wp
  simp [execOp, hop, hm, hx, hv, hrun, Result.andThen]
  exact hK' _ _ (hK w' r1 r2)
end Go.Proofs.Ytfgkkmhafdbicaa.Seen
