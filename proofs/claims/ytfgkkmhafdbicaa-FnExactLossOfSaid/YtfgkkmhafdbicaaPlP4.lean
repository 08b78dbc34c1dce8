/-
  Plays, plainly, IV: collected one by one. Conditions: each theorem's own.
-/
import Derived.Test.YtfgkkmhafdbicaaPlP3
set_option linter.unusedVariables false
set_option linter.unusedSimpArgs false
namespace Go.Proofs.Ytfgkkmhafdbicaa.PlP

theorem nxIn_snoc (v : Vr) (p : Pl) (ss : List Stp) (s : Stp) (out : List Pl) : nxIn v p (ss ++ [s]) out = addOne (nxIn v p ss out) (p.1 ++ [s], afterP v p.2 s) := by
  unfold nxIn; rw [List.foldl_append]; rfl
theorem nxGo_snoc (v : Vr) (d : Int) (ps : List Pl) (p : Pl) (out : List Pl) : nxGo v d (ps ++ [p]) out = nxIn v p (legalP v p.2 d) (nxGo v d ps out) := by
  unfold nxGo; rw [List.foldl_append]; rfl
theorem next_go (v : Vr) (d : Int) (ps : List Pl) : nextP v d ps = nxGo v d ps [] := rfl
theorem addOne_has {out : List Pl} {p : Pl} (h : hasB out p.2 = true) : addOne out p = out := by unfold addOne; rw [if_pos h]
theorem addOne_new {out : List Pl} {p : Pl} (h : hasB out p.2 = false) : addOne out p = out ++ [p] := by unfold addOne; rw [if_neg (by rw [h]; simp)]
theorem addAll_snoc (out ps : List Pl) (p : Pl) : addAll out (ps ++ [p]) = addOne (addAll out ps) p := by
  unfold addAll; rw [List.foldl_append]; rfl
theorem takeS {α : Type} {l : List α} {k : Nat} {x : α} (h : l[k]? = some x) : l.take (k + 1) = l.take k ++ [x] := by
  rw [List.take_add_one, h]; rfl
/-- What is collected: boards, with so many steps, so many at most. -/
structure Coll (v : Vr) (k m : Nat) (out : List Pl) : Prop where
  ok : RowOk v k out
  len : out.length ≤ m
theorem Coll.nil (v : Vr) (k : Nat) : Coll v k 0 [] := ⟨fun q hq => by simp at hq, Nat.le_refl _⟩
theorem Coll.more {v : Vr} {k m m' : Nat} {out : List Pl} (h : Coll v k m out) (hm : m ≤ m') : Coll v k m' out := ⟨h.ok, Nat.le_trans h.len hm⟩
theorem Coll.add {v : Vr} {k m : Nat} {out : List Pl} {p : Pl} (h : Coll v k m out) (hp : Ok v p.2 ∧ p.1.length = k) : Coll v k (m + 1) (addOne out p) := by
  refine ⟨fun q hq => ?_, ?_⟩
  · rcases addOne_mem hq with hq | rfl
    · exact h.ok q hq
    · exact hp
  · have := addOne_len out p
    have := h.len
    omega
theorem row_sides {v : Vr} {k n : Nat} {out : List Pl} (h : RowOk v k out) (hn : (n : Int) = v.p + 1) : ∀ q ∈ out, q.2.1.length = n ∧ q.2.2.length = n := fun q hq => by
  have h1 := (h q hq).1.own.len
  have h2 := (h q hq).1.oth.len
  omega
/-- A legal step's parts. -/
theorem legal_parts {v : Vr} {b : Bd} {d : Int} {s : Stp} (hd : 1 ≤ d) (hb : Ok v b) (h : s ∈ legalP v b d) : (0 ≤ s.1 ∧ s.1 ≤ v.p) ∧ (-1 ≤ s.2.1 ∧ s.2.1 < v.p) ∧ (s.2.2.2 = true → 0 ≤ s.2.1) := by
  obtain ⟨h1, f, h2, h3⟩ := legal_mem (by have := hb.v1; omega) h
  obtain ⟨k1, k2, k3, k4⟩ := step_parts h2 hb h3
  rcases k4 with ⟨a, b1, -, -⟩ | ⟨a, b1, c⟩
  · rw [k1, b1]; exact ⟨h2, by omega, fun _ => a⟩
  · rw [k1, b1, c]; exact ⟨h2, by have := hb.v1; omega, fun h => by cases h⟩
end Go.Proofs.Ytfgkkmhafdbicaa.PlP
