/-
  Appending to a slice of the call's own, in the words of Base ('OwnS'): at a plain region and at a step of a drawn one. Conditions: each theorem's own.
-/
import Derived.Test.YtlfdcefgelpgmaaGreatDoorBase
import Derived.Deep.AppendLies
set_option linter.unusedVariables false
namespace Go.Proofs.YtlfdcefgelpgmaaGreatDoor.Own
open Go Go.RowKit Go.ChangeShapes Go.WideShapes Go.Deep Base

section
variable {P : Program} {w : World} {α : Type} {en : α → List Value}
theorem OwnS_of {lo g n cap : Nat} {e : TypeId} {sz : Nat} {xs : List α} (hn : n = xs.length) (h : w.ownsRow lo e sz (.slice (some ⟨g, 0, none⟩) n cap) n (xs.flatMap en)) (hg : g < w.heap.size) :
    OwnS w lo w.heap.size e sz en (.slice (some ⟨g, 0, none⟩) n cap) xs := by
  subst hn
  exact ⟨h, fun g' hg' => by simp [Value.ownBlock] at hg'; omega⟩

theorem wpL_app {ops : Array Oper} {rest : List Oper} {o : Oper} {a : Act} {Q : Exit → Act → World → Prop} (hgd : o.guard = none) (s x : Operand) (t : TypeId)
    (ho : o.op = .call { callee := .builtin .append, args := #[s, x], argTypes := #[t, t] })
    (lo hi : Nat) (e : TypeId) (i : TypeInfo) (z : Value) (sz bytes : Nat) (ht : P.underlying t = some (.slice e)) (hi0 : P.info? e = some i) (hz : i.zero = some z)
    (hsize : i.size = sz) (hby : i.bytes = bytes) (hzs : z.cells.size = sz) (hsz : 0 < sz) (hen : ∀ x, (en x).length = sz) (hone : ∀ x, ∀ u ∈ en x, u.oneCell' = true)
    (v : Value) (xs ys : List α) (hs : a.eval s = v) (hown : OwnS w lo hi e sz en v xs)
    (ad : Addr) (m c : Nat) (hx : a.eval x = .slice (some ad) m c) (hm : m = ys.length) (hnews : ∀ j u, (ys.flatMap en)[j]? = some u → w.cell? (ad.add j) = some u)
    (hm0 : 0 < m) (h63 : xs.length + m ≤ maxLen) (hbytes : (xs.length + m) * bytes ≤ 140737488355328) (hlo : lo ≤ w.heap.size)
    (h : ∀ g cap w', OwnS w' lo w'.heap.size e sz en (.slice (some ⟨g, 0, none⟩) (xs.length + m) cap) (xs ++ ys) → w.grownBy w' v.ownBlock → (v.ownBlock = some g ∨ g = w.heap.size) → g < w'.heap.size →
      wpList P ops Q rest (a.put o.dst (.slice (some ⟨g, 0, none⟩) (xs.length + m) cap)) w') : wpList P ops Q (o :: rest) a w := by
  refine wpList_append_lies w hgd s x t ho lo e i z sz bytes ht hi0 hz hsize hby hzs hsz v xs.length (xs.flatMap en) hs hown.1 ad m c (ys.flatMap en) hx (by rw [flatMap_len hen, hm]) hnews ?_ hm0 h63 hbytes hlo _ rfl ?_
  · intro u hu
    obtain ⟨y, _, hy⟩ := List.mem_flatMap.1 hu
    exact hone y u hy
  · intro g cap w' hown' hgr hat hlt
    rw [← List.flatMap_append] at hown'
    exact h g cap w' (OwnS_of (by rw [List.length_append, hm]) hown' hlt) hgr hat hlt

theorem step_app {ops : Array Oper} {o : Oper} {a : Act} {K : Act → World → Prop} {Q : Exit → Act → World → Prop} {E : Prop} (hgd : o.guard = none) (s x : Operand) (t : TypeId)
    (ho : o.op = .call { callee := .builtin .append, args := #[s, x], argTypes := #[t, t] })
    (lo hi : Nat) (e : TypeId) (i : TypeInfo) (z : Value) (sz bytes : Nat) (ht : P.underlying t = some (.slice e)) (hi0 : P.info? e = some i) (hz : i.zero = some z)
    (hsize : i.size = sz) (hby : i.bytes = bytes) (hzs : z.cells.size = sz) (hsz : 0 < sz) (hen : ∀ x, (en x).length = sz) (hone : ∀ x, ∀ u ∈ en x, u.oneCell' = true)
    (v : Value) (xs ys : List α) (hs : a.eval s = v) (hown : OwnS w lo hi e sz en v xs)
    (ad : Addr) (m c : Nat) (hx : a.eval x = .slice (some ad) m c) (hm : m = ys.length) (hnews : ∀ j u, (ys.flatMap en)[j]? = some u → w.cell? (ad.add j) = some u)
    (hm0 : 0 < m) (h63 : xs.length + m ≤ maxLen) (hbytes : (xs.length + m) * bytes ≤ 140737488355328) (hlo : lo ≤ w.heap.size)
    (h : ∀ g cap w', OwnS w' lo w'.heap.size e sz en (.slice (some ⟨g, 0, none⟩) (xs.length + m) cap) (xs ++ ys) → w.grownBy w' v.ownBlock → (v.ownBlock = some g ∨ g = w.heap.size) → g < w'.heap.size →
      K (a.put o.dst (.slice (some ⟨g, 0, none⟩) (xs.length + m) cap)) w') :
    if Region.wanted o (yielded ops a.tmps) = true then Oper.wp P o a w K Q else E := by
  refine step_append_lies w hgd s x t ho lo e i z sz bytes ht hi0 hz hsize hby hzs hsz v xs.length (xs.flatMap en) hs hown.1 ad m c (ys.flatMap en) hx (by rw [flatMap_len hen, hm]) hnews ?_ hm0 h63 hbytes hlo _ rfl ?_
  · intro u hu
    obtain ⟨y, _, hy⟩ := List.mem_flatMap.1 hu
    exact hone y u hy
  · intro g cap w' hown' hgr hat hlt
    rw [← List.flatMap_append] at hown'
    exact h g cap w' (OwnS_of (by rw [List.length_append, hm]) hown' hlt) hgr hat hlt
end

theorem one_I (x : Int) : ∀ u ∈ enI x, u.oneCell' = true := by intro u hu; simp [enI] at hu; subst hu; rfl
/-- The block that is to be appended has just been laid. -/
theorem news_new {w : World} {g : Nat} {e : TypeId} {cs : List Value} (h : RowB w g e cs) : ∀ j u, cs[j]? = some u → w.cell? ((⟨g, 0, none⟩ : Addr).add j) = some u := fun j u hu => by
  have hadd : (⟨g, 0, none⟩ : Addr).add j = ⟨g, j, none⟩ := by unfold Addr.add; split <;> simp_all
  rw [hadd, h.cell, hu]

/-- Two slices of the call's own lie apart. -/
def Apart (v u : Value) : Prop := ∀ g, v.ownBlock = some g → u.ownBlock ≠ some g
theorem Apart.symm {v u : Value} (h : Apart v u) : Apart u v := fun g hg hv => h g hv hg
theorem Apart.nil (u : Value) : Apart (.slice none 0 0) u := fun g hg => by simp [Value.ownBlock] at hg
/-- v has been appended to; u lies below the heap's size as it was. -/
theorem Apart.app {v u : Value} {g n cap H : Nat} (h : Apart v u) (hu : ∀ k, u.ownBlock = some k → k < H) (hat : v.ownBlock = some g ∨ g = H) : Apart (.slice (some ⟨g, 0, none⟩) n cap) u := by
  intro k hk hu'
  simp [Value.ownBlock] at hk
  subst hk
  rcases hat with hat | hat
  · exact h _ hat hu'
  · have := hu _ hu'; omega
section
variable {α : Type} {w w' : World} {lo hi sz : Nat} {e : TypeId} {en : α → List Value} {v u : Value} {xs : List α}
/-- A slice that lies apart from the one that was appended to. -/
theorem OwnS.far (h : OwnS w lo hi e sz en u xs) (hg : w.grownBy w' v.ownBlock) (ha : Apart v u) : OwnS w' lo hi e sz en u xs := by
  refine ⟨h.1.kept hg ?_, h.2⟩
  cases hv : u.ownBlock with
  | none => exact .inl rfl
  | some g => exact .inr (fun e => ha g e.symm hv)
end
/-- All elder blocks are as they were where the slice that was appended to is younger. -/
theorem Below_app {w w' : World} {v : Value} {B : Nat} (hg : w.grownBy w' v.ownBlock) (hB : B ≤ w.heap.size) (hv : ∀ g, v.ownBlock = some g → B ≤ g) : Below B w w' := by
  refine ⟨hg.os, hg.tape, hg.output, hg.size, fun i hi => hg.block i (by omega) (fun e => ?_)⟩
  have := hv i e.symm
  omega
end Go.Proofs.YtlfdcefgelpgmaaGreatDoor.Own
