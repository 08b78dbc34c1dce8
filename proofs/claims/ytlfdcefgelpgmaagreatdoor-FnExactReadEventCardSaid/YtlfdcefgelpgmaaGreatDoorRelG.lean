/-
  Memory that leads to memory: slices of things whose parts are slices, read and made by the call. A reading is kept while its own blocks are left alone. Conditions: each theorem's own.
-/
import Derived.Test.YtlfdcefgelpgmaaGreatDoorOwn
set_option linter.unusedVariables false
namespace Go.Proofs.YtlfdcefgelpgmaaGreatDoor.RelG
open Go Go.RowKit Base Own

/-- A slice at address A with elements xs, each of sz cells, in a block of S. -/
def RdF {α : Type} (w : World) (S : Nat → Prop) (sz : Nat) (en : α → List Value) (A : Option Addr) (xs : List α) : Prop :=
  xs.length ≤ maxLen ∧ (0 < xs.length → ∃ b off, A = some ⟨b, off, none⟩ ∧ S b ∧ b < w.heap.size ∧ ∀ i x, xs[i]? = some x → ∀ j u, (en x)[j]? = some u → w.cell? ⟨b, off + i * sz + j, none⟩ = some u)
/-- The blocks of S stand as they stood. -/
def Still (S : Nat → Prop) (w w' : World) : Prop := w.heap.size ≤ w'.heap.size ∧ ∀ b, S b → b < w.heap.size → w'.heap[b]? = w.heap[b]?
theorem Still.refl (S : Nat → Prop) (w : World) : Still S w w := ⟨Nat.le_refl _, fun _ _ _ => rfl⟩
theorem Still.below {S : Nat → Prop} {w w' : World} (h : Below w.heap.size w w') : Still S w w' := ⟨h.size, fun b _ hb => h.block b hb⟩
theorem Still.grown {S : Nat → Prop} {w w' : World} {row : Option Nat} (h : w.grownBy w' row) (hr : ∀ g, row = some g → ¬ S g) : Still S w w' :=
  ⟨h.size, fun b hs hb => h.block b hb (fun e => hr b e.symm hs)⟩
theorem Still.trans {S : Nat → Prop} {a b c : World} (h : Still S a b) (k : Still S b c) : Still S a c :=
  ⟨Nat.le_trans h.1 k.1, fun i hs hi => (k.2 i hs (Nat.lt_of_lt_of_le hi h.1)).trans (h.2 i hs hi)⟩
/-- All blocks. -/
def All (_ : Nat) : Prop := True
section
variable {α : Type} {w w' : World} {S S' : Nat → Prop} {B sz : Nat} {en : α → List Value} {A : Option Addr} {xs : List α}
theorem RdF.keep (h : RdF w S sz en A xs) (hs : Still S w w') : RdF w' S sz en A xs :=
  ⟨h.1, fun hn => by
    obtain ⟨b, off, e, hS, hb, hc⟩ := h.2 hn
    exact ⟨b, off, e, hS, Nat.lt_of_lt_of_le hb hs.1, fun i x hx j u hu => (World.cell?_of_block (hs.2 b hS hb)).trans (hc i x hx j u hu)⟩⟩
theorem RdF.weak (h : RdF w S sz en A xs) (hs : ∀ b, S b → b < w.heap.size → S' b) : RdF w S' sz en A xs :=
  ⟨h.1, fun hn => by
    obtain ⟨b, off, e, hS, hb, hc⟩ := h.2 hn
    exact ⟨b, off, e, hs b hS hb, hb, hc⟩⟩
theorem RdF.rd (h : RdF w S sz en A xs) : RdS w w.heap.size sz en A xs :=
  ⟨h.1, fun hn => by
    obtain ⟨b, off, e, hS, hb, hc⟩ := h.2 hn
    exact ⟨b, off, e, hb, hc⟩⟩
theorem RdF.of (h : RdS w B sz en A xs) (hB : B ≤ w.heap.size) (hS : ∀ b, b < B → S b) : RdF w S sz en A xs :=
  ⟨h.1, fun hn => by
    obtain ⟨b, off, e, hb, hc⟩ := h.2 hn
    exact ⟨b, off, e, hS b hb, by omega, hc⟩⟩
theorem RdF.nil (w : World) (S : Nat → Prop) (sz : Nat) (en : α → List Value) (A : Option Addr) : RdF w S sz en A [] := ⟨Nat.zero_le _, fun h => by simp at h⟩
theorem RdF.len (h : RdF w S sz en A xs) : xs.length ≤ 9223372036854775807 := by have := h.1; unfold maxLen at this; omega
theorem RdF.at_ (h : RdF w S sz en A xs) {i : Nat} (hi : i < xs.length) :
    ∃ b off x, A = some ⟨b, off, none⟩ ∧ S b ∧ b < w.heap.size ∧ xs[i]? = some x ∧ ∀ j u, (en x)[j]? = some u → w.cell? ⟨b, off + i * sz + j, none⟩ = some u := by
  obtain ⟨b, off, rfl, hS, hb, hc⟩ := h.2 (by omega)
  exact ⟨b, off, xs[i], rfl, hS, hb, List.getElem?_eq_getElem hi, hc i _ (List.getElem?_eq_getElem hi)⟩
end

/-- How a row r of memory stands for a thing x, leaning on blocks of S. -/
structure Rel (ρ α : Type) where
  R : World → (Nat → Prop) → ρ → α → Prop
  keep : ∀ {w w' : World} {S : Nat → Prop} {r : ρ} {x : α}, R w S r x → Still S w w' → R w' S r x
  weak : ∀ {w : World} {S S' : Nat → Prop} {r : ρ} {x : α}, R w S r x → (∀ b, S b → b < w.heap.size → S' b) → R w S' r x
/-- A list of rows stands for a list of things. -/
def LsR {ρ α : Type} (K : Rel ρ α) (w : World) (S : Nat → Prop) (rs : List ρ) (xs : List α) : Prop :=
  rs.length = xs.length ∧ ∀ (i : Nat) (r : ρ) (x : α), rs[i]? = some r → xs[i]? = some x → K.R w S r x
section
variable {ρ α : Type} {K : Rel ρ α} {w w' : World} {S S' : Nat → Prop} {rs : List ρ} {xs : List α}
theorem LsR.keep (h : LsR K w S rs xs) (hs : Still S w w') : LsR K w' S rs xs := ⟨h.1, fun i r x hr hx => K.keep (h.2 i r x hr hx) hs⟩
theorem LsR.weak (h : LsR K w S rs xs) (hs : ∀ b, S b → b < w.heap.size → S' b) : LsR K w S' rs xs := ⟨h.1, fun i r x hr hx => K.weak (h.2 i r x hr hx) hs⟩
theorem LsR.nil (K : Rel ρ α) (w : World) (S : Nat → Prop) : LsR K w S [] [] := ⟨rfl, fun i r x hr => by simp at hr⟩
theorem LsR.snoc (h : LsR K w S rs xs) {r : ρ} {x : α} (hr : K.R w S r x) : LsR K w S (rs ++ [r]) (xs ++ [x]) := by
  refine ⟨by simp [h.1], fun i r' x' h1 h2 => ?_⟩
  have hl := h.1
  rcases Nat.lt_trichotomy i rs.length with hi | hi | hi
  · rw [List.getElem?_append_left hi] at h1
    rw [List.getElem?_append_left (by omega)] at h2
    exact h.2 i r' x' h1 h2
  · subst hi
    rw [List.getElem?_append_right (Nat.le_refl _), Nat.sub_self] at h1
    rw [hl, List.getElem?_append_right (Nat.le_refl _), Nat.sub_self] at h2
    simp at h1 h2
    subst h1 h2
    exact hr
  · rw [List.getElem?_eq_none (by simp; omega)] at h1; cases h1
theorem LsR.at_ (h : LsR K w S rs xs) {i : Nat} {r : ρ} (hr : rs[i]? = some r) : ∃ x, xs[i]? = some x ∧ K.R w S r x := by
  have hl := (List.getElem?_eq_some_iff.1 hr).1
  have hx : i < xs.length := by rw [← h.1]; exact hl
  exact ⟨xs[i], List.getElem?_eq_getElem hx, h.2 i r _ hr (List.getElem?_eq_getElem hx)⟩
theorem LsR.take (h : LsR K w S rs xs) (k : Nat) : LsR K w S (rs.take k) (xs.take k) := by
  refine ⟨by simp [h.1], fun i r x h1 h2 => ?_⟩
  rw [List.getElem?_take] at h1 h2
  split at h1
  · rw [if_pos (by assumption)] at h2; exact h.2 i r x h1 h2
  · cases h1
end

/-- A slice value whose rows stand for things. -/
def SlG {ρ α : Type} (K : Rel ρ α) (sz : Nat) (en : ρ → List Value) (w : World) (S : Nat → Prop) (v : Value) (xs : List α) : Prop :=
  ∃ (A : Option Addr) (c : Nat) (rs : List ρ), v = .slice A xs.length c ∧ RdF w S sz en A rs ∧ LsR K w S rs xs ∧ (A = none → c = 0)
def relSl {ρ α : Type} (K : Rel ρ α) (sz : Nat) (en : ρ → List Value) : Rel Value (List α) where
  R := SlG K sz en
  keep := fun ⟨A, c, rs, h1, h2, h3, h4⟩ hs => ⟨A, c, rs, h1, h2.keep hs, h3.keep hs, h4⟩
  weak := fun ⟨A, c, rs, h1, h2, h3, h4⟩ hs => ⟨A, c, rs, h1, h2.weak hs, h3.weak hs, h4⟩
/-- A slice of plain things: the row is the thing. -/
def SlV {α : Type} (sz : Nat) (en : α → List Value) (w : World) (S : Nat → Prop) (v : Value) (xs : List α) : Prop :=
  ∃ (A : Option Addr) (c : Nat), v = .slice A xs.length c ∧ RdF w S sz en A xs ∧ (A = none → c = 0)
def relV {α : Type} (sz : Nat) (en : α → List Value) : Rel Value (List α) where
  R := SlV sz en
  keep := fun ⟨A, c, h1, h2, h4⟩ hs => ⟨A, c, h1, h2.keep hs, h4⟩
  weak := fun ⟨A, c, h1, h2, h4⟩ hs => ⟨A, c, h1, h2.weak hs, h4⟩

/-- Not the block that v is appended in, and no block below lo. -/
def NotIn (v : Value) (lo b : Nat) : Prop := v.ownBlock ≠ some b ∧ lo ≤ b
/-- A slice of the call's own, whose rows stand for things that lie elsewhere, from lo on. -/
def OwnG {ρ α : Type} (K : Rel ρ α) (w : World) (lo hi : Nat) (e : TypeId) (sz : Nat) (en : ρ → List Value) (v : Value) (xs : List α) : Prop :=
  ∃ rs, OwnS w lo hi e sz en v rs ∧ LsR K w (NotIn v lo) rs xs
/-- A slice that a call made, in blocks of S. -/
def OwnV {α : Type} (e : TypeId) (sz : Nat) (en : α → List Value) (w : World) (S : Nat → Prop) (v : Value) (xs : List α) : Prop :=
  OwnS w 0 w.heap.size e sz en v xs ∧ ∀ g, v.ownBlock = some g → S g
theorem OwnV.keep {α : Type} {e : TypeId} {sz : Nat} {en : α → List Value} {w w' : World} {S : Nat → Prop} {v : Value} {xs : List α} (h : OwnV e sz en w S v xs) (hs : Still S w w') : OwnV e sz en w' S v xs := by
  obtain ⟨⟨⟨h1, h2⟩, h3⟩, h4⟩ := h
  refine ⟨⟨⟨h1, ?_⟩, fun g hg => Nat.lt_of_lt_of_le (h3 g hg) hs.1⟩, h4⟩
  rcases h2 with hn | ⟨g, cap, cur, rfl, hbg, hgg, rest⟩
  · exact .inl hn
  · refine .inr ⟨g, cap, cur, rfl, hbg, ?_, rest⟩
    rw [hs.2 g (h4 g rfl) (h3 g rfl)]
    exact hgg
/-- Own slices, as a relation. -/
def relO {α : Type} (e : TypeId) (sz : Nat) (en : α → List Value) : Rel Value (List α) where
  R := OwnV e sz en
  keep := OwnV.keep
  weak := fun h hs => ⟨h.1, fun g hg => hs g (h.2 g hg) (h.1.2 g hg)⟩
theorem OwnV.sl {α : Type} {e : TypeId} {sz : Nat} {en : α → List Value} {w : World} {S : Nat → Prop} {v : Value} {xs : List α} (hen : ∀ x, (en x).length = sz) (h : OwnV e sz en w S v xs) : SlV sz en w S v xs := by
  obtain ⟨A, c, e1, hr⟩ := h.1.form hen
  have hc : A = none → c = 0 := fun hA => by
    rcases h.1.cases_ with ⟨e2, _⟩ | ⟨g, cap, rest, e2, _⟩
    · rw [e1] at e2; simp only [Value.slice.injEq] at e2; exact e2.2.2
    · rw [e1, hA] at e2; simp only [Value.slice.injEq] at e2; exact absurd e2.1 (by simp)
  refine ⟨A, c, e1, ⟨hr.1, fun hp => ?_⟩, hc⟩
  obtain ⟨b, off, hA, hb, hcell⟩ := hr.2 hp
  refine ⟨b, off, hA, ?_, hb, hcell⟩
  rcases h.1.cases_ with ⟨e2, e3⟩ | ⟨g, cap, rest, e2, _⟩
  · rw [e3] at hp; simp at hp
  · have h4 := h.2 g (by rw [e2]; rfl)
    rw [e1, hA] at e2
    simp only [Value.slice.injEq, Option.some.injEq, Addr.mk.injEq] at e2
    rw [e2.1.1]; exact h4
theorem OwnV.of {α : Type} {e : TypeId} {sz lo hi : Nat} {en : α → List Value} {w : World} {S : Nat → Prop} {v : Value} {xs : List α} (h : OwnS w lo hi e sz en v xs) (hh : hi ≤ w.heap.size) (hS : ∀ b, lo ≤ b → b < hi → S b) : OwnV e sz en w S v xs :=
  ⟨(h.less (Nat.zero_le _)).more hh, fun g hg => hS g (h.block g hg).1 (h.block g hg).2⟩
section
variable {ρ α : Type} {K : Rel ρ α} {w w' : World} {lo hi sz : Nat} {e : TypeId} {en : ρ → List Value} {v : Value} {xs : List α}
theorem OwnG.below (h : OwnG K w lo hi e sz en v xs) (hb : Below w.heap.size w w') (hh : hi ≤ w.heap.size) : OwnG K w' lo hi e sz en v xs := by
  obtain ⟨rs, h1, h2⟩ := h
  exact ⟨rs, h1.below hb hh, h2.keep (.below hb)⟩
theorem OwnG.more {hi' : Nat} (h : OwnG K w lo hi e sz en v xs) (hh : hi ≤ hi') : OwnG K w lo hi' e sz en v xs := by
  obtain ⟨rs, h1, h2⟩ := h
  exact ⟨rs, h1.more hh, h2⟩
theorem OwnG.less {lo' : Nat} (h : OwnG K w lo hi e sz en v xs) (hh : lo' ≤ lo) : OwnG K w lo' hi e sz en v xs := by
  obtain ⟨rs, h1, h2⟩ := h
  exact ⟨rs, h1.less hh, h2.weak (fun b hb _ => ⟨hb.1, by have := hb.2; omega⟩)⟩
theorem OwnG.alloc (h : OwnG K w lo hi e sz en v xs) (o : Obj) : OwnG K (w.alloc o) lo hi e sz en v xs := by
  obtain ⟨rs, h1, h2⟩ := h
  exact ⟨rs, h1.alloc _, h2.keep (.below ((Below.refl _ _).alloc (Nat.le_refl _) _))⟩
theorem OwnG.drew (h : OwnG K w lo hi e sz en v xs) : OwnG K w.drew lo hi e sz en v xs := by
  obtain ⟨rs, h1, h2⟩ := h
  exact ⟨rs, h1.drew, h2.keep ⟨Nat.le_refl _, fun _ _ _ => rfl⟩⟩
theorem OwnG.drewN (h : OwnG K w lo hi e sz en v xs) (n : Nat) : OwnG K (w.drewN n) lo hi e sz en v xs := by
  obtain ⟨rs, h1, h2⟩ := h
  exact ⟨rs, h1.drewN n, h2.keep ⟨Nat.le_refl _, fun _ _ _ => rfl⟩⟩
theorem OwnG.below_ (h : OwnG K w lo hi e sz en v xs) (hb : Below w.heap.size w w') : OwnG K w' lo hi e sz en v xs := by
  obtain ⟨rs, h1, h2⟩ := h
  refine ⟨rs, ⟨⟨h1.1.1, ?_⟩, h1.2⟩, h2.keep (.below hb)⟩
  rcases h1.1.2 with hn | ⟨g, cap, cur, rfl, hbg, hgg, rest⟩
  · exact .inl hn
  · refine .inr ⟨g, cap, cur, rfl, hbg, ?_, rest⟩
    rw [hb.block g (Array.getElem?_eq_some_iff.1 hgg).1]
    exact hgg
/-- Behind writes into younger blocks. -/
theorem OwnG.grown {row : Option Nat} (h : OwnG K w lo hi e sz en v xs) (hg : w.grownBy w' row) (hr : ∀ g, row = some g → w.heap.size ≤ g) : OwnG K w' lo hi e sz en v xs :=
  h.below_ ⟨hg.os, hg.tape, hg.output, hg.size, fun i hi => hg.block i hi (fun e => by have := hr i e.symm; omega)⟩
theorem OwnG.nil_ (K : Rel ρ α) (w : World) (lo hi : Nat) (e : TypeId) (sz : Nat) (en : ρ → List Value) : OwnG K w lo hi e sz en (.slice none 0 0) [] :=
  ⟨[], OwnS.nil_ _ _ _ _ _ _, LsR.nil _ _ _⟩
/-- Behind an append of one row. -/
theorem app_still {v : Value} {g n c : Nat} (hg : w.grownBy w' v.ownBlock) (hat : v.ownBlock = some g ∨ g = w.heap.size) {ρ α : Type} {K : Rel ρ α} {r : ρ} {x : α} (h : K.R w (NotIn v lo) r x) : K.R w' (NotIn (.slice (some ⟨g, 0, none⟩) n c) lo) r x := by
  have h1 : K.R w (fun b => NotIn v lo b ∧ b < w.heap.size) r x := K.weak h (fun b hb hl => ⟨hb, hl⟩)
  have h2 := K.keep h1 (Still.grown (S := fun b => NotIn v lo b ∧ b < w.heap.size) hg (fun k hk hn => hn.1.1 hk))
  refine K.weak h2 (fun b hb _ => ⟨?_, hb.1.2⟩)
  intro e
  simp [Value.ownBlock] at e
  subst e
  rcases hat with hat | hat
  · exact hb.1.1 hat
  · have := hb.2; omega
theorem OwnG.app {g n c : Nat} {r : ρ} {x : α} (h : OwnG K w lo hi e sz en v xs) (hx : K.R w (NotIn v lo) r x)
    (ho : ∀ rs, OwnS w lo hi e sz en v rs → rs.length = xs.length → OwnS w' lo w'.heap.size e sz en (.slice (some ⟨g, 0, none⟩) n c) (rs ++ [r])) (hg : w.grownBy w' v.ownBlock) (hat : v.ownBlock = some g ∨ g = w.heap.size) :
    OwnG K w' lo w'.heap.size e sz en (.slice (some ⟨g, 0, none⟩) n c) (xs ++ [x]) := by
  obtain ⟨rs, h1, h2⟩ := h
  refine ⟨rs ++ [r], ho rs h1 h2.1, LsR.snoc ⟨h2.1, fun i r' x' hr hx' => app_still hg hat (h2.2 i r' x' hr hx')⟩ (app_still hg hat hx)⟩
/-- Handed over: a slice to be read. -/
theorem OwnG.sl (hen : ∀ x, (en x).length = sz) (h : OwnG K w lo hi e sz en v xs) (hh : hi ≤ w.heap.size) : SlG K sz en w (fun b => lo ≤ b) v xs := by
  obtain ⟨rs, h1, h2⟩ := h
  have hv := OwnV.sl (S := fun b => lo ≤ b) hen (OwnV.of h1 hh (fun b hb _ => hb))
  obtain ⟨A, c, rfl, hr, hc⟩ := hv
  refine ⟨A, c, rs, by rw [h2.1], hr, h2.weak (fun _ hb _ => hb.2), hc⟩
end
/-- A slice of plain things that the call made. -/
theorem SlV.own {α : Type} {w : World} {lo hi sz : Nat} {e : TypeId} {en : α → List Value} {v : Value} {xs : List α} (hen : ∀ x, (en x).length = sz) (h : OwnS w lo hi e sz en v xs) (hh : hi ≤ w.heap.size) : SlV sz en w (fun b => b < hi) v xs := by
  obtain ⟨A, c, rfl, hr⟩ := h.form hen
  refine ⟨A, c, rfl, RdF.of hr hh (fun _ hb => hb), fun hA => ?_⟩
  rcases h.cases_ with ⟨e, _⟩ | ⟨g, cap, rest, e, _⟩
  · simp only [Value.slice.injEq] at e; exact e.2.2
  · simp only [Value.slice.injEq] at e; rw [hA] at e; exact absurd e.1 (by simp)
end Go.Proofs.YtlfdcefgelpgmaaGreatDoor.RelG
