/-
  What is kept in memory while plays are collected. Conditions: each theorem's own.
-/
import Derived.Test.YtfgkkmhafdbicaaPlP4
import Derived.Test.YtfgkkmhafdbicaaBd5
import Derived.Test.YtfgkkmhafdbicaaBd7
import Derived.Test.YtfgkkmhafdbicaaBd9
import Derived.Test.YtfgkkmhafdbicaaBd11
import Derived.Test.YtfgkkmhafdbicaaSeen
import Derived.Test.YtfgkkmhafdbicaaRegG
import Derived.Deep.DeepCutAuto
set_option linter.unusedVariables false
set_option linter.unusedSimpArgs false
namespace Go.Proofs.Ytfgkkmhafdbicaa.Bd16
open Go.ChangeShapes Go.WideShapes Go.ChangeAt Go.RowKit Base Ints Own Clone RelG PlP Bd1 Bd5 Bd6 Bd7 Bd8 Bd9 Bd11 RegInv RegF RegG Seen

theorem infoP : (Try.prog.info? 65).map (fun i => (i.zero, i.size, i.bytes)) = some (some (.agg #[.slice none 0 0, .slice none 0 0, .slice none 0 0]), 3, 72) := by kernel_rfl
theorem one_P (r : PRow) (h : r.1.oneCell' = true ∧ r.2.1.oneCell' = true ∧ r.2.2.oneCell' = true) : ∀ u ∈ enP r, u.oneCell' = true := by
  intro u hu; simp [enP] at hu; rcases hu with rfl | rfl | rfl
  · exact h.1
  · exact h.2.1
  · exact h.2.2
theorem three {W : World} {g : Nat} {t : TypeId} {a b c : Value} (h : RowB W g t [a, b, c]) (u v x : Value) : RowB (((W.setCell ⟨g, 0, none⟩ u).setCell ⟨g, 1, none⟩ v).setCell ⟨g, 2, none⟩ x) g t [u, v, x] :=
  ((h.set 0 u).set 1 v).set 2 x
theorem below_three {B : Nat} {w W : World} (h : Below B w W) {g : Nat} (hg : B ≤ g) (u v x : Value) : Below B w (((W.setCell ⟨g, 0, none⟩ u).setCell ⟨g, 1, none⟩ v).setCell ⟨g, 2, none⟩ x) :=
  ((h.setCell (p := ⟨g, 0, none⟩) hg _).setCell (p := ⟨g, 1, none⟩) hg _).setCell (p := ⟨g, 2, none⟩) hg _
/-- A block known whole that reads as one element. -/
theorem rd_row {α : Type} {en : α → List Value} {w : World} {g sz B : Nat} {e : TypeId} {x : α} (h : RowB w g e (en x)) (hg : g < B) : RdS w B sz en (some ⟨g, 0, none⟩) [x] :=
  ⟨by show 1 ≤ maxLen; decide, fun _ => ⟨g, 0, rfl, hg, fun i y hy j u hu => by
    cases i with
    | zero =>
      simp at hy; subst hy
      rw [show 0 + 0 * sz + j = j from by omega, h.cell j]; exact hu
    | succ i => simp at hy⟩⟩
section
variable {ρ α : Type} {K : Rel ρ α} {w w' : World} {lo hi sz : Nat} {e : TypeId} {en : ρ → List Value} {v : Value} {xs : List α}
/-- Behind writes into an elder block. -/
theorem own_low {g : Nat} (h : OwnG K w lo hi e sz en v xs) (hg : w.grownBy w' (some g)) (hl : g < lo) : OwnG K w' lo hi e sz en v xs := by
  obtain ⟨rs, h1, h2⟩ := h
  exact ⟨rs, h1.grown hg (fun k hk => by simp at hk; omega), h2.keep (Still.grown hg (fun k hk hn => by simp at hk; have := hn.2; omega))⟩
/-- An append, put together. -/
theorem own_snoc {rs : List ρ} {r : ρ} {x : α} {g n c : Nat} (h2 : LsR K w (NotIn v lo) rs xs) (hx : K.R w (NotIn v lo) r x) (ho : OwnS w' lo w'.heap.size e sz en (.slice (some ⟨g, 0, none⟩) n c) (rs ++ [r])) (hg : w.grownBy w' v.ownBlock) (hat : v.ownBlock = some g ∨ g = w.heap.size) :
    OwnG K w' lo w'.heap.size e sz en (.slice (some ⟨g, 0, none⟩) n c) (xs ++ [x]) :=
  ⟨rs ++ [r], ho, LsR.snoc ⟨h2.1, fun i r' x' hr hx' => app_still hg hat (h2.2 i r' x' hr hx')⟩ (app_still hg hat hx)⟩
end
theorem app_still' {w w' : World} {lo g n c : Nat} {v : Value} (hg : w.grownBy w' v.ownBlock) (hat : v.ownBlock = some g ∨ w.heap.size ≤ g) {ρ α : Type} {K : Rel ρ α} {r : ρ} {x : α} (h : K.R w (NotIn v lo) r x) : K.R w' (NotIn (.slice (some ⟨g, 0, none⟩) n c) lo) r x := by
  have h1 : K.R w (fun b => NotIn v lo b ∧ b < w.heap.size) r x := K.weak h (fun b hb hl => ⟨hb, hl⟩)
  have h2 := K.keep h1 (Still.grown (S := fun b => NotIn v lo b ∧ b < w.heap.size) hg (fun k hk hn => hn.1.1 hk))
  refine K.weak h2 (fun b hb _ => ⟨?_, hb.1.2⟩)
  intro e
  simp [Value.ownBlock] at e
  subst e
  rcases hat with hat | hat
  · exact hb.1.1 hat
  · have := hb.2; omega
theorem Seen.same {w : World} {b n : Nat} {S S' : List (List UInt8)} (h : Seen w b n S) (hs : ∀ s, s ∈ S ↔ s ∈ S') : Seen w b n S' := by
  obtain ⟨D, h1, h2, h3⟩ := h
  exact ⟨D, h1, h2, fun s hl => by rw [h3 s hl]; congr 2; exact decide_eq_decide.2 (hs _)⟩
def keysP (X : List Pl) : List (List UInt8) := X.map fun q => keyP q.2
/-- Plays that are being collected: the set of their boards' texts, the slice, the variant's box. -/
structure Go1 (w wr : World) (v : Vr) (gs : Nat) (vl : Value) (X : List Pl) (k m : Nat) : Prop where
  bel : Below w.heap.size w wr
  rv : RowB wr w.heap.size 32 [.int .i64 v.p, .int .i64 v.c, .int .i64 v.h, .int .i64 v.s]
  ge : w.heap.size < gs
  sn : Seen wr gs X.length (keysP X)
  og : OwnG RelP wr (gs + 1) wr.heap.size 65 3 enP vl X
  co : Coll v k m X
theorem Go1.below {w wr w' : World} {v : Vr} {gs : Nat} {vl : Value} {X : List Pl} {k m : Nat} (h : Go1 w wr v gs vl X k m) (hb : Below wr.heap.size wr w') : Go1 w w' v gs vl X k m :=
  ⟨h.bel.trans (hb.mono h.bel.size), h.rv.below hb h.rv.lt, h.ge, h.sn.below hb, (h.og.below_ hb).more hb.size, h.co⟩
/-- The box of the play at hand, its legal steps. -/
structure Go2 (w wr : World) (v : Vr) (gs : Nat) (vl : Value) (X : List Pl) (k m : Nat) (g : Nat) (cs : List Value) (sv : Value) (ss : List Stp) : Prop where
  k1 : Go1 w wr v gs vl X k m
  gg : gs < g
  rp : RowB wr g 65 cs
  np : vl.ownBlock ≠ some g
  st : SlV 4 enSt wr (NotIn vl (gs + 1)) sv ss
theorem Go2.below {w wr w' : World} {v : Vr} {gs : Nat} {vl : Value} {X : List Pl} {k m g : Nat} {cs : List Value} {sv : Value} {ss : List Stp} (h : Go2 w wr v gs vl X k m g cs sv ss) (hb : Below wr.heap.size wr w') : Go2 w w' v gs vl X k m g cs sv ss :=
  ⟨h.k1.below hb, h.gg, h.rp.below hb h.rp.lt, h.np, (relV 4 enSt).keep h.st (.below hb)⟩
/-- Behind a store into the set. -/
theorem Go2.put {w wr w' : World} {v : Vr} {gs : Nat} {vl : Value} {X : List Pl} {k m g : Nat} {cs : List Value} {sv : Value} {ss : List Stp} (h : Go2 w wr v gs vl X k m g cs sv ss) (hg : wr.grownBy w' (some gs)) :
    Below w.heap.size w w' ∧ RowB w' w.heap.size 32 [.int .i64 v.p, .int .i64 v.c, .int .i64 v.h, .int .i64 v.s] ∧ OwnG RelP w' (gs + 1) w'.heap.size 65 3 enP vl X ∧ RowB w' g 65 cs ∧ SlV 4 enSt w' (NotIn vl (gs + 1)) sv ss :=
  ⟨h.k1.bel.grown hg h.k1.bel.size (fun k hk => by simp at hk; have := h.k1.ge; omega), h.k1.rv.grown hg (fun k hk => by simp at hk; have := h.k1.ge; omega), (own_low h.k1.og hg (by omega)).more hg.size, h.rp.grown hg (fun k hk => by simp at hk; have := h.gg; omega), (relV 4 enSt).keep h.st (Still.grown hg (fun k hk hn => by simp at hk; have := hn.2; omega))⟩
end Go.Proofs.Ytfgkkmhafdbicaa.Bd16
