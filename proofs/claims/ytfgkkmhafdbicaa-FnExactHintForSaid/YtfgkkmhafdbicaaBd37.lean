/-
  markBoard of the laws: both slices of a board are filled with marks. Conditions: each theorem's own.
-/
import Derived.Test.YtfgkkmhafdbicaaBd28
set_option linter.unusedVariables false
set_option linter.unusedSimpArgs false
namespace Go.Proofs.Ytfgkkmhafdbicaa.Bd37
open Go.ChangeShapes Go.WideShapes Go.ChangeAt Go.RowKit Base Ints Own RelG PlP Bd1

/-- All but two rows of the old blocks is as it was. -/
structure Two (w w' : World) (r1 r2 : Option Nat) : Prop where
  os : w'.os = w.os
  tape : w'.tape = w.tape
  output : w'.output = w.output
  size : w.heap.size ≤ w'.heap.size
  block : ∀ k, k < w.heap.size → some k ≠ r1 → some k ≠ r2 → w'.heap[k]? = w.heap[k]?
theorem Two.of {w w' : World} {r1 r2 : Option Nat} (h : Below w.heap.size w w') : Two w w' r1 r2 := ⟨h.os, h.tape, h.output, h.size, fun k hk _ _ => h.block k hk⟩
theorem Two.g1 {a w w' : World} {r1 r2 : Option Nat} (h : Two a w r1 r2) (g : w.grownBy w' r1) : Two a w' r1 r2 :=
  ⟨g.os.trans h.os, g.tape.trans h.tape, g.output.trans h.output, Nat.le_trans h.size g.size, fun k hk h1 h2 => (g.block k (Nat.lt_of_lt_of_le hk h.size) h1).trans (h.block k hk h1 h2)⟩
theorem Two.g2 {a w w' : World} {r1 r2 : Option Nat} (h : Two a w r1 r2) (g : w.grownBy w' r2) : Two a w' r1 r2 :=
  ⟨g.os.trans h.os, g.tape.trans h.tape, g.output.trans h.output, Nat.le_trans h.size g.size, fun k hk h1 h2 => (g.block k (Nat.lt_of_lt_of_le hk h.size) h2).trans (h.block k hk h1 h2)⟩
theorem Two.still {S : Nat → Prop} {w w' : World} {r1 r2 : Option Nat} (h : Two w w' r1 r2) (h1 : ∀ g, r1 = some g → ¬ S g) (h2 : ∀ g, r2 = some g → ¬ S g) : Still S w w' :=
  ⟨h.size, fun b hs hb => h.block b hb (fun e => h1 b e.symm hs) (fun e => h2 b e.symm hs)⟩
theorem Two.below {B : Nat} {w w' : World} {r1 r2 : Option Nat} (h : Two w w' r1 r2) (hB : B ≤ w.heap.size) (h1 : ∀ g, r1 = some g → B ≤ g) (h2 : ∀ g, r2 = some g → B ≤ g) : Below B w w' :=
  ⟨h.os, h.tape, h.output, h.size, fun k hk => h.block k (by omega) (fun e => by have := h1 k e.symm; omega) (fun e => by have := h2 k e.symm; omega)⟩

set_option maxHeartbeats 1000000 in
theorem markB (lo hi : Nat) (l m : List Int) (n1 n2 : Nat) (A1 A2 : Option Addr) (c1 c2 : Nat) (w : World) (hn1 : l.length = n1) (hn2 : m.length = n2) (h1 : OwnS w lo hi 2 1 enI (.slice A1 n1 c1) l) (h2 : OwnS w lo hi 2 1 enI (.slice A2 n2 c2) m)
    (hl1 : l.length ≤ 1048576) (hl2 : m.length ≤ 1048576) (hh : hi ≤ w.heap.size) (ha : Apart (.slice A1 n1 c1) (.slice A2 n2 c2)) :
    Calls Try.prog 18 #[.agg #[.slice A1 n1 c1, .slice A2 n2 c2], .int .i64 1] w fun e w' => ∃ z : Nat, e = .returned (.int .i64 (z : Int)) ∧
      Two w w' (Value.slice A1 n1 c1).ownBlock (Value.slice A2 n2 c2).ownBlock := by
  obtain ⟨u1, hu1⟩ : ∃ u, Value.slice A1 n1 c1 = u := ⟨_, rfl⟩
  obtain ⟨u2, hu2⟩ : ∃ u, Value.slice A2 n2 c2 = u := ⟨_, rfl⟩
  rw [hu1] at h1 ha ⊢
  rw [hu2] at h2 ha ⊢
  clear hu1 hu2
  have hb1 := h1.block
  have hb2 := h2.block
  have HA := Lib.hid ha
  have H1 := Lib.hid hb1
  have H2 := Lib.hid hb2
  have HO1 := Lib.hid h1
  have HO2 := Lib.hid h2
  have HL1 := Lib.hid hl1
  have HL2 := Lib.hid hl2
  clear h1 h2 ha hb1 hb2 hn1 hn2 hl1 hl2
  go_enter Try.func18, Try.ntmps18
  go_upto_region 1 with (fail)
  refine wp_gen (fun W' => Below w.heap.size w W' ∧ RowB W' w.heap.size 34 [u1, u2]) ⟨by go_grown, RowB.new _ _ _⟩ ?_
  rintro w1 ⟨hb, ra⟩
  obtain ⟨p0, p1⟩ := ra.c2
  have hg := ra.lt
  have T := Lib.hid (Two.of (r1 := u1.ownBlock) (r2 := u2.ownBlock) hb)
  have O1 := Lib.hid (HO1.out.below hb hh)
  have O2 := Lib.hid (HO2.out.below hb hh)
  have HR := Lib.hid ra
  clear hb HO1 HO2 ra
  go_wp2_with fail
  refine (markI lo hi u1 1 l w1 HL1.out (by omega) O1.out).mono ?_
  rintro e w2 ⟨rfl, hg1, -⟩
  have T := Lib.hid (T.out.g1 hg1)
  have O2 := Lib.hid (Own.OwnS.far O2.out hg1 HA.out)
  have rb : RowB w2 w.heap.size 34 [u1, u2] := (hg1.block w.heap.size HR.out.lt (fun e => by have := H1.out _ e.symm; omega)).trans HR.out
  clear p0 p1 hg HR hg1 O1
  obtain ⟨p0, p1⟩ := rb.c2
  have hg := rb.lt
  have hk : 1 + l.length ≤ 16777216 := by have := HL1.out; omega
  obtain ⟨k, hke⟩ : ∃ k, 1 + l.length = k := ⟨_, rfl⟩
  rw [hke] at hk ⊢
  clear hke rb
  go_wp2_with fail
  refine (markI lo hi u2 k m w2 HL2.out hk O2.out).mono ?_
  rintro e w3 ⟨rfl, hg2, -⟩
  have T := Lib.hid (T.out.g2 hg2)
  clear p0 p1 hg hg2 O2
  go_wp2_with fail
  go_ret
  exact ⟨_, rfl, T.out⟩
end Go.Proofs.Ytfgkkmhafdbicaa.Bd37
