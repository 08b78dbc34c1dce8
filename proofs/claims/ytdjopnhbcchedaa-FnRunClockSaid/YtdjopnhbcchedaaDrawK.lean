/-
  The draw of clock rules. Conditions: each theorem's own.
-/
import Derived.Test.YtdjopnhbcchedaaDraw
import Derived.Test.YtdjopnhbcchedaaInv
import Derived.Deep.RegionHeld3
set_option linter.unusedVariables false
namespace Go.Proofs.Ytdjopnhbcchedaa.DrawK
open Go.ChangeShapes Go.WideShapes Go.ChangeAt Go.RowKit Base Ints Own Draw RegInv
theorem grownBy_drew {a b : World} {row : Option Nat} (h : a.grownBy b row) : a.grownBy b.drew row := ⟨h.os, h.tape, h.output, h.size, h.block⟩
variable {w0 w w' : World} {B g cp : Nat} {A : Option Addr} {xs : List Int}
theorem pickI {W : World} {b : Nat} {e : TypeId} {cs : List Value} (h : RowB W b e cs) (hi : ∀ u ∈ cs, ∃ x : Int, u = .int .i64 x) {m : Nat} (hm : m < cs.length) : ∃ x : Int, W.cell? ⟨b, m, none⟩ = some (.int .i64 x) := by
  obtain ⟨x, hx⟩ := hi _ (List.getElem_mem hm)
  exact ⟨x, by rw [h.cell, List.getElem?_eq_getElem hm, hx]⟩
/-- Rules under way: the box p. -/
structure Ru (w0 w : World) (B g cp : Nat) (A : Option Addr) (xs : List Int) (p : Nat) (x y z : Int) (W : World) : Prop where
  D : Dr w0 B g A cp xs W
  gr : w.grownBy W (some g)
  rr : RowB W w.heap.size 25 [.int .i64 0, .int .i64 0, .int .i64 0]
  rp : RowB W p 25 [.int .i64 x, .int .i64 y, .int .i64 z]
  hp : w.heap.size < p ∧ p ≠ g ∧ B ≤ g ∧ g < w.heap.size
section
variable {p : Nat} {x y z : Int} {W W' : World}
theorem Ru.grown (h : Ru w0 w B g cp A xs p x y z W) (hD : Dr w0 B g A cp xs W') (hg : W.grownBy W' (some g)) : Ru w0 w B g cp A xs p x y z W' :=
  ⟨hD, grownBy_trans h.gr hg, h.rr.grown hg (fun k hk => by simp at hk; have := h.hp; omega), h.rp.grown hg (fun k hk => by simp at hk; have := h.hp; omega), h.hp⟩
theorem Ru.alloc (h : Ru w0 w B g cp A xs p x y z W) (o : Obj) : Ru w0 w B g cp A xs p x y z (W.alloc o) :=
  ⟨h.D.alloc _, grownBy_trans h.gr (World.grownBy_alloc _ _ _), h.rr.alloc _, h.rp.alloc _, h.hp⟩
theorem Ru.set (h : Ru w0 w B g cp A xs p x y z W) (j : Nat) (u : Int) : Ru w0 w B g cp A xs p (if j = 0 then u else x) (if j = 1 then u else y) (if j = 2 then u else z) (W.setCell ⟨p, j, none⟩ (.int .i64 u)) := by
  have hp := h.hp
  refine ⟨h.D.set (by omega) hp.2.1 _, grown_new h.gr (by omega) _, h.rr.other (by simp; omega) _, ?_, hp⟩
  have := h.rp.set j (.int .i64 u)
  match j, this with
  | 0, this => exact this
  | 1, this => exact this
  | 2, this => exact this
  | j + 3, this => exact this
end
structure RuF (w0 w : World) (B g cp : Nat) (A : Option Addr) (xs : List Int) (L : Nat → Prop) (v3 v4 v5 v6 v7 v8 v9 v10 v11 v12 v13 v14 v15 v16 v17 : Value) (w' : World) : Prop where
  D : Dr w0 B g A cp xs w'
  gr : w.grownBy w' (some g)
  rr : RowB w' w.heap.size 25 [.int .i64 0, .int .i64 0, .int .i64 0]
  f0 : L 0 → v4 = .pointer (some ⟨g, 0, none⟩)
  f1 : L 1 → ∃ x : Int, v5 = .int .i64 x ∧ 0 ≤ x ∧ x < 200
  f2 : L 2 → ∃ x : Int, v6 = .int .i64 x
  f3 : L 3 → ¬ L 15 → Blk (w.heap.size + 1) g w' v7 3 2 [.int .i64 0, .int .i64 5, .int .i64 20]
  f4 : L 4 → v8 = .pointer (some ⟨g, 0, none⟩)
  f5 : L 5 → ∃ x : Int, v9 = .int .i64 x ∧ 0 ≤ x ∧ x < 3
  f6 : L 6 → ¬ L 15 → Cel (w.heap.size + 1) g w' v10
  f7 : L 7 → ∃ x : Int, v11 = .int .i64 x
  f8 : L 8 → ¬ L 15 → Blk (w.heap.size + 1) g w' v12 3 2 [.int .i64 0, .int .i64 3, .int .i64 10]
  f9 : L 9 → v13 = .pointer (some ⟨g, 0, none⟩)
  f10 : L 10 → ∃ x : Int, v14 = .int .i64 x ∧ 0 ≤ x ∧ x < 3
  f11 : L 11 → ¬ L 15 → Cel (w.heap.size + 1) g w' v15
  f12 : L 12 → ∃ x : Int, v16 = .int .i64 x
  f13 : L 13 → ∃ x y z : Int, v17 = .agg #[.int .i64 x, .int .i64 y, .int .i64 z]
  f14 : L 14 → ¬ L 15 → Bx_ (w.heap.size + 1) g w' v3 25 [.int .i64 0, .int .i64 0, .int .i64 0]
  f15 : L 15 → ∃ x y z : Int, Bx_ (w.heap.size + 1) g w' v3 25 [.int .i64 x, .int .i64 y, .int .i64 z]

set_option maxHeartbeats 4000000 in
set_option maxRecDepth 100000 in
theorem rules (h : Dr w0 B g A cp xs w) :
    Calls Try.prog 55 #[.pointer (some ⟨g, 0, none⟩)] w fun e w' => (∃ r d b : Int, e = .returned (.agg #[.int .i64 r, .int .i64 d, .int .i64 b])) ∧ Dr w0 B g A cp xs w' ∧ w.grownBy w' (some g) := by
  have hlt := h.lt
  have hbg := h.base
  go_enter Try.func55, Try.ntmps55
  go_upto_region 1 with (fail)
  refine region_inv (fun a0 L a w' => ∃ v3 v4 v5 v6 v7 v8 v9 v10 v11 v12 v13 v14 v15 v16 v17 : Value, a = (((((((((((((((a0.put (some 3) v3).put (some 4) v4).put (some 5) v5).put (some 6) v6).put (some 7) v7).put (some 8) v8).put (some 9) v9).put (some 10) v10).put (some 11) v11).put (some 12) v12).put (some 13) v13).put (some 14) v14).put (some 15) v15).put (some 16) v16).put (some 17) v17) ∧ RuF w0 w B g cp A xs L v3 v4 v5 v6 v7 v8 v9 v10 v11 v12 v13 v14 v15 v16 v17 w') (by kernel_rfl) (by kernel_rfl) ?h0 ?hst ?fin
  case h0 =>
    exact ⟨undef, undef, undef, undef, undef, undef, undef, undef, undef, undef, undef, undef, undef, undef, undef, by simp only [Act.put, List.setIfInBounds_toArray, List.set_cons_zero, List.set_cons_succ], ⟨(h.alloc _).drew, grownBy_drew (World.grownBy_alloc _ _ _), RowB.drew (RowB.new _ _ _), fun h => (h : False).elim, fun h => (h : False).elim, fun h => (h : False).elim, fun h => (h : False).elim, fun h => (h : False).elim, fun h => (h : False).elim, fun h => (h : False).elim, fun h => (h : False).elim, fun h => (h : False).elim, fun h => (h : False).elim, fun h => (h : False).elim, fun h => (h : False).elim, fun h => (h : False).elim, fun h => (h : False).elim, fun h => (h : False).elim, fun h => (h : False).elim⟩⟩
  case hst =>
    refine StepsFrom.cons rfl (fun L a w' hI hno hdep hcl K hK => ?_) ?_
    · obtain ⟨v3, v4, v5, v6, v7, v8, v9, v10, v11, v12, v13, v14, v15, v16, v17, ha, F⟩ := hI
      subst ha
      simp only [Act.put, List.setIfInBounds_toArray, List.set_cons_zero, List.set_cons_succ]
      go_simp
      exact hK.out _ _ ⟨v3, _, v5, v6, v7, v8, v9, v10, v11, v12, v13, v14, v15, v16, v17, by simp only [Act.put, List.setIfInBounds_toArray, List.set_cons_zero, List.set_cons_succ], ⟨F.D, F.gr, F.rr, fun _ => rfl, fun h => F.f1 (h.resolve_left (by decide)), fun h => F.f2 (h.resolve_left (by decide)), fun h hn => (F.f3 (h.resolve_left (by decide)) (fun x => hn (Or.inr x))), fun h => F.f4 (h.resolve_left (by decide)), fun h => F.f5 (h.resolve_left (by decide)), fun h hn => (F.f6 (h.resolve_left (by decide)) (fun x => hn (Or.inr x))), fun h => F.f7 (h.resolve_left (by decide)), fun h hn => (F.f8 (h.resolve_left (by decide)) (fun x => hn (Or.inr x))), fun h => F.f9 (h.resolve_left (by decide)), fun h => F.f10 (h.resolve_left (by decide)), fun h hn => (F.f11 (h.resolve_left (by decide)) (fun x => hn (Or.inr x))), fun h => F.f12 (h.resolve_left (by decide)), fun h => F.f13 (h.resolve_left (by decide)), fun h hn => (F.f14 (h.resolve_left (by decide)) (fun x => hn (Or.inr x))), fun h => absurd (hcl 15 0 (by kernel_rfl) (h.resolve_left (by decide))) hno⟩⟩
    refine StepsFrom.cons rfl (fun L a w' hI hno hdep hcl K hK => ?_) ?_
    · obtain ⟨v3, v4, v5, v6, v7, v8, v9, v10, v11, v12, v13, v14, v15, v16, v17, ha, F⟩ := hI
      have e4 := F.f0 (hdep 0 (by kernel_rfl))
      subst ha
      simp only [Act.put, List.setIfInBounds_toArray, List.set_cons_zero, List.set_cons_succ, e4]
      go_simp
      refine (next' F.D 200 (by decide)).mono ?_
      rintro e w2 ⟨⟨x, rfl, x0, x1, -⟩, hD, hg2, -⟩
      have x1 := x1 (by decide)
      have hk : Kp (w.heap.size + 1) g w' w2 := Kp.grown hg2
      exact hK.out _ _ ⟨v3, v4, _, v6, v7, v8, v9, v10, v11, v12, v13, v14, v15, v16, v17, by simp only [Act.put, List.setIfInBounds_toArray, List.set_cons_zero, List.set_cons_succ, e4], ⟨hD, grownBy_trans F.gr hg2, F.rr.grown hg2 (fun k hk => by simp at hk; omega), fun h => F.f0 (h.resolve_left (by decide)), fun _ => ⟨x, rfl, x0, x1⟩, fun h => F.f2 (h.resolve_left (by decide)), fun h hn => (F.f3 (h.resolve_left (by decide)) (fun x => hn (Or.inr x))).keep hk, fun h => F.f4 (h.resolve_left (by decide)), fun h => F.f5 (h.resolve_left (by decide)), fun h hn => (F.f6 (h.resolve_left (by decide)) (fun x => hn (Or.inr x))).keep hk, fun h => F.f7 (h.resolve_left (by decide)), fun h hn => (F.f8 (h.resolve_left (by decide)) (fun x => hn (Or.inr x))).keep hk, fun h => F.f9 (h.resolve_left (by decide)), fun h => F.f10 (h.resolve_left (by decide)), fun h hn => (F.f11 (h.resolve_left (by decide)) (fun x => hn (Or.inr x))).keep hk, fun h => F.f12 (h.resolve_left (by decide)), fun h => F.f13 (h.resolve_left (by decide)), fun h hn => (F.f14 (h.resolve_left (by decide)) (fun x => hn (Or.inr x))).keep hk, fun h => absurd (hcl 15 1 (by kernel_rfl) (h.resolve_left (by decide))) hno⟩⟩
    refine StepsFrom.cons rfl (fun L a w' hI hno hdep hcl K hK => ?_) ?_
    · obtain ⟨v3, v4, v5, v6, v7, v8, v9, v10, v11, v12, v13, v14, v15, v16, v17, ha, F⟩ := hI
      obtain ⟨x, e5, x0, x1⟩ := F.f1 (hdep 1 (by kernel_rfl))
      subst ha
      simp only [Act.put, List.setIfInBounds_toArray, List.set_cons_zero, List.set_cons_succ, e5]
      go_simp
      exact hK.out _ _ ⟨v3, v4, v5, .int .i64 (IntKind.i64.wrap (1 + x)), v7, v8, v9, v10, v11, v12, v13, v14, v15, v16, v17, by simp only [Act.put, List.setIfInBounds_toArray, List.set_cons_zero, List.set_cons_succ, e5], ⟨F.D, F.gr, F.rr, fun h => F.f0 (h.resolve_left (by decide)), fun h => F.f1 (h.resolve_left (by decide)), fun _ => ⟨_, rfl⟩, fun h hn => (F.f3 (h.resolve_left (by decide)) (fun x => hn (Or.inr x))), fun h => F.f4 (h.resolve_left (by decide)), fun h => F.f5 (h.resolve_left (by decide)), fun h hn => (F.f6 (h.resolve_left (by decide)) (fun x => hn (Or.inr x))), fun h => F.f7 (h.resolve_left (by decide)), fun h hn => (F.f8 (h.resolve_left (by decide)) (fun x => hn (Or.inr x))), fun h => F.f9 (h.resolve_left (by decide)), fun h => F.f10 (h.resolve_left (by decide)), fun h hn => (F.f11 (h.resolve_left (by decide)) (fun x => hn (Or.inr x))), fun h => F.f12 (h.resolve_left (by decide)), fun h => F.f13 (h.resolve_left (by decide)), fun h hn => (F.f14 (h.resolve_left (by decide)) (fun x => hn (Or.inr x))), fun h => absurd (hcl 15 2 (by kernel_rfl) (h.resolve_left (by decide))) hno⟩⟩
    refine StepsFrom.cons rfl (fun L a w' hI hno hdep hcl K hK => ?_) ?_
    · obtain ⟨v3, v4, v5, v6, v7, v8, v9, v10, v11, v12, v13, v14, v15, v16, v17, ha, F⟩ := hI
      have hsz := F.gr.size
      have hDl := F.D.lt
      have hrl := F.rr.lt
      subst ha
      simp only [Act.put, List.setIfInBounds_toArray, List.set_cons_zero, List.set_cons_succ]
      go_simp
      exact hK.out _ _ ⟨v3, v4, v5, v6, _, v8, v9, v10, v11, v12, v13, v14, v15, v16, v17, by simp only [Act.put, List.setIfInBounds_toArray, List.set_cons_zero, List.set_cons_succ], ⟨F.D.alloc _, grownBy_trans F.gr (World.grownBy_alloc _ _ _), F.rr.alloc _, fun h => F.f0 (h.resolve_left (by decide)), fun h => F.f1 (h.resolve_left (by decide)), fun h => F.f2 (h.resolve_left (by decide)), fun _ _ => ⟨_, rfl, by omega, by omega, RowB.new _ _ _⟩, fun h => F.f4 (h.resolve_left (by decide)), fun h => F.f5 (h.resolve_left (by decide)), fun h hn => (F.f6 (h.resolve_left (by decide)) (fun x => hn (Or.inr x))).keep (Kp.alloc _ _ _ _), fun h => F.f7 (h.resolve_left (by decide)), fun h hn => (F.f8 (h.resolve_left (by decide)) (fun x => hn (Or.inr x))).keep (Kp.alloc _ _ _ _), fun h => F.f9 (h.resolve_left (by decide)), fun h => F.f10 (h.resolve_left (by decide)), fun h hn => (F.f11 (h.resolve_left (by decide)) (fun x => hn (Or.inr x))).keep (Kp.alloc _ _ _ _), fun h => F.f12 (h.resolve_left (by decide)), fun h => F.f13 (h.resolve_left (by decide)), fun h hn => (F.f14 (h.resolve_left (by decide)) (fun x => hn (Or.inr x))).keep (Kp.alloc _ _ _ _), fun h => absurd (hcl 15 3 (by kernel_rfl) (h.resolve_left (by decide))) hno⟩⟩
    refine StepsFrom.cons rfl (fun L a w' hI hno hdep hcl K hK => ?_) ?_
    · obtain ⟨v3, v4, v5, v6, v7, v8, v9, v10, v11, v12, v13, v14, v15, v16, v17, ha, F⟩ := hI
      subst ha
      simp only [Act.put, List.setIfInBounds_toArray, List.set_cons_zero, List.set_cons_succ]
      go_simp
      exact hK.out _ _ ⟨v3, v4, v5, v6, v7, _, v9, v10, v11, v12, v13, v14, v15, v16, v17, by simp only [Act.put, List.setIfInBounds_toArray, List.set_cons_zero, List.set_cons_succ], ⟨F.D, F.gr, F.rr, fun h => F.f0 (h.resolve_left (by decide)), fun h => F.f1 (h.resolve_left (by decide)), fun h => F.f2 (h.resolve_left (by decide)), fun h hn => (F.f3 (h.resolve_left (by decide)) (fun x => hn (Or.inr x))), fun _ => rfl, fun h => F.f5 (h.resolve_left (by decide)), fun h hn => (F.f6 (h.resolve_left (by decide)) (fun x => hn (Or.inr x))), fun h => F.f7 (h.resolve_left (by decide)), fun h hn => (F.f8 (h.resolve_left (by decide)) (fun x => hn (Or.inr x))), fun h => F.f9 (h.resolve_left (by decide)), fun h => F.f10 (h.resolve_left (by decide)), fun h hn => (F.f11 (h.resolve_left (by decide)) (fun x => hn (Or.inr x))), fun h => F.f12 (h.resolve_left (by decide)), fun h => F.f13 (h.resolve_left (by decide)), fun h hn => (F.f14 (h.resolve_left (by decide)) (fun x => hn (Or.inr x))), fun h => absurd (hcl 15 4 (by kernel_rfl) (h.resolve_left (by decide))) hno⟩⟩
    refine StepsFrom.cons rfl (fun L a w' hI hno hdep hcl K hK => ?_) ?_
    · obtain ⟨v3, v4, v5, v6, v7, v8, v9, v10, v11, v12, v13, v14, v15, v16, v17, ha, F⟩ := hI
      have e8 := F.f4 (hdep 4 (by kernel_rfl))
      subst ha
      simp only [Act.put, List.setIfInBounds_toArray, List.set_cons_zero, List.set_cons_succ, e8]
      go_simp
      refine (next' F.D 3 (by decide)).mono ?_
      rintro e w2 ⟨⟨x, rfl, x0, x1, -⟩, hD, hg2, -⟩
      have x1 := x1 (by decide)
      have hk : Kp (w.heap.size + 1) g w' w2 := Kp.grown hg2
      exact hK.out _ _ ⟨v3, v4, v5, v6, v7, v8, _, v10, v11, v12, v13, v14, v15, v16, v17, by simp only [Act.put, List.setIfInBounds_toArray, List.set_cons_zero, List.set_cons_succ, e8], ⟨hD, grownBy_trans F.gr hg2, F.rr.grown hg2 (fun k hk => by simp at hk; omega), fun h => F.f0 (h.resolve_left (by decide)), fun h => F.f1 (h.resolve_left (by decide)), fun h => F.f2 (h.resolve_left (by decide)), fun h hn => (F.f3 (h.resolve_left (by decide)) (fun x => hn (Or.inr x))).keep hk, fun h => F.f4 (h.resolve_left (by decide)), fun _ => ⟨x, rfl, x0, x1⟩, fun h hn => (F.f6 (h.resolve_left (by decide)) (fun x => hn (Or.inr x))).keep hk, fun h => F.f7 (h.resolve_left (by decide)), fun h hn => (F.f8 (h.resolve_left (by decide)) (fun x => hn (Or.inr x))).keep hk, fun h => F.f9 (h.resolve_left (by decide)), fun h => F.f10 (h.resolve_left (by decide)), fun h hn => (F.f11 (h.resolve_left (by decide)) (fun x => hn (Or.inr x))).keep hk, fun h => F.f12 (h.resolve_left (by decide)), fun h => F.f13 (h.resolve_left (by decide)), fun h hn => (F.f14 (h.resolve_left (by decide)) (fun x => hn (Or.inr x))).keep hk, fun h => absurd (hcl 15 5 (by kernel_rfl) (h.resolve_left (by decide))) hno⟩⟩
    refine StepsFrom.cons rfl (fun L a w' hI hno hdep hcl K hK => ?_) ?_
    · obtain ⟨v3, v4, v5, v6, v7, v8, v9, v10, v11, v12, v13, v14, v15, v16, v17, ha, F⟩ := hI
      have ns : ¬ L 15 := fun x => hno (hcl 15 6 (by kernel_rfl) x)
      obtain ⟨bb, e7, hb1, hb2, hR⟩ := F.f3 (hdep 3 (by kernel_rfl)) ns
      obtain ⟨x, e9, x0, x1⟩ := F.f5 (hdep 5 (by kernel_rfl))
      obtain ⟨m, rfl⟩ : ∃ m : Nat, x = m := ⟨x.toNat, by omega⟩
      have hc : ∃ z : Int, ([.int .i64 0, .int .i64 5, .int .i64 20] : List Value)[m]? = some (.int .i64 z) := by (obtain rfl | rfl | rfl : m = 0 ∨ m = 1 ∨ m = 2 := by omega) <;> exact ⟨_, rfl⟩
      subst ha
      simp only [Act.put, List.setIfInBounds_toArray, List.set_cons_zero, List.set_cons_succ, e7, e9]
      go_simp
      exact hK.out _ _ ⟨v3, v4, v5, v6, v7, v8, v9, .pointer (some ⟨bb, m, none⟩), v11, v12, v13, v14, v15, v16, v17, by simp only [Act.put, List.setIfInBounds_toArray, List.set_cons_zero, List.set_cons_succ, e7, e9], ⟨F.D, F.gr, F.rr, fun h => F.f0 (h.resolve_left (by decide)), fun h => F.f1 (h.resolve_left (by decide)), fun h => F.f2 (h.resolve_left (by decide)), fun h hn => (F.f3 (h.resolve_left (by decide)) (fun x => hn (Or.inr x))), fun h => F.f4 (h.resolve_left (by decide)), fun h => F.f5 (h.resolve_left (by decide)), fun _ _ => by obtain ⟨z, hz⟩ := hc; exact ⟨_, _, _, _, z, rfl, hb1, hb2, hR, hz⟩, fun h => F.f7 (h.resolve_left (by decide)), fun h hn => (F.f8 (h.resolve_left (by decide)) (fun x => hn (Or.inr x))), fun h => F.f9 (h.resolve_left (by decide)), fun h => F.f10 (h.resolve_left (by decide)), fun h hn => (F.f11 (h.resolve_left (by decide)) (fun x => hn (Or.inr x))), fun h => F.f12 (h.resolve_left (by decide)), fun h => F.f13 (h.resolve_left (by decide)), fun h hn => (F.f14 (h.resolve_left (by decide)) (fun x => hn (Or.inr x))), fun h => absurd (hcl 15 6 (by kernel_rfl) (h.resolve_left (by decide))) hno⟩⟩
    refine StepsFrom.cons rfl (fun L a w' hI hno hdep hcl K hK => ?_) ?_
    · obtain ⟨v3, v4, v5, v6, v7, v8, v9, v10, v11, v12, v13, v14, v15, v16, v17, ha, F⟩ := hI
      have ns : ¬ L 15 := fun x => hno (hcl 15 7 (by kernel_rfl) x)
      obtain ⟨bb, j, te, cs, x, e10, hb1, hb2, hR, hx⟩ := F.f6 (hdep 6 (by kernel_rfl)) ns
      have hc := (hR.cell j).trans hx
      clear hx hR
      subst ha
      simp only [Act.put, List.setIfInBounds_toArray, List.set_cons_zero, List.set_cons_succ, e10]
      go_simp
      exact hK.out _ _ ⟨v3, v4, v5, v6, v7, v8, v9, v10, .int .i64 x, v12, v13, v14, v15, v16, v17, by simp only [Act.put, List.setIfInBounds_toArray, List.set_cons_zero, List.set_cons_succ, e10], ⟨F.D, F.gr, F.rr, fun h => F.f0 (h.resolve_left (by decide)), fun h => F.f1 (h.resolve_left (by decide)), fun h => F.f2 (h.resolve_left (by decide)), fun h hn => (F.f3 (h.resolve_left (by decide)) (fun x => hn (Or.inr x))), fun h => F.f4 (h.resolve_left (by decide)), fun h => F.f5 (h.resolve_left (by decide)), fun h hn => (F.f6 (h.resolve_left (by decide)) (fun x => hn (Or.inr x))), fun _ => ⟨_, rfl⟩, fun h hn => (F.f8 (h.resolve_left (by decide)) (fun x => hn (Or.inr x))), fun h => F.f9 (h.resolve_left (by decide)), fun h => F.f10 (h.resolve_left (by decide)), fun h hn => (F.f11 (h.resolve_left (by decide)) (fun x => hn (Or.inr x))), fun h => F.f12 (h.resolve_left (by decide)), fun h => F.f13 (h.resolve_left (by decide)), fun h hn => (F.f14 (h.resolve_left (by decide)) (fun x => hn (Or.inr x))), fun h => absurd (hcl 15 7 (by kernel_rfl) (h.resolve_left (by decide))) hno⟩⟩
    refine StepsFrom.cons rfl (fun L a w' hI hno hdep hcl K hK => ?_) ?_
    · obtain ⟨v3, v4, v5, v6, v7, v8, v9, v10, v11, v12, v13, v14, v15, v16, v17, ha, F⟩ := hI
      have hsz := F.gr.size
      have hDl := F.D.lt
      have hrl := F.rr.lt
      subst ha
      simp only [Act.put, List.setIfInBounds_toArray, List.set_cons_zero, List.set_cons_succ]
      go_simp
      exact hK.out _ _ ⟨v3, v4, v5, v6, v7, v8, v9, v10, v11, _, v13, v14, v15, v16, v17, by simp only [Act.put, List.setIfInBounds_toArray, List.set_cons_zero, List.set_cons_succ], ⟨F.D.alloc _, grownBy_trans F.gr (World.grownBy_alloc _ _ _), F.rr.alloc _, fun h => F.f0 (h.resolve_left (by decide)), fun h => F.f1 (h.resolve_left (by decide)), fun h => F.f2 (h.resolve_left (by decide)), fun h hn => (F.f3 (h.resolve_left (by decide)) (fun x => hn (Or.inr x))).keep (Kp.alloc _ _ _ _), fun h => F.f4 (h.resolve_left (by decide)), fun h => F.f5 (h.resolve_left (by decide)), fun h hn => (F.f6 (h.resolve_left (by decide)) (fun x => hn (Or.inr x))).keep (Kp.alloc _ _ _ _), fun h => F.f7 (h.resolve_left (by decide)), fun _ _ => ⟨_, rfl, by omega, by omega, RowB.new _ _ _⟩, fun h => F.f9 (h.resolve_left (by decide)), fun h => F.f10 (h.resolve_left (by decide)), fun h hn => (F.f11 (h.resolve_left (by decide)) (fun x => hn (Or.inr x))).keep (Kp.alloc _ _ _ _), fun h => F.f12 (h.resolve_left (by decide)), fun h => F.f13 (h.resolve_left (by decide)), fun h hn => (F.f14 (h.resolve_left (by decide)) (fun x => hn (Or.inr x))).keep (Kp.alloc _ _ _ _), fun h => absurd (hcl 15 8 (by kernel_rfl) (h.resolve_left (by decide))) hno⟩⟩
    refine StepsFrom.cons rfl (fun L a w' hI hno hdep hcl K hK => ?_) ?_
    · obtain ⟨v3, v4, v5, v6, v7, v8, v9, v10, v11, v12, v13, v14, v15, v16, v17, ha, F⟩ := hI
      subst ha
      simp only [Act.put, List.setIfInBounds_toArray, List.set_cons_zero, List.set_cons_succ]
      go_simp
      exact hK.out _ _ ⟨v3, v4, v5, v6, v7, v8, v9, v10, v11, v12, _, v14, v15, v16, v17, by simp only [Act.put, List.setIfInBounds_toArray, List.set_cons_zero, List.set_cons_succ], ⟨F.D, F.gr, F.rr, fun h => F.f0 (h.resolve_left (by decide)), fun h => F.f1 (h.resolve_left (by decide)), fun h => F.f2 (h.resolve_left (by decide)), fun h hn => (F.f3 (h.resolve_left (by decide)) (fun x => hn (Or.inr x))), fun h => F.f4 (h.resolve_left (by decide)), fun h => F.f5 (h.resolve_left (by decide)), fun h hn => (F.f6 (h.resolve_left (by decide)) (fun x => hn (Or.inr x))), fun h => F.f7 (h.resolve_left (by decide)), fun h hn => (F.f8 (h.resolve_left (by decide)) (fun x => hn (Or.inr x))), fun _ => rfl, fun h => F.f10 (h.resolve_left (by decide)), fun h hn => (F.f11 (h.resolve_left (by decide)) (fun x => hn (Or.inr x))), fun h => F.f12 (h.resolve_left (by decide)), fun h => F.f13 (h.resolve_left (by decide)), fun h hn => (F.f14 (h.resolve_left (by decide)) (fun x => hn (Or.inr x))), fun h => absurd (hcl 15 9 (by kernel_rfl) (h.resolve_left (by decide))) hno⟩⟩
    refine StepsFrom.cons rfl (fun L a w' hI hno hdep hcl K hK => ?_) ?_
    · obtain ⟨v3, v4, v5, v6, v7, v8, v9, v10, v11, v12, v13, v14, v15, v16, v17, ha, F⟩ := hI
      have e13 := F.f9 (hdep 9 (by kernel_rfl))
      subst ha
      simp only [Act.put, List.setIfInBounds_toArray, List.set_cons_zero, List.set_cons_succ, e13]
      go_simp
      refine (next' F.D 3 (by decide)).mono ?_
      rintro e w2 ⟨⟨x, rfl, x0, x1, -⟩, hD, hg2, -⟩
      have x1 := x1 (by decide)
      have hk : Kp (w.heap.size + 1) g w' w2 := Kp.grown hg2
      exact hK.out _ _ ⟨v3, v4, v5, v6, v7, v8, v9, v10, v11, v12, v13, _, v15, v16, v17, by simp only [Act.put, List.setIfInBounds_toArray, List.set_cons_zero, List.set_cons_succ, e13], ⟨hD, grownBy_trans F.gr hg2, F.rr.grown hg2 (fun k hk => by simp at hk; omega), fun h => F.f0 (h.resolve_left (by decide)), fun h => F.f1 (h.resolve_left (by decide)), fun h => F.f2 (h.resolve_left (by decide)), fun h hn => (F.f3 (h.resolve_left (by decide)) (fun x => hn (Or.inr x))).keep hk, fun h => F.f4 (h.resolve_left (by decide)), fun h => F.f5 (h.resolve_left (by decide)), fun h hn => (F.f6 (h.resolve_left (by decide)) (fun x => hn (Or.inr x))).keep hk, fun h => F.f7 (h.resolve_left (by decide)), fun h hn => (F.f8 (h.resolve_left (by decide)) (fun x => hn (Or.inr x))).keep hk, fun h => F.f9 (h.resolve_left (by decide)), fun _ => ⟨x, rfl, x0, x1⟩, fun h hn => (F.f11 (h.resolve_left (by decide)) (fun x => hn (Or.inr x))).keep hk, fun h => F.f12 (h.resolve_left (by decide)), fun h => F.f13 (h.resolve_left (by decide)), fun h hn => (F.f14 (h.resolve_left (by decide)) (fun x => hn (Or.inr x))).keep hk, fun h => absurd (hcl 15 10 (by kernel_rfl) (h.resolve_left (by decide))) hno⟩⟩
    refine StepsFrom.cons rfl (fun L a w' hI hno hdep hcl K hK => ?_) ?_
    · obtain ⟨v3, v4, v5, v6, v7, v8, v9, v10, v11, v12, v13, v14, v15, v16, v17, ha, F⟩ := hI
      have ns : ¬ L 15 := fun x => hno (hcl 15 11 (by kernel_rfl) x)
      obtain ⟨bb, e12, hb1, hb2, hR⟩ := F.f8 (hdep 8 (by kernel_rfl)) ns
      obtain ⟨x, e14, x0, x1⟩ := F.f10 (hdep 10 (by kernel_rfl))
      obtain ⟨m, rfl⟩ : ∃ m : Nat, x = m := ⟨x.toNat, by omega⟩
      have hc : ∃ z : Int, ([.int .i64 0, .int .i64 3, .int .i64 10] : List Value)[m]? = some (.int .i64 z) := by (obtain rfl | rfl | rfl : m = 0 ∨ m = 1 ∨ m = 2 := by omega) <;> exact ⟨_, rfl⟩
      subst ha
      simp only [Act.put, List.setIfInBounds_toArray, List.set_cons_zero, List.set_cons_succ, e12, e14]
      go_simp
      exact hK.out _ _ ⟨v3, v4, v5, v6, v7, v8, v9, v10, v11, v12, v13, v14, .pointer (some ⟨bb, m, none⟩), v16, v17, by simp only [Act.put, List.setIfInBounds_toArray, List.set_cons_zero, List.set_cons_succ, e12, e14], ⟨F.D, F.gr, F.rr, fun h => F.f0 (h.resolve_left (by decide)), fun h => F.f1 (h.resolve_left (by decide)), fun h => F.f2 (h.resolve_left (by decide)), fun h hn => (F.f3 (h.resolve_left (by decide)) (fun x => hn (Or.inr x))), fun h => F.f4 (h.resolve_left (by decide)), fun h => F.f5 (h.resolve_left (by decide)), fun h hn => (F.f6 (h.resolve_left (by decide)) (fun x => hn (Or.inr x))), fun h => F.f7 (h.resolve_left (by decide)), fun h hn => (F.f8 (h.resolve_left (by decide)) (fun x => hn (Or.inr x))), fun h => F.f9 (h.resolve_left (by decide)), fun h => F.f10 (h.resolve_left (by decide)), fun _ _ => by obtain ⟨z, hz⟩ := hc; exact ⟨_, _, _, _, z, rfl, hb1, hb2, hR, hz⟩, fun h => F.f12 (h.resolve_left (by decide)), fun h => F.f13 (h.resolve_left (by decide)), fun h hn => (F.f14 (h.resolve_left (by decide)) (fun x => hn (Or.inr x))), fun h => absurd (hcl 15 11 (by kernel_rfl) (h.resolve_left (by decide))) hno⟩⟩
    refine StepsFrom.cons rfl (fun L a w' hI hno hdep hcl K hK => ?_) ?_
    · obtain ⟨v3, v4, v5, v6, v7, v8, v9, v10, v11, v12, v13, v14, v15, v16, v17, ha, F⟩ := hI
      have ns : ¬ L 15 := fun x => hno (hcl 15 12 (by kernel_rfl) x)
      obtain ⟨bb, j, te, cs, x, e15, hb1, hb2, hR, hx⟩ := F.f11 (hdep 11 (by kernel_rfl)) ns
      have hc := (hR.cell j).trans hx
      clear hx hR
      subst ha
      simp only [Act.put, List.setIfInBounds_toArray, List.set_cons_zero, List.set_cons_succ, e15]
      go_simp
      exact hK.out _ _ ⟨v3, v4, v5, v6, v7, v8, v9, v10, v11, v12, v13, v14, v15, .int .i64 x, v17, by simp only [Act.put, List.setIfInBounds_toArray, List.set_cons_zero, List.set_cons_succ, e15], ⟨F.D, F.gr, F.rr, fun h => F.f0 (h.resolve_left (by decide)), fun h => F.f1 (h.resolve_left (by decide)), fun h => F.f2 (h.resolve_left (by decide)), fun h hn => (F.f3 (h.resolve_left (by decide)) (fun x => hn (Or.inr x))), fun h => F.f4 (h.resolve_left (by decide)), fun h => F.f5 (h.resolve_left (by decide)), fun h hn => (F.f6 (h.resolve_left (by decide)) (fun x => hn (Or.inr x))), fun h => F.f7 (h.resolve_left (by decide)), fun h hn => (F.f8 (h.resolve_left (by decide)) (fun x => hn (Or.inr x))), fun h => F.f9 (h.resolve_left (by decide)), fun h => F.f10 (h.resolve_left (by decide)), fun h hn => (F.f11 (h.resolve_left (by decide)) (fun x => hn (Or.inr x))), fun _ => ⟨_, rfl⟩, fun h => F.f13 (h.resolve_left (by decide)), fun h hn => (F.f14 (h.resolve_left (by decide)) (fun x => hn (Or.inr x))), fun h => absurd (hcl 15 12 (by kernel_rfl) (h.resolve_left (by decide))) hno⟩⟩
    refine StepsFrom.cons rfl (fun L a w' hI hno hdep hcl K hK => ?_) ?_
    · obtain ⟨v3, v4, v5, v6, v7, v8, v9, v10, v11, v12, v13, v14, v15, v16, v17, ha, F⟩ := hI
      obtain ⟨x, e6⟩ := F.f2 (hdep 2 (by kernel_rfl))
      obtain ⟨y, e11⟩ := F.f7 (hdep 7 (by kernel_rfl))
      obtain ⟨z, e16⟩ := F.f12 (hdep 12 (by kernel_rfl))
      subst ha
      simp only [Act.put, List.setIfInBounds_toArray, List.set_cons_zero, List.set_cons_succ, e6, e11, e16]
      go_simp
      exact hK.out _ _ ⟨v3, v4, v5, v6, v7, v8, v9, v10, v11, v12, v13, v14, v15, v16, .agg #[.int .i64 x, .int .i64 y, .int .i64 z], by simp only [Act.put, List.setIfInBounds_toArray, List.set_cons_zero, List.set_cons_succ, e6, e11, e16], ⟨F.D, F.gr, F.rr, fun h => F.f0 (h.resolve_left (by decide)), fun h => F.f1 (h.resolve_left (by decide)), fun h => F.f2 (h.resolve_left (by decide)), fun h hn => (F.f3 (h.resolve_left (by decide)) (fun x => hn (Or.inr x))), fun h => F.f4 (h.resolve_left (by decide)), fun h => F.f5 (h.resolve_left (by decide)), fun h hn => (F.f6 (h.resolve_left (by decide)) (fun x => hn (Or.inr x))), fun h => F.f7 (h.resolve_left (by decide)), fun h hn => (F.f8 (h.resolve_left (by decide)) (fun x => hn (Or.inr x))), fun h => F.f9 (h.resolve_left (by decide)), fun h => F.f10 (h.resolve_left (by decide)), fun h hn => (F.f11 (h.resolve_left (by decide)) (fun x => hn (Or.inr x))), fun h => F.f12 (h.resolve_left (by decide)), fun _ => ⟨_, _, _, rfl⟩, fun h hn => (F.f14 (h.resolve_left (by decide)) (fun x => hn (Or.inr x))), fun h => absurd (hcl 15 13 (by kernel_rfl) (h.resolve_left (by decide))) hno⟩⟩
    refine StepsFrom.cons rfl (fun L a w' hI hno hdep hcl K hK => ?_) ?_
    · obtain ⟨v3, v4, v5, v6, v7, v8, v9, v10, v11, v12, v13, v14, v15, v16, v17, ha, F⟩ := hI
      have hsz := F.gr.size
      have hDl := F.D.lt
      have hrl := F.rr.lt
      subst ha
      simp only [Act.put, List.setIfInBounds_toArray, List.set_cons_zero, List.set_cons_succ]
      go_simp
      exact hK.out _ _ ⟨_, v4, v5, v6, v7, v8, v9, v10, v11, v12, v13, v14, v15, v16, v17, by simp only [Act.put, List.setIfInBounds_toArray, List.set_cons_zero, List.set_cons_succ], ⟨F.D.alloc _, grownBy_trans F.gr (World.grownBy_alloc _ _ _), F.rr.alloc _, fun h => F.f0 (h.resolve_left (by decide)), fun h => F.f1 (h.resolve_left (by decide)), fun h => F.f2 (h.resolve_left (by decide)), fun h hn => (F.f3 (h.resolve_left (by decide)) (fun x => hn (Or.inr x))).keep (Kp.alloc _ _ _ _), fun h => F.f4 (h.resolve_left (by decide)), fun h => F.f5 (h.resolve_left (by decide)), fun h hn => (F.f6 (h.resolve_left (by decide)) (fun x => hn (Or.inr x))).keep (Kp.alloc _ _ _ _), fun h => F.f7 (h.resolve_left (by decide)), fun h hn => (F.f8 (h.resolve_left (by decide)) (fun x => hn (Or.inr x))).keep (Kp.alloc _ _ _ _), fun h => F.f9 (h.resolve_left (by decide)), fun h => F.f10 (h.resolve_left (by decide)), fun h hn => (F.f11 (h.resolve_left (by decide)) (fun x => hn (Or.inr x))).keep (Kp.alloc _ _ _ _), fun h => F.f12 (h.resolve_left (by decide)), fun h => F.f13 (h.resolve_left (by decide)), fun _ _ => ⟨_, rfl, by omega, by omega, RowB.new _ _ _⟩, fun h => absurd (hcl 15 14 (by kernel_rfl) (h.resolve_left (by decide))) hno⟩⟩
    refine StepsFrom.cons rfl (fun L a w' hI hno hdep hcl K hK => ?_) ?_
    · obtain ⟨v3, v4, v5, v6, v7, v8, v9, v10, v11, v12, v13, v14, v15, v16, v17, ha, F⟩ := hI
      have hDl := F.D.lt
      have hrl := F.rr.lt
      obtain ⟨x, y, z, e17⟩ := F.f13 (hdep 13 (by kernel_rfl))
      obtain ⟨bb, e3, hb1, hb2, hR⟩ := F.f14 (hdep 14 (by kernel_rfl)) hno
      obtain ⟨c0, c1, c2⟩ := hR.c3
      have hf := hR.frozen
      subst ha
      simp only [Act.put, List.setIfInBounds_toArray, List.set_cons_zero, List.set_cons_succ, e3, e17]
      go_simp
      exact hK.out _ _ ⟨v3, v4, v5, v6, v7, v8, v9, v10, v11, v12, v13, v14, v15, v16, v17, by simp only [Act.put, List.setIfInBounds_toArray, List.set_cons_zero, List.set_cons_succ, e3, e17], ⟨((F.D.set (by omega) hb2 _).set (by omega) hb2 _).set (by omega) hb2 _, grown_new (grown_new (grown_new F.gr (by omega) _) (by omega) _) (by omega) _, ((F.rr.other (by simp; omega) _).other (by simp; omega) _).other (by simp; omega) _, fun h => F.f0 (h.resolve_left (by decide)), fun h => F.f1 (h.resolve_left (by decide)), fun h => F.f2 (h.resolve_left (by decide)), fun _ hn => absurd (Or.inl rfl) hn, fun h => F.f4 (h.resolve_left (by decide)), fun h => F.f5 (h.resolve_left (by decide)), fun _ hn => absurd (Or.inl rfl) hn, fun h => F.f7 (h.resolve_left (by decide)), fun _ hn => absurd (Or.inl rfl) hn, fun h => F.f9 (h.resolve_left (by decide)), fun h => F.f10 (h.resolve_left (by decide)), fun _ hn => absurd (Or.inl rfl) hn, fun h => F.f12 (h.resolve_left (by decide)), fun h => F.f13 (h.resolve_left (by decide)), fun _ hn => absurd (Or.inl rfl) hn, fun _ => ⟨x, y, z, bb, e3, hb1, hb2, ((hR.set 0 _).set 1 _).set 2 _⟩⟩⟩
    exact StepsFrom.nil (by decide)
  case fin =>
    rintro L a' w1 ⟨v3, v4, v5, v6, v7, v8, v9, v10, v11, v12, v13, v14, v15, v16, v17, rfl, F⟩ hL
    obtain ⟨x, y, z, bb, e3, hb1, hb2, hR⟩ := F.f15 (hL 15 (by decide))
    have K : Ru w0 w B g cp A xs bb x y z w1 := ⟨F.D, F.gr, F.rr, hR, by omega⟩
    subst e3
    clear F hL hR
    simp only [Act.put, List.setIfInBounds_toArray, List.set_cons_zero, List.set_cons_succ]
    go_wp2_with fail
    refine (next' K.D 30 (by decide)).mono ?_
    rintro e w2 ⟨⟨t, rfl, t0, t1, -⟩, hD, hg, -⟩
    have K := K.grown hD hg
    clear hD hg
    have h2g : g < w2.heap.size := K.D.lt
    by_cases e0 : t = 0
    case pos =>
      subst e0
      go_wp2_with fail
      refine (next' (K.D.alloc _) 3 (by decide)).mono ?_
      rintro e w3 ⟨⟨u, rfl, u0, u1, -⟩, hD, hg, -⟩
      have u1 := u1 (by decide)
      have K := (K.alloc _).grown hD hg
      have hgs := K.gr.size
      have rb := (RowB.new w2 2 [.int .i64 0, .int .i64 100000000, .int .i64 100000001]).grown hg (fun k hk => by simp at hk; have := h2g; omega)
      obtain ⟨m, rfl⟩ : ∃ m : Nat, u = m := ⟨u.toNat, by omega⟩
      obtain ⟨v, hv⟩ := pickI rb (by simp) (show m < _ from by simp; omega)
      clear hD hg rb
      obtain ⟨p0, p1, p2⟩ := K.rp.c3
      have hpf := K.rp.frozen
      have hpl := K.rp.lt
      have hrf := K.rr.frozen
      have hrl := K.rr.lt
      obtain ⟨r0, r1, r2⟩ := K.rr.c3
      have hpr := K.hp
      go_wp2_with fail
      refine bp_gen (fun W' => Dr w0 B g A cp xs W' ∧ w.grownBy W' (some g) ∧ RowB W' w.heap.size 25 [.int .i64 (v), .int .i64 (y), .int .i64 (z)]) ?hb ?_
      case hb =>
        have h1 := K.set 0 v
        have hq := h1.hp
        exact ⟨((h1.D.set (by omega) (by omega) _).set (by omega) (by omega) _).set (by omega) (by omega) _, grown_new (grown_new (grown_new h1.gr (Nat.le_refl _) _) (Nat.le_refl _) _) (Nat.le_refl _) _, ((h1.rr.set 0 _).set 1 _).set 2 _⟩
      rintro W5 ⟨h5, g5, rr5⟩
      obtain ⟨q0, q1, q2⟩ := rr5.c3
      refine bodyPost_ret (v := .agg #[.int .i64 (v), .int .i64 (y), .int .i64 (z)]) (by simp [results, Try.results55, go_sem, q0, q1, q2]) rfl ?_
      exact ⟨⟨_, _, _, rfl⟩, h5, g5⟩
    by_cases e1 : t = 1
    case pos =>
      subst e1
      go_wp2_with fail
      refine (next' (K.D.alloc _) 2 (by decide)).mono ?_
      rintro e w3 ⟨⟨u, rfl, u0, u1, -⟩, hD, hg, -⟩
      have u1 := u1 (by decide)
      have K := (K.alloc _).grown hD hg
      have hgs := K.gr.size
      have rb := (RowB.new w2 2 [.int .i64 (-1), .int .i64 100000000]).grown hg (fun k hk => by simp at hk; have := h2g; omega)
      obtain ⟨m, rfl⟩ : ∃ m : Nat, u = m := ⟨u.toNat, by omega⟩
      obtain ⟨v, hv⟩ := pickI rb (by simp) (show m < _ from by simp; omega)
      clear hD hg rb
      obtain ⟨p0, p1, p2⟩ := K.rp.c3
      have hpf := K.rp.frozen
      have hpl := K.rp.lt
      have hrf := K.rr.frozen
      have hrl := K.rr.lt
      obtain ⟨r0, r1, r2⟩ := K.rr.c3
      have hpr := K.hp
      go_wp2_with fail
      refine bp_gen (fun W' => Dr w0 B g A cp xs W' ∧ w.grownBy W' (some g) ∧ RowB W' w.heap.size 25 [.int .i64 (x), .int .i64 (v), .int .i64 (z)]) ?hb ?_
      case hb =>
        have h1 := K.set 1 v
        have hq := h1.hp
        exact ⟨((h1.D.set (by omega) (by omega) _).set (by omega) (by omega) _).set (by omega) (by omega) _, grown_new (grown_new (grown_new h1.gr (Nat.le_refl _) _) (Nat.le_refl _) _) (Nat.le_refl _) _, ((h1.rr.set 0 _).set 1 _).set 2 _⟩
      rintro W5 ⟨h5, g5, rr5⟩
      obtain ⟨q0, q1, q2⟩ := rr5.c3
      refine bodyPost_ret (v := .agg #[.int .i64 (x), .int .i64 (v), .int .i64 (z)]) (by simp [results, Try.results55, go_sem, q0, q1, q2]) rfl ?_
      exact ⟨⟨_, _, _, rfl⟩, h5, g5⟩
    by_cases e2 : t = 2
    case pos =>
      subst e2
      go_wp2_with fail
      refine (next' (K.D.alloc _) 3 (by decide)).mono ?_
      rintro e w3 ⟨⟨u, rfl, u0, u1, -⟩, hD, hg, -⟩
      have u1 := u1 (by decide)
      have K := (K.alloc _).grown hD hg
      have hgs := K.gr.size
      have rb := (RowB.new w2 2 [.int .i64 (-1), .int .i64 100000000, .int .i64 100000001]).grown hg (fun k hk => by simp at hk; have := h2g; omega)
      obtain ⟨m, rfl⟩ : ∃ m : Nat, u = m := ⟨u.toNat, by omega⟩
      obtain ⟨v, hv⟩ := pickI rb (by simp) (show m < _ from by simp; omega)
      clear hD hg rb
      obtain ⟨p0, p1, p2⟩ := K.rp.c3
      have hpf := K.rp.frozen
      have hpl := K.rp.lt
      have hrf := K.rr.frozen
      have hrl := K.rr.lt
      obtain ⟨r0, r1, r2⟩ := K.rr.c3
      have hpr := K.hp
      go_wp2_with fail
      refine bp_gen (fun W' => Dr w0 B g A cp xs W' ∧ w.grownBy W' (some g) ∧ RowB W' w.heap.size 25 [.int .i64 (x), .int .i64 (y), .int .i64 (v)]) ?hb ?_
      case hb =>
        have h1 := K.set 2 v
        have hq := h1.hp
        exact ⟨((h1.D.set (by omega) (by omega) _).set (by omega) (by omega) _).set (by omega) (by omega) _, grown_new (grown_new (grown_new h1.gr (Nat.le_refl _) _) (Nat.le_refl _) _) (Nat.le_refl _) _, ((h1.rr.set 0 _).set 1 _).set 2 _⟩
      rintro W5 ⟨h5, g5, rr5⟩
      obtain ⟨q0, q1, q2⟩ := rr5.c3
      refine bodyPost_ret (v := .agg #[.int .i64 (x), .int .i64 (y), .int .i64 (v)]) (by simp [results, Try.results55, go_sem, q0, q1, q2]) rfl ?_
      exact ⟨⟨_, _, _, rfl⟩, h5, g5⟩
    have f0 : (t == 0) = false := by simp [e0]
    have f1 : (t == 1) = false := by simp [e1]
    have f2 : (t == 2) = false := by simp [e2]
    clear e0 e1 e2
    obtain ⟨p0, p1, p2⟩ := K.rp.c3
    have hpl := K.rp.lt
    have hrf := K.rr.frozen
    have hrl := K.rr.lt
    obtain ⟨r0, r1, r2⟩ := K.rr.c3
    have hpr := K.hp
    go_wp2_with fail
    refine bp_gen (fun W' => Dr w0 B g A cp xs W' ∧ w.grownBy W' (some g) ∧ RowB W' w.heap.size 25 [.int .i64 (x), .int .i64 (y), .int .i64 (z)]) ?hb ?_
    case hb =>
      have h1 := K
      have hq := h1.hp
      exact ⟨((h1.D.set (by omega) (by omega) _).set (by omega) (by omega) _).set (by omega) (by omega) _, grown_new (grown_new (grown_new h1.gr (Nat.le_refl _) _) (Nat.le_refl _) _) (Nat.le_refl _) _, ((h1.rr.set 0 _).set 1 _).set 2 _⟩
    rintro W5 ⟨h5, g5, rr5⟩
    obtain ⟨q0, q1, q2⟩ := rr5.c3
    refine bodyPost_ret (v := .agg #[.int .i64 (x), .int .i64 (y), .int .i64 (z)]) (by simp [results, Try.results55, go_sem, q0, q1, q2]) rfl ?_
    exact ⟨⟨_, _, _, rfl⟩, h5, g5⟩
end Go.Proofs.Ytdjopnhbcchedaa.DrawK
