/-
  The draw of clock rules and a state that events have led to. Conditions: each theorem's own.
-/
import Derived.Test.YtdjopnhbcchedaaDrawE
import Derived.Test.YtdjopnhbcchedaaClockRun
set_option linter.unusedVariables false
namespace Go.Proofs.Ytdjopnhbcchedaa.DrawS
open Go.ChangeShapes Go.WideShapes Go.ChangeAt Go.RowKit Base Base2 Ints Own Draw RegInv DrawK DrawE ClockRun
variable {w0 w w' : World} {B g cp : Nat} {A : Option Addr} {xs : List Int}
section
variable {W : World} {p k : Nat} {e : TypeId} {cs : List Value}
theorem other3 (h : RowB W k e cs) (hk : k ≠ p) (a b c : Value) : RowB (((W.setCell ⟨p, 0, none⟩ a).setCell ⟨p, 1, none⟩ b).setCell ⟨p, 2, none⟩ c) k e cs := ((h.other hk _).other hk _).other hk _
theorem other6 (h : RowB W k e cs) (hk : k ≠ p) (a b c d x f : Value) : RowB ((((((W.setCell ⟨p, 0, none⟩ a).setCell ⟨p, 1, none⟩ b).setCell ⟨p, 2, none⟩ c).setCell ⟨p, 3, none⟩ d).setCell ⟨p, 4, none⟩ x).setCell ⟨p, 5, none⟩ f) k e cs :=
  (((((h.other hk a).other hk b).other hk c).other hk d).other hk x).other hk f
theorem three {a b c : Value} (h : RowB W k e [a, b, c]) (u v x : Value) : RowB (((W.setCell ⟨k, 0, none⟩ u).setCell ⟨k, 1, none⟩ v).setCell ⟨k, 2, none⟩ x) k e [u, v, x] := ((h.set 0 u).set 1 v).set 2 x
theorem own_far {α : Type} {lo hi sz : Nat} {en : α → List Value} {v : Value} {ys : List α} (h : OwnS W lo hi e sz en v ys) (hp : ∀ k, v.ownBlock = some k → k ≠ p) (j : Nat) (u : Value) : OwnS (W.setCell ⟨p, j, none⟩ u) lo hi e sz en v ys := by
  refine ⟨h.1.kept (grownBy_setCell W p j u) ?_, h.2⟩
  cases hv : v.ownBlock with
  | none => exact .inl rfl
  | some k => exact .inr (fun e => hp k hv (by simpa using e))
end
/-- Rules in the box p4, a state in the box p5, its slice the call's own. -/
structure An (w0 w : World) (B g : Nat) (A : Option Addr) (cp : Nat) (xs : List Int) (p4 p5 : Nat) (r d b : Int) (Al : Option Addr) (c : Nat) (gs : List Int) (tu si us : Int) (ru : Bool) (fa : Int) (W : World) : Prop where
  D : Dr w0 B g A cp xs W
  gr : w.grownBy W (some g)
  q4 : RowB W p4 25 [.int .i64 r, .int .i64 d, .int .i64 b]
  q5 : RowB W p5 30 [.slice Al gs.length c, .int .i64 tu, .int .i64 si, .int .i64 us, .bool ru, .int .i64 fa]
  o : OwnS W w.heap.size W.heap.size 2 1 enI (.slice Al gs.length c) gs
  ap : ∀ k, (Value.slice Al gs.length c).ownBlock = some k → k ≠ p4 ∧ k ≠ p5 ∧ w.heap.size + 1 < k
  hp : w.heap.size + 1 < p4 ∧ w.heap.size + 1 < p5 ∧ p4 ≠ p5 ∧ B ≤ g ∧ g < w.heap.size
section
variable {p4 p5 : Nat} {r d b : Int} {Al : Option Addr} {c : Nat} {gs : List Int} {tu si us : Int} {ru : Bool} {fa : Int} {W W' : World}
theorem An.drew (h : An w0 w B g A cp xs p4 p5 r d b Al c gs tu si us ru fa W) : An w0 w B g A cp xs p4 p5 r d b Al c gs tu si us ru fa W.drew := ⟨h.D.drew, grownBy_drew h.gr, h.q4.drew, h.q5.drew, h.o, h.ap, h.hp⟩
theorem An.grown (h : An w0 w B g A cp xs p4 p5 r d b Al c gs tu si us ru fa W) (hD : Dr w0 B g A cp xs W') (hg : W.grownBy W' (some g)) : An w0 w B g A cp xs p4 p5 r d b Al c gs tu si us ru fa W' := by
  have hp := h.hp
  refine ⟨hD, grownBy_trans h.gr hg, h.q4.grown hg (fun k hk => by simp at hk; omega), h.q5.grown hg (fun k hk => by simp at hk; omega), (h.o.grown hg (fun k hk => by simp at hk; omega)).more hg.size, h.ap, hp⟩
theorem An.alloc (h : An w0 w B g A cp xs p4 p5 r d b Al c gs tu si us ru fa W) (o : Obj) : An w0 w B g A cp xs p4 p5 r d b Al c gs tu si us ru fa (W.alloc o) :=
  ⟨h.D.alloc _, grownBy_trans h.gr (World.grownBy_alloc _ _ _), h.q4.alloc _, h.q5.alloc _, (h.o.alloc _).more (by simp), h.ap, h.hp⟩
theorem An.set2 (h : An w0 w B g A cp xs p4 p5 r d b Al c gs tu si us ru fa W) (x y z : Value) : An w0 w B g A cp xs p4 p5 r d b Al c gs tu si us ru fa (((W.setCell ⟨w.heap.size, 0, none⟩ x).setCell ⟨w.heap.size, 1, none⟩ y).setCell ⟨w.heap.size, 2, none⟩ z) := by
  have hp := h.hp
  have hf : ∀ k, (Value.slice Al gs.length c).ownBlock = some k → k ≠ w.heap.size := fun k hk => by have := h.ap k hk; omega
  refine ⟨((h.D.set (by omega) (by omega) _).set (by omega) (by omega) _).set (by omega) (by omega) _, grown_new (grown_new (grown_new h.gr (Nat.le_refl _) _) (Nat.le_refl _) _) (Nat.le_refl _) _, other3 h.q4 (by omega) _ _ _, other3 h.q5 (by omega) _ _ _, ?_, h.ap, hp⟩
  simp only [World.size_setCell]
  exact own_far (own_far (own_far h.o hf _ _) hf _ _) hf _ _
theorem An.set3 (h : An w0 w B g A cp xs p4 p5 r d b Al c gs tu si us ru fa W) (x y z u v t : Value) : An w0 w B g A cp xs p4 p5 r d b Al c gs tu si us ru fa ((((((W.setCell ⟨w.heap.size + 1, 0, none⟩ x).setCell ⟨w.heap.size + 1, 1, none⟩ y).setCell ⟨w.heap.size + 1, 2, none⟩ z).setCell ⟨w.heap.size + 1, 3, none⟩ u).setCell ⟨w.heap.size + 1, 4, none⟩ v).setCell ⟨w.heap.size + 1, 5, none⟩ t) := by
  have hp := h.hp
  have hf : ∀ k, (Value.slice Al gs.length c).ownBlock = some k → k ≠ w.heap.size + 1 := fun k hk => by have := h.ap k hk; omega
  have hl : w.heap.size ≤ w.heap.size + 1 := Nat.le_succ _
  refine ⟨(((((h.D.set (by omega) (by omega) _).set (by omega) (by omega) _).set (by omega) (by omega) _).set (by omega) (by omega) _).set (by omega) (by omega) _).set (by omega) (by omega) _, grown_new (grown_new (grown_new (grown_new (grown_new (grown_new h.gr hl _) hl _) hl _) hl _) hl _) hl _, other6 h.q4 (by omega) _ _ _ _ _ _, other6 h.q5 (by omega) _ _ _ _ _ _, ?_, h.ap, hp⟩
  simp only [World.size_setCell]
  exact own_far (own_far (own_far (own_far (own_far (own_far h.o hf _ _) hf _ _) hf _ _) hf _ _) hf _ _) hf _ _
end

theorem D6 {W : World} {p : Nat} (h : Dr w0 B g A cp xs W) (h1 : B ≤ p) (h2 : p ≠ g) (x y z u v t : Value) : Dr w0 B g A cp xs ((((((W.setCell ⟨p, 0, none⟩ x).setCell ⟨p, 1, none⟩ y).setCell ⟨p, 2, none⟩ z).setCell ⟨p, 3, none⟩ u).setCell ⟨p, 4, none⟩ v).setCell ⟨p, 5, none⟩ t) := (((((h.set h1 h2 _).set h1 h2 _).set h1 h2 _).set h1 h2 _).set h1 h2 _).set h1 h2 _
theorem gr6 {W : World} {p : Nat} {row : Option Nat} (h : w.grownBy W row) (h1 : w.heap.size ≤ p) (x y z u v t : Value) : w.grownBy ((((((W.setCell ⟨p, 0, none⟩ x).setCell ⟨p, 1, none⟩ y).setCell ⟨p, 2, none⟩ z).setCell ⟨p, 3, none⟩ u).setCell ⟨p, 4, none⟩ v).setCell ⟨p, 5, none⟩ t) row := grown_new (grown_new (grown_new (grown_new (grown_new (grown_new h h1 _) h1 _) h1 _) h1 _) h1 _) h1 _
theorem own6 {α : Type} {W : World} {p lo sz : Nat} {e : TypeId} {en : α → List Value} {v : Value} {ys : List α} (h : OwnS W lo W.heap.size e sz en v ys) (hf : ∀ k, v.ownBlock = some k → k ≠ p) (x y z u q t : Value) : OwnS ((((((W.setCell ⟨p, 0, none⟩ x).setCell ⟨p, 1, none⟩ y).setCell ⟨p, 2, none⟩ z).setCell ⟨p, 3, none⟩ u).setCell ⟨p, 4, none⟩ q).setCell ⟨p, 5, none⟩ t) lo ((((((W.setCell ⟨p, 0, none⟩ x).setCell ⟨p, 1, none⟩ y).setCell ⟨p, 2, none⟩ z).setCell ⟨p, 3, none⟩ u).setCell ⟨p, 4, none⟩ q).setCell ⟨p, 5, none⟩ t).heap.size e sz en v ys := by
  simp only [World.size_setCell]
  exact own_far (own_far (own_far (own_far (own_far (own_far h hf _ _) hf _ _) hf _ _) hf _ _) hf _ _) hf _ _
structure SdF (w0 w : World) (B g : Nat) (A : Option Addr) (cp : Nat) (xs : List Int) (p4 : Nat) (r d b time : Int) (L : Nat → Prop) (v6 v7 v8 v13 v14 v15 v16 v17 v18 v19 v20 v21 v22 v23 v24 : Value) (w' : World) : Prop where
  D : Dr w0 B g A cp xs w'
  gr : w.grownBy w' (some g)
  z2 : RowB w' w.heap.size 25 [.int .i64 0, .int .i64 0, .int .i64 0]
  z3 : RowB w' (w.heap.size + 1) 30 [.slice none 0 0, .int .i64 0, .int .i64 0, .int .i64 0, .bool false, .int .i64 0]
  q4 : RowB w' p4 25 [.int .i64 r, .int .i64 d, .int .i64 b]
  hp : w.heap.size + 1 < p4 ∧ B ≤ g ∧ g < w.heap.size
  f0 : L 0 → v14 = .agg #[.int .i64 r, .int .i64 d, .int .i64 b]
  f1 : L 1 → v15 = .pointer (some ⟨g, 0, none⟩)
  f2 : L 2 → ∃ t : Int, v16 = .int .i64 t ∧ 0 ≤ t ∧ t < 2
  f3 : L 3 → v17 = .int .i64 time
  f4 : L 4 → v18 = .pointer (some ⟨g, 0, none⟩)
  f5 : L 5 → v19 = .int .i64 time
  f6 : L 6 → ¬ L 7 → ∃ (Ae : Option Addr) (ls : List (Int × Int)) (ce : Nat), v20 = .slice Ae ls.length ce ∧ OwnS w' w.heap.size w'.heap.size 54 2 enI2 v20 ls
  f7 : L 7 → ∃ (Al : Option Addr) (gs : List Int) (c : Nat) (tu si us : Int) (ru : Bool) (fa nn co : Int), v21 = .tuple #[.agg #[.slice Al gs.length c, .int .i64 tu, .int .i64 si, .int .i64 us, .bool ru, .int .i64 fa], .int .i64 nn, .int .i64 co] ∧ OwnS w' w.heap.size w'.heap.size 2 1 enI (.slice Al gs.length c) gs ∧ (∀ k, (Value.slice Al gs.length c).ownBlock = some k → k ≠ p4 ∧ w.heap.size + 1 < k) ∧ (L 12 → ∀ k bx, v6 = .pointer (some ⟨bx, 0, none⟩) → (Value.slice Al gs.length c).ownBlock = some k → k ≠ bx)
  f8 : L 8 → v13 = v21
  f9 : L 9 → ∃ a c, v13 = .tuple #[v22, a, c]
  f10 : L 10 → ∃ a c, v13 = .tuple #[a, v23, c]
  f11 : L 11 → ∃ a c, v13 = .tuple #[a, c, v24]
  f12 : L 12 → ¬ L 13 → ∃ bx, v6 = .pointer (some ⟨bx, 0, none⟩) ∧ w.heap.size + 1 < bx ∧ bx ≠ p4 ∧ RowB w' bx 30 [.slice none 0 0, .int .i64 0, .int .i64 0, .int .i64 0, .bool false, .int .i64 0]
  f13 : L 13 → ∃ bx, v6 = .pointer (some ⟨bx, 0, none⟩) ∧ w.heap.size + 1 < bx ∧ bx ≠ p4 ∧ ∃ (Al : Option Addr) (n c : Nat) (tu si us : Int) (ru : Bool) (fa : Int), v22 = .agg #[.slice Al n c, .int .i64 tu, .int .i64 si, .int .i64 us, .bool ru, .int .i64 fa] ∧ RowB w' bx 30 [.slice Al n c, .int .i64 tu, .int .i64 si, .int .i64 us, .bool ru, .int .i64 fa]
  f14 : L 14 → True
  f15 : L 15 → True
structure SrF (w0 w : World) (B g : Nat) (A : Option Addr) (cp : Nat) (xs : List Int) (p4 p5 : Nat) (r d b : Int) (Al : Option Addr) (c : Nat) (gs : List Int) (tu si us : Int) (ru : Bool) (fa : Int) (L : Nat → Prop) (v25 v26 : Value) (w' : World) : Prop where
  K : An w0 w B g A cp xs p4 p5 r d b Al c gs tu si us ru fa w'
  z2 : ¬ L 2 → RowB w' w.heap.size 25 [.int .i64 0, .int .i64 0, .int .i64 0]
  z3 : ¬ L 3 → RowB w' (w.heap.size + 1) 30 [.slice none 0 0, .int .i64 0, .int .i64 0, .int .i64 0, .bool false, .int .i64 0]
  f0 : L 0 → v25 = .agg #[.int .i64 r, .int .i64 d, .int .i64 b]
  f1 : L 1 → v26 = .agg #[.slice Al gs.length c, .int .i64 tu, .int .i64 si, .int .i64 us, .bool ru, .int .i64 fa]
  f2 : L 2 → RowB w' w.heap.size 25 [.int .i64 r, .int .i64 d, .int .i64 b]
  f3 : L 3 → RowB w' (w.heap.size + 1) 30 [.slice Al gs.length c, .int .i64 tu, .int .i64 si, .int .i64 us, .bool ru, .int .i64 fa]

set_option maxHeartbeats 4000000 in
set_option maxRecDepth 100000 in
theorem draw (h : Dr w0 B g A cp xs w) :
    Calls Try.prog 64 #[.pointer (some ⟨g, 0, none⟩)] w fun e w' => ∃ (r d b : Int) (Al : Option Addr) (c : Nat) (gs : List Int) (tu si us : Int) (ru : Bool) (fa : Int), e = .returned (.tuple #[.agg #[.int .i64 r, .int .i64 d, .int .i64 b], .agg #[.slice Al gs.length c, .int .i64 tu, .int .i64 si, .int .i64 us, .bool ru, .int .i64 fa]]) ∧ Dr w0 B g A cp xs w' ∧ w.grownBy w' (some g) ∧ OwnS w' w.heap.size w'.heap.size 2 1 enI (.slice Al gs.length c) gs := by
  have hlt := h.lt
  have hbg := h.base
  go_enter Try.func64, Try.ntmps64
  go_wp2_with fail
  refine (rules ((h.alloc _).alloc _)).mono ?_
  rintro e w1 ⟨⟨r, d, b, rfl⟩, D, hg⟩
  have z2 : RowB w1 w.heap.size 25 [.int .i64 0, .int .i64 0, .int .i64 0] := ((RowB.new _ _ _).alloc _).grown hg (fun k hk => by simp at hk; omega)
  have z3 : RowB w1 (w.heap.size + 1) 30 [.slice none 0 0, .int .i64 0, .int .i64 0, .int .i64 0, .bool false, .int .i64 0] := (RowB.new' _ _ _ (by simp)).grown hg (fun k hk => by simp at hk; omega)
  have gr : w.grownBy w1 (some g) := grownBy_trans (grownBy_trans (World.grownBy_alloc _ _ _) (World.grownBy_alloc _ _ _)) hg
  have hz3 := z3.lt
  clear hg
  go_upto_region 2 with (fail)
  refine wp_gen (fun W' => Dr w0 B g A cp xs W' ∧ w.grownBy W' (some g) ∧ RowB W' w.heap.size 25 [.int .i64 0, .int .i64 0, .int .i64 0] ∧ RowB W' (w.heap.size + 1) 30 [.slice none 0 0, .int .i64 0, .int .i64 0, .int .i64 0, .bool false, .int .i64 0] ∧ RowB W' w1.heap.size 25 [.int .i64 r, .int .i64 d, .int .i64 b]) ⟨D.alloc _, grownBy_trans gr (World.grownBy_alloc _ _ _), z2.alloc _, z3.alloc _, RowB.new _ _ _⟩ ?_
  obtain ⟨p4, hp4⟩ : ∃ p, w1.heap.size = p := ⟨_, rfl⟩
  rw [hp4] at hz3 ⊢
  clear D gr z2 z3 hp4
  rintro w2 ⟨D, gr, z2, z3, q4⟩
  have hp : w.heap.size + 1 < p4 ∧ B ≤ g ∧ g < w.heap.size := ⟨hz3, hbg, hlt⟩
  go_wp2_with fail
  refine (next' D 100 (by decide)).mono ?_
  rintro e w3 ⟨⟨time, rfl, ht0, ht1, -⟩, D3, hg, -⟩
  have ht1 := ht1 (by decide)
  have ht1 : time ≤ 100 := by omega
  have gr := grownBy_trans gr hg
  have z2 := z2.grown hg (fun k hk => by simp at hk; omega)
  have z3 := z3.grown hg (fun k hk => by simp at hk; omega)
  have q4 := q4.grown hg (fun k hk => by simp at hk; omega)
  clear D hg
  have D := D3
  clear D3
  go_wp2_with fail
  refine region_inv (fun a0 L a w' => ∃ v6 v7 v8 v13 v14 v15 v16 v17 v18 v19 v20 v21 v22 v23 v24 : Value, a = (((((((((((((((a0.put (some 6) v6).put (some 7) v7).put (some 8) v8).put (some 13) v13).put (some 14) v14).put (some 15) v15).put (some 16) v16).put (some 17) v17).put (some 18) v18).put (some 19) v19).put (some 20) v20).put (some 21) v21).put (some 22) v22).put (some 23) v23).put (some 24) v24) ∧ SdF w0 w B g A cp xs p4 r d b time L v6 v7 v8 v13 v14 v15 v16 v17 v18 v19 v20 v21 v22 v23 v24 w') (by kernel_rfl) (by kernel_rfl) ?h0 ?hst ?fin
  case h0 =>
    exact ⟨undef, undef, undef, _, _, _, _, _, _, _, _, _, _, _, _, by simp only [Act.put, List.setIfInBounds_toArray, List.set_cons_zero, List.set_cons_succ]; exact rfl, ⟨D.drew, grownBy_drew gr, RowB.drew z2, RowB.drew z3, RowB.drew q4, hp, fun h => (h : False).elim, fun h => (h : False).elim, fun h => (h : False).elim, fun h => (h : False).elim, fun h => (h : False).elim, fun h => (h : False).elim, fun h => (h : False).elim, fun h => (h : False).elim, fun h => (h : False).elim, fun h => (h : False).elim, fun h => (h : False).elim, fun h => (h : False).elim, fun h => (h : False).elim, fun h => (h : False).elim, fun h => (h : False).elim, fun h => (h : False).elim⟩⟩
  case hst =>
    refine StepsFrom.cons rfl (fun L a w' hI hno hdep hcl K hK => ?_) ?_
    · obtain ⟨v6, v7, v8, v13, v14, v15, v16, v17, v18, v19, v20, v21, v22, v23, v24, ha, F⟩ := hI
      obtain ⟨c0, c1, c2⟩ := F.q4.c3
      subst ha
      simp only [Act.put, List.setIfInBounds_toArray, List.set_cons_zero, List.set_cons_succ]
      go_simp
      exact hK.out _ _ ⟨v6, v7, v8, v13, _, v15, v16, v17, v18, v19, v20, v21, v22, v23, v24, by simp only [Act.put, List.setIfInBounds_toArray, List.set_cons_zero, List.set_cons_succ], ⟨F.D, F.gr, F.z2, F.z3, F.q4, F.hp, fun _ => rfl, fun h => F.f1 (h.resolve_left (by decide)), fun h => F.f2 (h.resolve_left (by decide)), fun h => F.f3 (h.resolve_left (by decide)), fun h => F.f4 (h.resolve_left (by decide)), fun h => F.f5 (h.resolve_left (by decide)), fun h hn => F.f6 (h.resolve_left (by decide)) (fun x => hn (Or.inr x)), fun h => by obtain ⟨Al, gs, c, tu, si, us, ru, fa, nn, co, h1, h2, h3, h4⟩ := F.f7 (h.resolve_left (by decide)); exact ⟨Al, gs, c, tu, si, us, ru, fa, nn, co, h1, h2, h3, fun h5 => h4 (h5.resolve_left (by decide))⟩, fun h => F.f8 (h.resolve_left (by decide)), fun h => F.f9 (h.resolve_left (by decide)), fun h => F.f10 (h.resolve_left (by decide)), fun h => F.f11 (h.resolve_left (by decide)), fun h hn => F.f12 (h.resolve_left (by decide)) (fun x => hn (Or.inr x)), fun h => F.f13 (h.resolve_left (by decide)), fun h => F.f14 (h.resolve_left (by decide)), fun h => F.f15 (h.resolve_left (by decide))⟩⟩
    refine StepsFrom.cons rfl (fun L a w' hI hno hdep hcl K hK => ?_) ?_
    · obtain ⟨v6, v7, v8, v13, v14, v15, v16, v17, v18, v19, v20, v21, v22, v23, v24, ha, F⟩ := hI
      subst ha
      simp only [Act.put, List.setIfInBounds_toArray, List.set_cons_zero, List.set_cons_succ]
      go_simp
      exact hK.out _ _ ⟨v6, v7, v8, v13, v14, _, v16, v17, v18, v19, v20, v21, v22, v23, v24, by simp only [Act.put, List.setIfInBounds_toArray, List.set_cons_zero, List.set_cons_succ], ⟨F.D, F.gr, F.z2, F.z3, F.q4, F.hp, fun h => F.f0 (h.resolve_left (by decide)), fun _ => rfl, fun h => F.f2 (h.resolve_left (by decide)), fun h => F.f3 (h.resolve_left (by decide)), fun h => F.f4 (h.resolve_left (by decide)), fun h => F.f5 (h.resolve_left (by decide)), fun h hn => F.f6 (h.resolve_left (by decide)) (fun x => hn (Or.inr x)), fun h => by obtain ⟨Al, gs, c, tu, si, us, ru, fa, nn, co, h1, h2, h3, h4⟩ := F.f7 (h.resolve_left (by decide)); exact ⟨Al, gs, c, tu, si, us, ru, fa, nn, co, h1, h2, h3, fun h5 => h4 (h5.resolve_left (by decide))⟩, fun h => F.f8 (h.resolve_left (by decide)), fun h => F.f9 (h.resolve_left (by decide)), fun h => F.f10 (h.resolve_left (by decide)), fun h => F.f11 (h.resolve_left (by decide)), fun h hn => F.f12 (h.resolve_left (by decide)) (fun x => hn (Or.inr x)), fun h => F.f13 (h.resolve_left (by decide)), fun h => F.f14 (h.resolve_left (by decide)), fun h => F.f15 (h.resolve_left (by decide))⟩⟩
    refine StepsFrom.cons rfl (fun L a w' hI hno hdep hcl K hK => ?_) ?_
    · obtain ⟨v6, v7, v8, v13, v14, v15, v16, v17, v18, v19, v20, v21, v22, v23, v24, ha, F⟩ := hI
      have e15 := F.f1 (hdep 1 (by kernel_rfl))
      have hp := F.hp
      subst ha
      simp only [Act.put, List.setIfInBounds_toArray, List.set_cons_zero, List.set_cons_succ, e15]
      go_simp
      refine (next' F.D 2 (by decide)).mono ?_
      rintro e w2 ⟨⟨t, rfl, t0, t1, -⟩, hD, hg, -⟩
      have t1 := t1 (by decide)
      exact hK.out _ _ ⟨v6, v7, v8, v13, v14, v15, _, v17, v18, v19, v20, v21, v22, v23, v24, by simp only [Act.put, List.setIfInBounds_toArray, List.set_cons_zero, List.set_cons_succ, e15], ⟨hD, grownBy_trans F.gr hg, F.z2.grown hg (fun k hk => by simp at hk; omega), F.z3.grown hg (fun k hk => by simp at hk; omega), F.q4.grown hg (fun k hk => by simp at hk; omega), F.hp, fun h => F.f0 (h.resolve_left (by decide)), fun h => F.f1 (h.resolve_left (by decide)), fun _ => ⟨t, rfl, t0, t1⟩, fun h => F.f3 (h.resolve_left (by decide)), fun h => F.f4 (h.resolve_left (by decide)), fun h => F.f5 (h.resolve_left (by decide)), fun h hn => by obtain ⟨Ae, ls, ce, h1, h2⟩ := F.f6 (h.resolve_left (by decide)) (fun x => hn (Or.inr x)); exact ⟨Ae, ls, ce, h1, (h2.grown hg (fun k hk => by simp at hk; omega)).more hg.size⟩, fun h => absurd (hcl 7 2 (by kernel_rfl) (h.resolve_left (by decide))) hno, fun h => F.f8 (h.resolve_left (by decide)), fun h => F.f9 (h.resolve_left (by decide)), fun h => F.f10 (h.resolve_left (by decide)), fun h => F.f11 (h.resolve_left (by decide)), fun h hn => by obtain ⟨bx, h1, h2, h3, h4⟩ := F.f12 (h.resolve_left (by decide)) (fun x => hn (Or.inr x)); exact ⟨bx, h1, h2, h3, h4.grown hg (fun k hk => by simp at hk; omega)⟩, fun h => absurd (hcl 13 2 (by kernel_rfl) (h.resolve_left (by decide))) hno, fun h => F.f14 (h.resolve_left (by decide)), fun h => F.f15 (h.resolve_left (by decide))⟩⟩
    refine StepsFrom.cons rfl (fun L a w' hI hno hdep hcl K hK => ?_) ?_
    · obtain ⟨v6, v7, v8, v13, v14, v15, v16, v17, v18, v19, v20, v21, v22, v23, v24, ha, F⟩ := hI
      subst ha
      simp only [Act.put, List.setIfInBounds_toArray, List.set_cons_zero, List.set_cons_succ]
      go_simp
      exact hK.out _ _ ⟨v6, v7, v8, v13, v14, v15, v16, _, v18, v19, v20, v21, v22, v23, v24, by simp only [Act.put, List.setIfInBounds_toArray, List.set_cons_zero, List.set_cons_succ], ⟨F.D, F.gr, F.z2, F.z3, F.q4, F.hp, fun h => F.f0 (h.resolve_left (by decide)), fun h => F.f1 (h.resolve_left (by decide)), fun h => F.f2 (h.resolve_left (by decide)), fun _ => rfl, fun h => F.f4 (h.resolve_left (by decide)), fun h => F.f5 (h.resolve_left (by decide)), fun h hn => F.f6 (h.resolve_left (by decide)) (fun x => hn (Or.inr x)), fun h => by obtain ⟨Al, gs, c, tu, si, us, ru, fa, nn, co, h1, h2, h3, h4⟩ := F.f7 (h.resolve_left (by decide)); exact ⟨Al, gs, c, tu, si, us, ru, fa, nn, co, h1, h2, h3, fun h5 => h4 (h5.resolve_left (by decide))⟩, fun h => F.f8 (h.resolve_left (by decide)), fun h => F.f9 (h.resolve_left (by decide)), fun h => F.f10 (h.resolve_left (by decide)), fun h => F.f11 (h.resolve_left (by decide)), fun h hn => F.f12 (h.resolve_left (by decide)) (fun x => hn (Or.inr x)), fun h => F.f13 (h.resolve_left (by decide)), fun h => F.f14 (h.resolve_left (by decide)), fun h => F.f15 (h.resolve_left (by decide))⟩⟩
    refine StepsFrom.cons rfl (fun L a w' hI hno hdep hcl K hK => ?_) ?_
    · obtain ⟨v6, v7, v8, v13, v14, v15, v16, v17, v18, v19, v20, v21, v22, v23, v24, ha, F⟩ := hI
      subst ha
      simp only [Act.put, List.setIfInBounds_toArray, List.set_cons_zero, List.set_cons_succ]
      go_simp
      exact hK.out _ _ ⟨v6, v7, v8, v13, v14, v15, v16, v17, _, v19, v20, v21, v22, v23, v24, by simp only [Act.put, List.setIfInBounds_toArray, List.set_cons_zero, List.set_cons_succ], ⟨F.D, F.gr, F.z2, F.z3, F.q4, F.hp, fun h => F.f0 (h.resolve_left (by decide)), fun h => F.f1 (h.resolve_left (by decide)), fun h => F.f2 (h.resolve_left (by decide)), fun h => F.f3 (h.resolve_left (by decide)), fun _ => rfl, fun h => F.f5 (h.resolve_left (by decide)), fun h hn => F.f6 (h.resolve_left (by decide)) (fun x => hn (Or.inr x)), fun h => by obtain ⟨Al, gs, c, tu, si, us, ru, fa, nn, co, h1, h2, h3, h4⟩ := F.f7 (h.resolve_left (by decide)); exact ⟨Al, gs, c, tu, si, us, ru, fa, nn, co, h1, h2, h3, fun h5 => h4 (h5.resolve_left (by decide))⟩, fun h => F.f8 (h.resolve_left (by decide)), fun h => F.f9 (h.resolve_left (by decide)), fun h => F.f10 (h.resolve_left (by decide)), fun h => F.f11 (h.resolve_left (by decide)), fun h hn => F.f12 (h.resolve_left (by decide)) (fun x => hn (Or.inr x)), fun h => F.f13 (h.resolve_left (by decide)), fun h => F.f14 (h.resolve_left (by decide)), fun h => F.f15 (h.resolve_left (by decide))⟩⟩
    refine StepsFrom.cons rfl (fun L a w' hI hno hdep hcl K hK => ?_) ?_
    · obtain ⟨v6, v7, v8, v13, v14, v15, v16, v17, v18, v19, v20, v21, v22, v23, v24, ha, F⟩ := hI
      subst ha
      simp only [Act.put, List.setIfInBounds_toArray, List.set_cons_zero, List.set_cons_succ]
      go_simp
      exact hK.out _ _ ⟨v6, v7, v8, v13, v14, v15, v16, v17, v18, _, v20, v21, v22, v23, v24, by simp only [Act.put, List.setIfInBounds_toArray, List.set_cons_zero, List.set_cons_succ], ⟨F.D, F.gr, F.z2, F.z3, F.q4, F.hp, fun h => F.f0 (h.resolve_left (by decide)), fun h => F.f1 (h.resolve_left (by decide)), fun h => F.f2 (h.resolve_left (by decide)), fun h => F.f3 (h.resolve_left (by decide)), fun h => F.f4 (h.resolve_left (by decide)), fun _ => rfl, fun h hn => F.f6 (h.resolve_left (by decide)) (fun x => hn (Or.inr x)), fun h => by obtain ⟨Al, gs, c, tu, si, us, ru, fa, nn, co, h1, h2, h3, h4⟩ := F.f7 (h.resolve_left (by decide)); exact ⟨Al, gs, c, tu, si, us, ru, fa, nn, co, h1, h2, h3, fun h5 => h4 (h5.resolve_left (by decide))⟩, fun h => F.f8 (h.resolve_left (by decide)), fun h => F.f9 (h.resolve_left (by decide)), fun h => F.f10 (h.resolve_left (by decide)), fun h => F.f11 (h.resolve_left (by decide)), fun h hn => F.f12 (h.resolve_left (by decide)) (fun x => hn (Or.inr x)), fun h => F.f13 (h.resolve_left (by decide)), fun h => F.f14 (h.resolve_left (by decide)), fun h => F.f15 (h.resolve_left (by decide))⟩⟩
    refine StepsFrom.cons rfl (fun L a w' hI hno hdep hcl K hK => ?_) ?_
    · obtain ⟨v6, v7, v8, v13, v14, v15, v16, v17, v18, v19, v20, v21, v22, v23, v24, ha, F⟩ := hI
      have e18 := F.f4 (hdep 4 (by kernel_rfl))
      have e19 := F.f5 (hdep 5 (by kernel_rfl))
      have hp := F.hp
      subst ha
      simp only [Act.put, List.setIfInBounds_toArray, List.set_cons_zero, List.set_cons_succ, e18, e19]
      go_simp
      refine (events time ht0 ht1 F.D).mono ?_
      rintro e w2 ⟨ve, ls, rfl, hE, hl⟩
      obtain ⟨Ae, ce, rfl, _⟩ := hE.o.form enI2_len
      have hg := hE.gr
      exact hK.out _ _ ⟨v6, v7, v8, v13, v14, v15, v16, v17, v18, v19, _, v21, v22, v23, v24, by simp only [Act.put, List.setIfInBounds_toArray, List.set_cons_zero, List.set_cons_succ, e18, e19], ⟨hE.D, grownBy_trans F.gr hg, F.z2.grown hg (fun k hk => by simp at hk; omega), F.z3.grown hg (fun k hk => by simp at hk; omega), F.q4.grown hg (fun k hk => by simp at hk; omega), F.hp, fun h => F.f0 (h.resolve_left (by decide)), fun h => F.f1 (h.resolve_left (by decide)), fun h => F.f2 (h.resolve_left (by decide)), fun h => F.f3 (h.resolve_left (by decide)), fun h => F.f4 (h.resolve_left (by decide)), fun h => F.f5 (h.resolve_left (by decide)), fun _ _ => ⟨Ae, ls, ce, rfl, hE.o.less F.gr.size⟩, fun h => absurd (hcl 7 6 (by kernel_rfl) (h.resolve_left (by decide))) hno, fun h => F.f8 (h.resolve_left (by decide)), fun h => F.f9 (h.resolve_left (by decide)), fun h => F.f10 (h.resolve_left (by decide)), fun h => F.f11 (h.resolve_left (by decide)), fun h hn => by obtain ⟨bx, h1, h2, h3, h4⟩ := F.f12 (h.resolve_left (by decide)) (fun x => hn (Or.inr x)); exact ⟨bx, h1, h2, h3, h4.grown hg (fun k hk => by simp at hk; omega)⟩, fun h => absurd (hcl 13 6 (by kernel_rfl) (h.resolve_left (by decide))) hno, fun h => F.f14 (h.resolve_left (by decide)), fun h => F.f15 (h.resolve_left (by decide))⟩⟩
    refine StepsFrom.cons rfl (fun L a w' hI hno hdep hcl K hK => ?_) ?_
    · obtain ⟨v6, v7, v8, v13, v14, v15, v16, v17, v18, v19, v20, v21, v22, v23, v24, ha, F⟩ := hI
      have e14 := F.f0 (hdep 0 (by kernel_rfl))
      have e17 := F.f3 (hdep 3 (by kernel_rfl))
      obtain ⟨t, e16, t0, t1⟩ := F.f2 (hdep 2 (by kernel_rfl))
      obtain ⟨Ae, ls, ce, e20, ho⟩ := F.f6 (hdep 6 (by kernel_rfl)) hno
      rw [e20] at ho
      have hp := F.hp
      have hz3 := F.z3.lt
      have hq4 := F.q4.lt
      have hsz := F.gr.size
      subst ha
      simp only [Act.put, List.setIfInBounds_toArray, List.set_cons_zero, List.set_cons_succ, e14, e17, e16, e20]
      go_simp
      obtain ⟨⟨⟨gs, tu, si, us, ru, fa⟩, nn, co⟩, hrc⟩ : ∃ q, rcR r d b t time ls = q := ⟨_, rfl⟩
      refine (rc_spec r d b t time Ae ce w'.heap.size ls w' gs tu si us ru fa nn co (Nat.le_refl _) (ho.rd enI2_len) hrc).mono ?_
      rintro e w2 ⟨Al, cl, rfl, hb, h2⟩
      exact hK.out _ _ ⟨v6, v7, v8, v13, v14, v15, v16, v17, v18, v19, v20, _, v22, v23, v24, by simp only [Act.put, List.setIfInBounds_toArray, List.set_cons_zero, List.set_cons_succ, e14, e17, e16, e20], ⟨F.D.below hb F.D.lt, grownBy_trans F.gr ⟨hb.os, hb.tape, hb.output, hb.size, fun i hi _ => hb.block i hi⟩, F.z2.below hb F.z2.lt, F.z3.below hb F.z3.lt, F.q4.below hb F.q4.lt, F.hp, fun h => F.f0 (h.resolve_left (by decide)), fun h => F.f1 (h.resolve_left (by decide)), fun h => F.f2 (h.resolve_left (by decide)), fun h => F.f3 (h.resolve_left (by decide)), fun h => F.f4 (h.resolve_left (by decide)), fun h => F.f5 (h.resolve_left (by decide)), fun _ hn => absurd (Or.inl rfl) hn, fun _ => ⟨Al, gs, cl, tu, si, us, ru, fa, nn, co, rfl, h2.less hsz, fun k hk => by have := h2.block k hk; omega, fun h12 k bx hbx hk => by obtain ⟨bx', h3, _, _, h4⟩ := F.f12 (h12.resolve_left (by decide)) (fun x => hno (hcl 13 7 (by kernel_rfl) x)); rw [h3] at hbx; simp only [Value.pointer.injEq, Option.some.injEq, Addr.mk.injEq, and_true] at hbx; have := h2.block k hk; have := h4.lt; omega⟩, fun h => absurd (hcl 8 7 (by kernel_rfl) (h.resolve_left (by decide))) hno, fun h => F.f9 (h.resolve_left (by decide)), fun h => F.f10 (h.resolve_left (by decide)), fun h => F.f11 (h.resolve_left (by decide)), fun h hn => by obtain ⟨bx, h1, h2, h3, h4⟩ := F.f12 (h.resolve_left (by decide)) (fun x => hn (Or.inr x)); exact ⟨bx, h1, h2, h3, h4.below hb h4.lt⟩, fun h => absurd (hcl 13 7 (by kernel_rfl) (h.resolve_left (by decide))) hno, fun h => F.f14 (h.resolve_left (by decide)), fun h => F.f15 (h.resolve_left (by decide))⟩⟩
    refine StepsFrom.cons rfl (fun L a w' hI hno hdep hcl K hK => ?_) ?_
    · obtain ⟨v6, v7, v8, v13, v14, v15, v16, v17, v18, v19, v20, v21, v22, v23, v24, ha, F⟩ := hI
      have h7 := F.f7 (hdep 7 (by kernel_rfl))
      subst ha
      simp only [Act.put, List.setIfInBounds_toArray, List.set_cons_zero, List.set_cons_succ]
      go_simp
      exact hK.out _ _ ⟨v6, v7, v8, _, v14, v15, v16, v17, v18, v19, v20, v21, v22, v23, v24, by simp only [Act.put, List.setIfInBounds_toArray, List.set_cons_zero, List.set_cons_succ], ⟨F.D, F.gr, F.z2, F.z3, F.q4, F.hp, fun h => F.f0 (h.resolve_left (by decide)), fun h => F.f1 (h.resolve_left (by decide)), fun h => F.f2 (h.resolve_left (by decide)), fun h => F.f3 (h.resolve_left (by decide)), fun h => F.f4 (h.resolve_left (by decide)), fun h => F.f5 (h.resolve_left (by decide)), fun h hn => F.f6 (h.resolve_left (by decide)) (fun x => hn (Or.inr x)), fun h => by obtain ⟨Al, gs, c, tu, si, us, ru, fa, nn, co, h1, h2, h3, h4⟩ := F.f7 (h.resolve_left (by decide)); exact ⟨Al, gs, c, tu, si, us, ru, fa, nn, co, h1, h2, h3, fun h5 => h4 (h5.resolve_left (by decide))⟩, fun _ => rfl, fun h => absurd (hcl 9 8 (by kernel_rfl) (h.resolve_left (by decide))) hno, fun h => absurd (hcl 10 8 (by kernel_rfl) (h.resolve_left (by decide))) hno, fun h => absurd (hcl 11 8 (by kernel_rfl) (h.resolve_left (by decide))) hno, fun h hn => F.f12 (h.resolve_left (by decide)) (fun x => hn (Or.inr x)), fun h => F.f13 (h.resolve_left (by decide)), fun h => F.f14 (h.resolve_left (by decide)), fun h => F.f15 (h.resolve_left (by decide))⟩⟩
    refine StepsFrom.cons rfl (fun L a w' hI hno hdep hcl K hK => ?_) ?_
    · obtain ⟨v6, v7, v8, v13, v14, v15, v16, v17, v18, v19, v20, v21, v22, v23, v24, ha, F⟩ := hI
      have e13 := F.f8 (hdep 8 (by kernel_rfl))
      obtain ⟨Al, gs, c, tu, si, us, ru, fa, nn, co, e21, h2, h3, h4⟩ := F.f7 (hdep 7 (by kernel_rfl))
      subst ha
      simp only [Act.put, List.setIfInBounds_toArray, List.set_cons_zero, List.set_cons_succ, e13, e21]
      go_simp
      exact hK.out _ _ ⟨v6, v7, v8, v13, v14, v15, v16, v17, v18, v19, v20, v21, _, v23, v24, by simp only [Act.put, List.setIfInBounds_toArray, List.set_cons_zero, List.set_cons_succ, e13, e21], ⟨F.D, F.gr, F.z2, F.z3, F.q4, F.hp, fun h => F.f0 (h.resolve_left (by decide)), fun h => F.f1 (h.resolve_left (by decide)), fun h => F.f2 (h.resolve_left (by decide)), fun h => F.f3 (h.resolve_left (by decide)), fun h => F.f4 (h.resolve_left (by decide)), fun h => F.f5 (h.resolve_left (by decide)), fun h hn => F.f6 (h.resolve_left (by decide)) (fun x => hn (Or.inr x)), fun h => by obtain ⟨Al, gs, c, tu, si, us, ru, fa, nn, co, h1, h2, h3, h4⟩ := F.f7 (h.resolve_left (by decide)); exact ⟨Al, gs, c, tu, si, us, ru, fa, nn, co, h1, h2, h3, fun h5 => h4 (h5.resolve_left (by decide))⟩, fun h => F.f8 (h.resolve_left (by decide)), fun _ => ⟨_, _, e13.trans e21⟩, fun h => F.f10 (h.resolve_left (by decide)), fun h => F.f11 (h.resolve_left (by decide)), fun h hn => F.f12 (h.resolve_left (by decide)) (fun x => hn (Or.inr x)), fun h => absurd (hcl 13 9 (by kernel_rfl) (h.resolve_left (by decide))) hno, fun h => F.f14 (h.resolve_left (by decide)), fun h => F.f15 (h.resolve_left (by decide))⟩⟩
    refine StepsFrom.cons rfl (fun L a w' hI hno hdep hcl K hK => ?_) ?_
    · obtain ⟨v6, v7, v8, v13, v14, v15, v16, v17, v18, v19, v20, v21, v22, v23, v24, ha, F⟩ := hI
      have e13 := F.f8 (hdep 8 (by kernel_rfl))
      obtain ⟨Al, gs, c, tu, si, us, ru, fa, nn, co, e21, h2, h3, h4⟩ := F.f7 (hdep 7 (by kernel_rfl))
      subst ha
      simp only [Act.put, List.setIfInBounds_toArray, List.set_cons_zero, List.set_cons_succ, e13, e21]
      go_simp
      exact hK.out _ _ ⟨v6, v7, v8, v13, v14, v15, v16, v17, v18, v19, v20, v21, v22, _, v24, by simp only [Act.put, List.setIfInBounds_toArray, List.set_cons_zero, List.set_cons_succ, e13, e21], ⟨F.D, F.gr, F.z2, F.z3, F.q4, F.hp, fun h => F.f0 (h.resolve_left (by decide)), fun h => F.f1 (h.resolve_left (by decide)), fun h => F.f2 (h.resolve_left (by decide)), fun h => F.f3 (h.resolve_left (by decide)), fun h => F.f4 (h.resolve_left (by decide)), fun h => F.f5 (h.resolve_left (by decide)), fun h hn => F.f6 (h.resolve_left (by decide)) (fun x => hn (Or.inr x)), fun h => by obtain ⟨Al, gs, c, tu, si, us, ru, fa, nn, co, h1, h2, h3, h4⟩ := F.f7 (h.resolve_left (by decide)); exact ⟨Al, gs, c, tu, si, us, ru, fa, nn, co, h1, h2, h3, fun h5 => h4 (h5.resolve_left (by decide))⟩, fun h => F.f8 (h.resolve_left (by decide)), fun h => F.f9 (h.resolve_left (by decide)), fun _ => ⟨_, _, e13.trans e21⟩, fun h => F.f11 (h.resolve_left (by decide)), fun h hn => F.f12 (h.resolve_left (by decide)) (fun x => hn (Or.inr x)), fun h => F.f13 (h.resolve_left (by decide)), fun h => F.f14 (h.resolve_left (by decide)), fun h => F.f15 (h.resolve_left (by decide))⟩⟩
    refine StepsFrom.cons rfl (fun L a w' hI hno hdep hcl K hK => ?_) ?_
    · obtain ⟨v6, v7, v8, v13, v14, v15, v16, v17, v18, v19, v20, v21, v22, v23, v24, ha, F⟩ := hI
      have e13 := F.f8 (hdep 8 (by kernel_rfl))
      obtain ⟨Al, gs, c, tu, si, us, ru, fa, nn, co, e21, h2, h3, h4⟩ := F.f7 (hdep 7 (by kernel_rfl))
      subst ha
      simp only [Act.put, List.setIfInBounds_toArray, List.set_cons_zero, List.set_cons_succ, e13, e21]
      go_simp
      exact hK.out _ _ ⟨v6, v7, v8, v13, v14, v15, v16, v17, v18, v19, v20, v21, v22, v23, _, by simp only [Act.put, List.setIfInBounds_toArray, List.set_cons_zero, List.set_cons_succ, e13, e21], ⟨F.D, F.gr, F.z2, F.z3, F.q4, F.hp, fun h => F.f0 (h.resolve_left (by decide)), fun h => F.f1 (h.resolve_left (by decide)), fun h => F.f2 (h.resolve_left (by decide)), fun h => F.f3 (h.resolve_left (by decide)), fun h => F.f4 (h.resolve_left (by decide)), fun h => F.f5 (h.resolve_left (by decide)), fun h hn => F.f6 (h.resolve_left (by decide)) (fun x => hn (Or.inr x)), fun h => by obtain ⟨Al, gs, c, tu, si, us, ru, fa, nn, co, h1, h2, h3, h4⟩ := F.f7 (h.resolve_left (by decide)); exact ⟨Al, gs, c, tu, si, us, ru, fa, nn, co, h1, h2, h3, fun h5 => h4 (h5.resolve_left (by decide))⟩, fun h => F.f8 (h.resolve_left (by decide)), fun h => F.f9 (h.resolve_left (by decide)), fun h => F.f10 (h.resolve_left (by decide)), fun _ => ⟨_, _, e13.trans e21⟩, fun h hn => F.f12 (h.resolve_left (by decide)) (fun x => hn (Or.inr x)), fun h => F.f13 (h.resolve_left (by decide)), fun h => F.f14 (h.resolve_left (by decide)), fun h => F.f15 (h.resolve_left (by decide))⟩⟩
    refine StepsFrom.cons rfl (fun L a w' hI hno hdep hcl K hK => ?_) ?_
    · obtain ⟨v6, v7, v8, v13, v14, v15, v16, v17, v18, v19, v20, v21, v22, v23, v24, ha, F⟩ := hI
      have hz3 := F.z3.lt
      have hq4 := F.q4.lt
      subst ha
      simp only [Act.put, List.setIfInBounds_toArray, List.set_cons_zero, List.set_cons_succ]
      go_simp
      exact hK.out _ _ ⟨_, v7, v8, v13, v14, v15, v16, v17, v18, v19, v20, v21, v22, v23, v24, by simp only [Act.put, List.setIfInBounds_toArray, List.set_cons_zero, List.set_cons_succ], ⟨F.D.alloc _, grownBy_trans F.gr (World.grownBy_alloc _ _ _), F.z2.alloc _, F.z3.alloc _, F.q4.alloc _, F.hp, fun h => F.f0 (h.resolve_left (by decide)), fun h => F.f1 (h.resolve_left (by decide)), fun h => F.f2 (h.resolve_left (by decide)), fun h => F.f3 (h.resolve_left (by decide)), fun h => F.f4 (h.resolve_left (by decide)), fun h => F.f5 (h.resolve_left (by decide)), fun h hn => by obtain ⟨Ae, ls, ce, h1, h2⟩ := F.f6 (h.resolve_left (by decide)) (fun x => hn (Or.inr x)); exact ⟨Ae, ls, ce, h1, (h2.alloc _).more (by simp)⟩, fun h => by obtain ⟨Al, gs, c, tu, si, us, ru, fa, nn, co, h1, h2, h3, h4⟩ := F.f7 (h.resolve_left (by decide)); exact ⟨Al, gs, c, tu, si, us, ru, fa, nn, co, h1, (h2.alloc _).more (by simp), h3, fun _ k bx hbx hk => by simp only [Value.pointer.injEq, Option.some.injEq, Addr.mk.injEq, and_true] at hbx; have := h2.2 k hk; omega⟩, fun h => F.f8 (h.resolve_left (by decide)), fun h => F.f9 (h.resolve_left (by decide)), fun h => F.f10 (h.resolve_left (by decide)), fun h => F.f11 (h.resolve_left (by decide)), fun _ _ => ⟨_, rfl, by omega, by omega, RowB.new _ _ _⟩, fun h => absurd (hcl 13 12 (by kernel_rfl) (h.resolve_left (by decide))) hno, fun h => F.f14 (h.resolve_left (by decide)), fun h => F.f15 (h.resolve_left (by decide))⟩⟩
    refine StepsFrom.cons rfl (fun L a w' hI hno hdep hcl K hK => ?_) ?_
    · obtain ⟨v6, v7, v8, v13, v14, v15, v16, v17, v18, v19, v20, v21, v22, v23, v24, ha, F⟩ := hI
      obtain ⟨q1, q2, e22⟩ := F.f9 (hdep 9 (by kernel_rfl))
      have e13 := F.f8 (hdep 8 (by kernel_rfl))
      obtain ⟨Al, gs, c, tu, si, us, ru, fa, nn, co, e21, h2, h3, h4⟩ := F.f7 (hdep 7 (by kernel_rfl))
      rw [e13, e21] at e22
      simp only [Value.tuple.injEq, Array.mk.injEq, List.cons.injEq, and_true] at e22
      obtain ⟨e22, -, -⟩ := e22
      replace e22 := e22.symm
      obtain ⟨bx, e6, hx1, hx2, hx3⟩ := F.f12 (hdep 12 (by kernel_rfl)) hno
      obtain ⟨c0, c1, c2, c3, c4, c5⟩ := hx3.c6
      have hf := hx3.frozen
      have hl := hx3.lt
      have hp := F.hp
      have h12 := hdep 12 (by kernel_rfl)
      have h5 : ∀ k, (Value.slice Al gs.length c).ownBlock = some k → k ≠ bx := fun k hk => h4 h12 k bx e6 hk
      subst ha
      simp only [Act.put, List.setIfInBounds_toArray, List.set_cons_zero, List.set_cons_succ, e6, e22, e13, e21]
      go_simp
      exact hK.out _ _ ⟨v6, v7, v8, v13, v14, v15, v16, v17, v18, v19, v20, v21, v22, v23, v24, by simp only [Act.put, List.setIfInBounds_toArray, List.set_cons_zero, List.set_cons_succ, e6, e22, e13, e21], ⟨D6 F.D (by omega) (by omega) _ _ _ _ _ _, gr6 F.gr (by omega) _ _ _ _ _ _, other6 F.z2 (by omega) _ _ _ _ _ _, other6 F.z3 (by omega) _ _ _ _ _ _, other6 F.q4 (by omega) _ _ _ _ _ _, F.hp, fun h => F.f0 (h.resolve_left (by decide)), fun h => F.f1 (h.resolve_left (by decide)), fun h => F.f2 (h.resolve_left (by decide)), fun h => F.f3 (h.resolve_left (by decide)), fun h => F.f4 (h.resolve_left (by decide)), fun h => F.f5 (h.resolve_left (by decide)), fun h hn => absurd (Or.inr (hdep 7 (by kernel_rfl))) hn, fun _ => ⟨Al, gs, c, tu, si, us, ru, fa, nn, co, e21, own6 h2 h5 _ _ _ _ _ _, h3, fun _ => h4 h12⟩, fun h => F.f8 (h.resolve_left (by decide)), fun h => F.f9 (h.resolve_left (by decide)), fun h => F.f10 (h.resolve_left (by decide)), fun h => F.f11 (h.resolve_left (by decide)), fun _ hn => absurd (Or.inl rfl) hn, fun _ => ⟨bx, e6, hx1, hx2, Al, gs.length, c, tu, si, us, ru, fa, e22, six hx3 _ _ _ _ _ _⟩, fun h => F.f14 (h.resolve_left (by decide)), fun h => F.f15 (h.resolve_left (by decide))⟩⟩
    refine StepsFrom.cons rfl (fun L a w' hI hno hdep hcl K hK => ?_) ?_
    · obtain ⟨v6, v7, v8, v13, v14, v15, v16, v17, v18, v19, v20, v21, v22, v23, v24, ha, F⟩ := hI
      subst ha
      simp only [Act.put, List.setIfInBounds_toArray, List.set_cons_zero, List.set_cons_succ]
      go_simp
      exact hK.out _ _ ⟨v6, v23, v8, v13, v14, v15, v16, v17, v18, v19, v20, v21, v22, v23, v24, by simp only [Act.put, List.setIfInBounds_toArray, List.set_cons_zero, List.set_cons_succ], ⟨F.D, F.gr, F.z2, F.z3, F.q4, F.hp, fun h => F.f0 (h.resolve_left (by decide)), fun h => F.f1 (h.resolve_left (by decide)), fun h => F.f2 (h.resolve_left (by decide)), fun h => F.f3 (h.resolve_left (by decide)), fun h => F.f4 (h.resolve_left (by decide)), fun h => F.f5 (h.resolve_left (by decide)), fun h hn => F.f6 (h.resolve_left (by decide)) (fun x => hn (Or.inr x)), fun h => by obtain ⟨Al, gs, c, tu, si, us, ru, fa, nn, co, h1, h2, h3, h4⟩ := F.f7 (h.resolve_left (by decide)); exact ⟨Al, gs, c, tu, si, us, ru, fa, nn, co, h1, h2, h3, fun h5 => h4 (h5.resolve_left (by decide))⟩, fun h => F.f8 (h.resolve_left (by decide)), fun h => F.f9 (h.resolve_left (by decide)), fun h => F.f10 (h.resolve_left (by decide)), fun h => F.f11 (h.resolve_left (by decide)), fun h hn => F.f12 (h.resolve_left (by decide)) (fun x => hn (Or.inr x)), fun h => F.f13 (h.resolve_left (by decide)), fun _ => trivial, fun h => F.f15 (h.resolve_left (by decide))⟩⟩
    refine StepsFrom.cons rfl (fun L a w' hI hno hdep hcl K hK => ?_) ?_
    · obtain ⟨v6, v7, v8, v13, v14, v15, v16, v17, v18, v19, v20, v21, v22, v23, v24, ha, F⟩ := hI
      subst ha
      simp only [Act.put, List.setIfInBounds_toArray, List.set_cons_zero, List.set_cons_succ]
      go_simp
      exact hK.out _ _ ⟨v6, v7, v24, v13, v14, v15, v16, v17, v18, v19, v20, v21, v22, v23, v24, by simp only [Act.put, List.setIfInBounds_toArray, List.set_cons_zero, List.set_cons_succ], ⟨F.D, F.gr, F.z2, F.z3, F.q4, F.hp, fun h => F.f0 (h.resolve_left (by decide)), fun h => F.f1 (h.resolve_left (by decide)), fun h => F.f2 (h.resolve_left (by decide)), fun h => F.f3 (h.resolve_left (by decide)), fun h => F.f4 (h.resolve_left (by decide)), fun h => F.f5 (h.resolve_left (by decide)), fun h hn => F.f6 (h.resolve_left (by decide)) (fun x => hn (Or.inr x)), fun h => by obtain ⟨Al, gs, c, tu, si, us, ru, fa, nn, co, h1, h2, h3, h4⟩ := F.f7 (h.resolve_left (by decide)); exact ⟨Al, gs, c, tu, si, us, ru, fa, nn, co, h1, h2, h3, fun h5 => h4 (h5.resolve_left (by decide))⟩, fun h => F.f8 (h.resolve_left (by decide)), fun h => F.f9 (h.resolve_left (by decide)), fun h => F.f10 (h.resolve_left (by decide)), fun h => F.f11 (h.resolve_left (by decide)), fun h hn => F.f12 (h.resolve_left (by decide)) (fun x => hn (Or.inr x)), fun h => F.f13 (h.resolve_left (by decide)), fun h => F.f14 (h.resolve_left (by decide)), fun _ => trivial⟩⟩
    exact StepsFrom.nil (by decide)
  case fin =>
    rintro L a' w9 ⟨v6, v7, v8, v13, v14, v15, v16, v17, v18, v19, v20, v21, v22, v23, v24, rfl, F⟩ hL
    obtain ⟨bx, e6, hx1, hx2, Al', n', c', tu', si', us', ru', fa', e22', hrow⟩ := F.f13 (hL 13 (by decide))
    obtain ⟨q1, q2, e22⟩ := F.f9 (hL 9 (by decide))
    have e13 := F.f8 (hL 8 (by decide))
    obtain ⟨Al, gs, c, tu, si, us, ru, fa, nn, co, e21, h2, h3, h4⟩ := F.f7 (hL 7 (by decide))
    rw [e13, e21, e22'] at e22
    simp only [Value.tuple.injEq, Array.mk.injEq, List.cons.injEq, and_true, Value.agg.injEq, Value.slice.injEq, Value.int.injEq, Value.bool.injEq, true_and] at e22
    obtain ⟨⟨⟨rfl, rfl, rfl⟩, rfl, rfl, rfl, rfl, rfl⟩, -, -⟩ := e22
    have hp := F.hp
    have K : An w0 w B g A cp xs p4 bx r d b Al c gs tu si us ru fa w9 := ⟨F.D, F.gr, F.q4, hrow, h2, fun k hk => ⟨(h3 k hk).1, h4 (hL 12 (by decide)) k bx e6 hk, (h3 k hk).2⟩, by omega⟩
    have z2 := F.z2
    have z3 := F.z3
    subst e6
    clear F hL e22' e13 e21 hrow h2 h3 h4
    simp only [Act.put, List.setIfInBounds_toArray, List.set_cons_zero, List.set_cons_succ]
    go_wp2_with fail
    refine region_inv (fun a0 L a w' => ∃ v25 v26 : Value, a = ((a0.put (some 25) v25).put (some 26) v26) ∧ SrF w0 w B g A cp xs p4 bx r d b Al c gs tu si us ru fa L v25 v26 w') (by kernel_rfl) (by kernel_rfl) ?h0 ?hst ?fin
    case h0 =>
      exact ⟨_, _, by simp only [Act.put, List.setIfInBounds_toArray, List.set_cons_zero, List.set_cons_succ]; exact rfl, ⟨K.drew, fun _ => RowB.drew z2, fun _ => RowB.drew z3, fun h => (h : False).elim, fun h => (h : False).elim, fun h => (h : False).elim, fun h => (h : False).elim⟩⟩
    case hst =>
      refine StepsFrom.cons rfl (fun L a w' hI hno hdep hcl K hK => ?_) ?_
      · obtain ⟨v25, v26, ha, F⟩ := hI
        obtain ⟨c0, c1, c2⟩ := F.K.q4.c3
        subst ha
        simp only [Act.put, List.setIfInBounds_toArray, List.set_cons_zero, List.set_cons_succ]
        go_simp
        exact hK.out _ _ ⟨_, v26, by simp only [Act.put, List.setIfInBounds_toArray, List.set_cons_zero, List.set_cons_succ], ⟨F.K, fun h => F.z2 (fun x => h (Or.inr x)), fun h => F.z3 (fun x => h (Or.inr x)), fun _ => rfl, fun h => F.f1 (h.resolve_left (by decide)), fun h => F.f2 (h.resolve_left (by decide)), fun h => F.f3 (h.resolve_left (by decide))⟩⟩
      refine StepsFrom.cons rfl (fun L a w' hI hno hdep hcl K hK => ?_) ?_
      · obtain ⟨v25, v26, ha, F⟩ := hI
        obtain ⟨c0, c1, c2, c3, c4, c5⟩ := F.K.q5.c6
        subst ha
        simp only [Act.put, List.setIfInBounds_toArray, List.set_cons_zero, List.set_cons_succ]
        go_simp
        exact hK.out _ _ ⟨v25, _, by simp only [Act.put, List.setIfInBounds_toArray, List.set_cons_zero, List.set_cons_succ], ⟨F.K, fun h => F.z2 (fun x => h (Or.inr x)), fun h => F.z3 (fun x => h (Or.inr x)), fun h => F.f0 (h.resolve_left (by decide)), fun _ => rfl, fun h => F.f2 (h.resolve_left (by decide)), fun h => F.f3 (h.resolve_left (by decide))⟩⟩
      refine StepsFrom.cons rfl (fun L a w' hI hno hdep hcl K hK => ?_) ?_
      · obtain ⟨v25, v26, ha, F⟩ := hI
        have e25 := F.f0 (hdep 0 (by kernel_rfl))
        have hz := F.z2 hno
        obtain ⟨c0, c1, c2⟩ := hz.c3
        have hf := hz.frozen
        have hl := hz.lt
        subst ha
        simp only [Act.put, List.setIfInBounds_toArray, List.set_cons_zero, List.set_cons_succ, e25]
        go_simp
        exact hK.out _ _ ⟨v25, v26, by simp only [Act.put, List.setIfInBounds_toArray, List.set_cons_zero, List.set_cons_succ, e25], ⟨F.K.set2 _ _ _, fun h => absurd (Or.inl rfl) h, fun h => other3 (F.z3 (fun x => h (Or.inr x))) (by omega) _ _ _, fun h => F.f0 (h.resolve_left (by decide)), fun h => F.f1 (h.resolve_left (by decide)), fun _ => three hz _ _ _, fun h => other3 (F.f3 (h.resolve_left (by decide))) (by omega) _ _ _⟩⟩
      refine StepsFrom.cons rfl (fun L a w' hI hno hdep hcl K hK => ?_) ?_
      · obtain ⟨v25, v26, ha, F⟩ := hI
        have e26 := F.f1 (hdep 1 (by kernel_rfl))
        have hz := F.z3 hno
        obtain ⟨c0, c1, c2, c3, c4, c5⟩ := hz.c6
        have hf := hz.frozen
        have hl := hz.lt
        subst ha
        simp only [Act.put, List.setIfInBounds_toArray, List.set_cons_zero, List.set_cons_succ, e26]
        go_simp
        exact hK.out _ _ ⟨v25, v26, by simp only [Act.put, List.setIfInBounds_toArray, List.set_cons_zero, List.set_cons_succ, e26], ⟨F.K.set3 _ _ _ _ _ _, fun h => other6 (F.z2 (fun x => h (Or.inr x))) (by omega) _ _ _ _ _ _, fun h => absurd (Or.inl rfl) h, fun h => F.f0 (h.resolve_left (by decide)), fun h => F.f1 (h.resolve_left (by decide)), fun h => other6 (F.f2 (h.resolve_left (by decide))) (by omega) _ _ _ _ _ _, fun _ => six hz _ _ _ _ _ _⟩⟩
      exact StepsFrom.nil (by decide)
    case fin =>
    rintro L a' w9 ⟨v25, v26, rfl, F⟩ hL
    have R2 := F.f2 (hL 2 (by decide))
    have R3 := F.f3 (hL 3 (by decide))
    have K9 := F.K
    clear F hL
    simp only [Act.put, List.setIfInBounds_toArray, List.set_cons_zero, List.set_cons_succ]
    obtain ⟨a0, a1, a2⟩ := R2.c3
    obtain ⟨b0, b1, b2, b3, b4, b5⟩ := R3.c6
    go_wp2_with fail
    refine bodyPost_ret (v := .tuple #[.agg #[.int .i64 r, .int .i64 d, .int .i64 b], .agg #[.slice Al gs.length c, .int .i64 tu, .int .i64 si, .int .i64 us, .bool ru, .int .i64 fa]]) (by simp [results, Try.results64, go_sem, a0, a1, a2, b0, b1, b2, b3, b4, b5]) rfl ?_
    exact ⟨_, _, _, _, _, _, _, _, _, _, _, rfl, K9.D, K9.gr, K9.o⟩
end Go.Proofs.Ytdjopnhbcchedaa.DrawS
