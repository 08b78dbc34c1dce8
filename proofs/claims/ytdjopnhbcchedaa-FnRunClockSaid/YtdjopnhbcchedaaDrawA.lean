/-
  The draw of FnPause: rules, a state, an event. Conditions: each theorem's own.
-/
import Derived.Test.YtdjopnhbcchedaaDrawN
import Derived.Test.YtdjopnhbcchedaaStore
set_option linter.unusedVariables false
namespace Go.Proofs.Ytdjopnhbcchedaa.DrawA
open Go.ChangeShapes Go.WideShapes Go.ChangeAt Go.RowKit Base Base2 Ints Own Draw RegInv DrawK DrawE ClockRun DrawS DrawN Store
variable {w0 w w' : World} {B g cp : Nat} {A : Option Addr} {xs : List Int}
section
variable {W : World} {p k : Nat} {e : TypeId} {cs : List Value}
theorem other2 (h : RowB W k e cs) (hk : k ≠ p) (a b : Value) : RowB ((W.setCell ⟨p, 0, none⟩ a).setCell ⟨p, 1, none⟩ b) k e cs := (h.other hk _).other hk _
theorem two {a b : Value} (h : RowB W k e [a, b]) (u v : Value) : RowB ((W.setCell ⟨k, 0, none⟩ u).setCell ⟨k, 1, none⟩ v) k e [u, v] := (h.set 0 u).set 1 v
end
/-- Under way: the three results' boxes from block N on, the boxes p4 (rules) and p5 (state), its slice. -/
structure Aq (w0 : World) (B g : Nat) (A : Option Addr) (cp : Nat) (xs : List Int) (N lo p4 p5 : Nat) (r d b : Int) (Al : Option Addr) (c : Nat) (gs : List Int) (tu si us : Int) (ru : Bool) (fa : Int) (W : World) : Prop where
  D : Dr w0 B g A cp xs W
  q4 : RowB W p4 25 [.int .i64 r, .int .i64 d, .int .i64 b]
  q5 : RowB W p5 30 [.slice Al gs.length c, .int .i64 tu, .int .i64 si, .int .i64 us, .bool ru, .int .i64 fa]
  z2 : RowB W N 25 [.int .i64 0, .int .i64 0, .int .i64 0]
  z3 : RowB W (N + 1) 30 [.slice none 0 0, .int .i64 0, .int .i64 0, .int .i64 0, .bool false, .int .i64 0]
  z4 : RowB W (N + 2) 54 [.int .i64 0, .int .i64 0]
  o : OwnS W lo W.heap.size 2 1 enI (.slice Al gs.length c) gs
  ap : ∀ k, (Value.slice Al gs.length c).ownBlock = some k → k ≠ p4 ∧ k ≠ p5
  hp : N + 2 < g ∧ g < lo ∧ lo ≤ p4 ∧ lo ≤ p5 ∧ p4 ≠ p5 ∧ B ≤ g
  hw : lo ≤ W.heap.size
/-- Behind the draws: what the return reads. -/
structure Af (w : World) (N p4 p5 p8 : Nat) (r d b : Int) (Al : Option Addr) (c : Nat) (gs : List Int) (tu si us : Int) (ru : Bool) (fa kd tm : Int) (W : World) : Prop where
  q4 : RowB W p4 25 [.int .i64 r, .int .i64 d, .int .i64 b]
  q5 : RowB W p5 30 [.slice Al gs.length c, .int .i64 tu, .int .i64 si, .int .i64 us, .bool ru, .int .i64 fa]
  q8 : RowB W p8 54 [.int .i64 kd, .int .i64 tm]
  o : OwnS W (N + 3) W.heap.size 2 1 enI (.slice Al gs.length c) gs
  bel : Below w.heap.size w W
  hp : N + 2 < p4 ∧ N + 2 < p5 ∧ N + 2 < p8
  hN' : w.heap.size = N
section
variable {N lo p4 p5 p8 : Nat} {r d b : Int} {Al : Option Addr} {c : Nat} {gs : List Int} {tu si us : Int} {ru : Bool} {fa kd tm : Int} {W W' : World}
theorem Aq.drew (h : Aq w0 B g A cp xs N lo p4 p5 r d b Al c gs tu si us ru fa W) : Aq w0 B g A cp xs N lo p4 p5 r d b Al c gs tu si us ru fa W.drew := ⟨h.D.drew, h.q4.drew, h.q5.drew, h.z2.drew, h.z3.drew, h.z4.drew, h.o, h.ap, h.hp, h.hw⟩
theorem Aq.grown (h : Aq w0 B g A cp xs N lo p4 p5 r d b Al c gs tu si us ru fa W) (hD : Dr w0 B g A cp xs W') (hg : W.grownBy W' (some g)) : Aq w0 B g A cp xs N lo p4 p5 r d b Al c gs tu si us ru fa W' := by
  have hp := h.hp
  exact ⟨hD, h.q4.grown hg (fun k hk => by simp at hk; omega), h.q5.grown hg (fun k hk => by simp at hk; omega), h.z2.grown hg (fun k hk => by simp at hk; omega), h.z3.grown hg (fun k hk => by simp at hk; omega), h.z4.grown hg (fun k hk => by simp at hk; omega), (h.o.grown hg (fun k hk => by simp at hk; omega)).more hg.size, h.ap, hp, Nat.le_trans h.hw hg.size⟩
theorem Aq.alloc (h : Aq w0 B g A cp xs N lo p4 p5 r d b Al c gs tu si us ru fa W) (o : Obj) : Aq w0 B g A cp xs N lo p4 p5 r d b Al c gs tu si us ru fa (W.alloc o) :=
  ⟨h.D.alloc _, h.q4.alloc _, h.q5.alloc _, h.z2.alloc _, h.z3.alloc _, h.z4.alloc _, (h.o.alloc _).more (by simp), h.ap, h.hp, Nat.le_trans h.hw (by simp)⟩
theorem Aq.set1 (h : Aq w0 B g A cp xs N lo p4 p5 r d b Al c gs tu si us ru fa W) (h1 : lo ≤ p8) (h2 : p8 ≠ p4) (h3 : p8 ≠ p5) (hf : ∀ k, (Value.slice Al gs.length c).ownBlock = some k → k ≠ p8) (j : Nat) (x : Value) : Aq w0 B g A cp xs N lo p4 p5 r d b Al c gs tu si us ru fa (W.setCell ⟨p8, j, none⟩ x) := by
  have hp := h.hp
  refine ⟨h.D.set (by omega) (by omega) _, h.q4.other (by show p4 ≠ p8; omega) _, h.q5.other (by show p5 ≠ p8; omega) _, h.z2.other (by show N ≠ p8; omega) _, h.z3.other (by show N + 1 ≠ p8; omega) _, h.z4.other (by show N + 2 ≠ p8; omega) _, ?_, h.ap, hp, by rw [World.size_setCell]; exact h.hw⟩
  rw [World.size_setCell]
  exact own_far h.o hf _ _
theorem Aq.set8 (h : Aq w0 B g A cp xs N lo p4 p5 r d b Al c gs tu si us ru fa W) (h1 : lo ≤ p8) (h2 : p8 ≠ p4) (h3 : p8 ≠ p5) (hf : ∀ k, (Value.slice Al gs.length c).ownBlock = some k → k ≠ p8) (x y : Value) : Aq w0 B g A cp xs N lo p4 p5 r d b Al c gs tu si us ru fa ((W.setCell ⟨p8, 0, none⟩ x).setCell ⟨p8, 1, none⟩ y) :=
  (h.set1 h1 h2 h3 hf 0 x).set1 h1 h2 h3 hf 1 y
theorem Af.hN (h : Af w N p4 p5 p8 r d b Al c gs tu si us ru fa kd tm W) : w.heap.size ≤ N + 3 := by have := h.hN'; omega
theorem Af.drew (h : Af w N p4 p5 p8 r d b Al c gs tu si us ru fa kd tm W) : Af w N p4 p5 p8 r d b Al c gs tu si us ru fa kd tm W.drew := ⟨h.q4.drew, h.q5.drew, h.q8.drew, h.o, h.bel.drew, h.hp, h.hN'⟩
theorem Af.s1 (h : Af w N p4 p5 p8 r d b Al c gs tu si us ru fa kd tm W) {p : Nat} (h1 : N ≤ p) (h2 : p ≤ N + 2) (j : Nat) (u : Value) : Af w N p4 p5 p8 r d b Al c gs tu si us ru fa kd tm (W.setCell ⟨p, j, none⟩ u) := by
  have hp := h.hp
  have hN := h.hN'
  refine ⟨h.q4.other (by show p4 ≠ p; omega) _, h.q5.other (by show p5 ≠ p; omega) _, h.q8.other (by show p8 ≠ p; omega) _, ?_, h.bel.setCell (by show w.heap.size ≤ p; omega) _, hp, hN⟩
  rw [World.size_setCell]
  exact own_far h.o (fun k hk => by have := h.o.block k hk; omega) _ _
theorem Af.s3 (h : Af w N p4 p5 p8 r d b Al c gs tu si us ru fa kd tm W) (x y z : Value) : Af w N p4 p5 p8 r d b Al c gs tu si us ru fa kd tm (((W.setCell ⟨N, 0, none⟩ x).setCell ⟨N, 1, none⟩ y).setCell ⟨N, 2, none⟩ z) :=
  ((h.s1 (Nat.le_refl _) (by omega) 0 x).s1 (Nat.le_refl _) (by omega) 1 y).s1 (Nat.le_refl _) (by omega) 2 z
theorem Af.s2 (h : Af w N p4 p5 p8 r d b Al c gs tu si us ru fa kd tm W) (x y : Value) : Af w N p4 p5 p8 r d b Al c gs tu si us ru fa kd tm ((W.setCell ⟨N + 2, 0, none⟩ x).setCell ⟨N + 2, 1, none⟩ y) :=
  (h.s1 (by omega) (Nat.le_refl _) 0 x).s1 (by omega) (Nat.le_refl _) 1 y
theorem Af.s6 (h : Af w N p4 p5 p8 r d b Al c gs tu si us ru fa kd tm W) (x y z u v t : Value) : Af w N p4 p5 p8 r d b Al c gs tu si us ru fa kd tm ((((((W.setCell ⟨N + 1, 0, none⟩ x).setCell ⟨N + 1, 1, none⟩ y).setCell ⟨N + 1, 2, none⟩ z).setCell ⟨N + 1, 3, none⟩ u).setCell ⟨N + 1, 4, none⟩ v).setCell ⟨N + 1, 5, none⟩ t) :=
  (((((h.s1 (by omega) (by omega) 0 x).s1 (by omega) (by omega) 1 y).s1 (by omega) (by omega) 2 z).s1 (by omega) (by omega) 3 u).s1 (by omega) (by omega) 4 v).s1 (by omega) (by omega) 5 t
end
structure ApF (w0 : World) (B g : Nat) (A : Option Addr) (cp : Nat) (xs : List Int) (N lo p4 p5 : Nat) (r d b : Int) (Al : Option Addr) (c : Nat) (gs : List Int) (tu si us : Int) (ru : Bool) (fa : Int) (L : Nat → Prop) (v8 v16 v17 v18 v19 v20 v21 v22 v23 v24 v25 v26 v27 v28 : Value) (w' : World) : Prop where
  K : Aq w0 B g A cp xs N lo p4 p5 r d b Al c gs tu si us ru fa w'
  f0 : L 0 → v16 = .pointer (some ⟨g, 0, none⟩)
  f1 : L 1 → ∃ t : Int, v17 = .int .i64 t ∧ 0 ≤ t ∧ t < 2
  f2 : L 2 → ∃ t : Int, v18 = .int .i64 t
  f3 : L 3 → v19 = .pointer (some ⟨p5, 2, none⟩)
  f4 : L 4 → v20 = .int .i64 si
  f5 : L 5 → v21 = .pointer (some ⟨g, 0, none⟩)
  f6 : L 6 → ∃ t : Int, v22 = .int .i64 t
  f7 : L 7 → ∃ t : Int, v23 = .int .i64 t
  f8 : L 8 → v24 = .pointer (some ⟨g, 0, none⟩)
  f9 : L 9 → ∃ t : Int, v25 = .int .i64 t ∧ 0 ≤ t ∧ t < 12
  f10 : L 10 → ∃ t : Int, v26 = .int .i64 t
  f11 : L 11 → ∃ t : Int, v27 = .int .i64 t
  f12 : L 12 → ∃ s t : Int, v28 = .agg #[.int .i64 s, .int .i64 t]
  f13 : L 13 → ¬ L 14 → ∃ p8, v8 = .pointer (some ⟨p8, 0, none⟩) ∧ (lo ≤ p8 ∧ p8 ≠ p4 ∧ p8 ≠ p5 ∧ (∀ k, (Value.slice Al gs.length c).ownBlock = some k → k ≠ p8)) ∧ RowB w' p8 54 [.int .i64 0, .int .i64 0]
  f14 : L 14 → ∃ p8, v8 = .pointer (some ⟨p8, 0, none⟩) ∧ (lo ≤ p8 ∧ p8 ≠ p4 ∧ p8 ≠ p5 ∧ (∀ k, (Value.slice Al gs.length c).ownBlock = some k → k ≠ p8)) ∧ ∃ s t : Int, RowB w' p8 54 [.int .i64 s, .int .i64 t]
structure ArF (w : World) (N p4 p5 p8 : Nat) (r d b : Int) (Al : Option Addr) (c : Nat) (gs : List Int) (tu si us : Int) (ru : Bool) (fa kd tm : Int) (L : Nat → Prop) (v42 v43 v44 : Value) (w' : World) : Prop where
  K : Af w N p4 p5 p8 r d b Al c gs tu si us ru fa kd tm w'
  z2 : ¬ L 3 → RowB w' N 25 [.int .i64 0, .int .i64 0, .int .i64 0]
  z3 : ¬ L 4 → RowB w' (N + 1) 30 [.slice none 0 0, .int .i64 0, .int .i64 0, .int .i64 0, .bool false, .int .i64 0]
  z4 : ¬ L 5 → RowB w' (N + 2) 54 [.int .i64 0, .int .i64 0]
  f0 : L 0 → v42 = .agg #[.int .i64 r, .int .i64 d, .int .i64 b]
  f1 : L 1 → v43 = .agg #[.slice Al gs.length c, .int .i64 tu, .int .i64 si, .int .i64 us, .bool ru, .int .i64 fa]
  f2 : L 2 → v44 = .agg #[.int .i64 kd, .int .i64 tm]
  f3 : L 3 → RowB w' N 25 [.int .i64 r, .int .i64 d, .int .i64 b]
  f4 : L 4 → RowB w' (N + 1) 30 [.slice Al gs.length c, .int .i64 tu, .int .i64 si, .int .i64 us, .bool ru, .int .i64 fa]
  f5 : L 5 → RowB w' (N + 2) 54 [.int .i64 kd, .int .i64 tm]

set_option maxHeartbeats 4000000 in
set_option maxRecDepth 100000 in
theorem pause_ {w : World} {cp : Nat} {A : Option Addr} {xs : List Int} (hr : RdS w w.heap.size 1 enB A xs) (hw : ∀ x ∈ xs, (Lit.int .u8 x).wf = true) :
    Calls Try.prog 37 #[.slice A xs.length cp] w fun e w' => ∃ (r d b : Int) (Al : Option Addr) (c : Nat) (gs : List Int) (tu si us : Int) (ru : Bool) (fa kd tm : Int), e = .returned (.tuple #[.agg #[.int .i64 r, .int .i64 d, .int .i64 b], .agg #[.slice Al gs.length c, .int .i64 tu, .int .i64 si, .int .i64 us, .bool ru, .int .i64 fa], .agg #[.int .i64 kd, .int .i64 tm]]) ∧ OwnS w' w.heap.size w'.heap.size 2 1 enI (.slice Al gs.length c) gs ∧ Below w.heap.size w w' := by
  have hr1 : RdS (((w.alloc (.cells #[.int .i64 0, .int .i64 0, .int .i64 0] 25 )).alloc (.cells #[.slice none 0 0, .int .i64 0, .int .i64 0, .int .i64 0, .bool false, .int .i64 0] 30 )).alloc (.cells #[.int .i64 0, .int .i64 0] 54 )) (((w.alloc (.cells #[.int .i64 0, .int .i64 0, .int .i64 0] 25 )).alloc (.cells #[.slice none 0 0, .int .i64 0, .int .i64 0, .int .i64 0, .bool false, .int .i64 0] 30 )).alloc (.cells #[.int .i64 0, .int .i64 0] 54 )).heap.size 1 enB A xs := (hr.below (by go_grown) (Nat.le_refl _)).more (by simp only [World.size_alloc]; omega)
  go_enter Try.func37, Try.ntmps37
  go_wp2_with fail
  refine (new_ hr1 hw).mono ?_
  rintro e w1 ⟨rfl, h1⟩
  generalize hG : (((w.alloc (.cells #[.int .i64 0, .int .i64 0, .int .i64 0] 25 )).alloc (.cells #[.slice none 0 0, .int .i64 0, .int .i64 0, .int .i64 0, .bool false, .int .i64 0] 30 )).alloc (.cells #[.int .i64 0, .int .i64 0] 54 )).heap.size = G at h1 ⊢
  have hG1 : w.heap.size + 2 < G := by rw [← hG]; simp only [World.size_alloc]; omega
  have hG2 : G ≤ w.heap.size + 3 := by rw [← hG]; simp only [World.size_alloc]; omega
  clear hG
  have z2 : RowB w1 w.heap.size 25 [.int .i64 0, .int .i64 0, .int .i64 0] := (((RowB.new _ _ _).alloc _).alloc _).below h1.bel (by omega)
  have z3 : RowB w1 (w.heap.size + 1) 30 [.slice none 0 0, .int .i64 0, .int .i64 0, .int .i64 0, .bool false, .int .i64 0] := ((RowB.new' _ _ _ (by simp)).alloc _).below h1.bel (by omega)
  have z4 : RowB w1 (w.heap.size + 2) 54 [.int .i64 0, .int .i64 0] := (RowB.new' _ _ _ (by simp)).below h1.bel (by omega)
  have hgl := h1.lt
  have HB : Hid (∀ W' : World, Below G ((((w.alloc (.cells #[.int .i64 0, .int .i64 0, .int .i64 0] 25 )).alloc (.cells #[.slice none 0 0, .int .i64 0, .int .i64 0, .int .i64 0, .bool false, .int .i64 0] 30 )).alloc (.cells #[.int .i64 0, .int .i64 0] 54 ))) W' → Below w.heap.size w W') := fun W' h => (((((Below.refl w.heap.size w).alloc (Nat.le_refl _) _).alloc (by simp) _).alloc (by simp only [World.size_alloc]; omega) _).trans (h.mono (by omega)))
  clear hr1
  generalize (((w.alloc (.cells #[.int .i64 0, .int .i64 0, .int .i64 0] 25 )).alloc (.cells #[.slice none 0 0, .int .i64 0, .int .i64 0, .int .i64 0, .bool false, .int .i64 0] 30 )).alloc (.cells #[.int .i64 0, .int .i64 0] 54 )) = V at h1 HB
  obtain ⟨N, hN⟩ : ∃ N, w.heap.size = N := ⟨_, rfl⟩
  have HN := Lib.hid hN
  rw [hN] at z2 z3 z4 hG1 hG2 ⊢
  go_wp2_with fail
  refine (any h1).mono ?_
  rintro e w2 ⟨r, d, b, Al, c, gs, tu, si, us, ru, fa, rfl, D, hg, ho⟩
  have z2 := z2.grown hg (fun k hk => by simp at hk; omega)
  have z3 := z3.grown hg (fun k hk => by simp at hk; omega)
  have z4 := z4.grown hg (fun k hk => by simp at hk; omega)
  have hgs := hg.size
  have hob := ho.block
  clear hg h1 hr
  go_upto_region 3 with (fail)
  refine wp_gen (fun W' => Aq V G G A cp xs N w1.heap.size w2.heap.size (w2.heap.size + 1) r d b Al c gs tu si us ru fa W') ⟨(D.alloc _).alloc _, (RowB.new _ _ _).alloc _, RowB.new' _ _ _ (by simp), (z2.alloc _).alloc _, (z3.alloc _).alloc _, (z4.alloc _).alloc _, ((ho.alloc _).alloc _).more (by simp only [World.size_alloc]; omega), fun k hk => by have := hob k hk; omega, by omega, by simp only [World.size_alloc]; omega⟩ ?_
  generalize w1.heap.size = lo at *
  obtain ⟨p4, hp4⟩ : ∃ p, w2.heap.size = p := ⟨_, rfl⟩
  rw [hp4]
  obtain ⟨p5, hp5⟩ : ∃ p, p4 + 1 = p := ⟨_, rfl⟩
  rw [hp5]
  clear D z2 z3 z4 ho hob hp4 hp5 hgl hgs
  rintro w3 K
  refine region_inv (fun a0 L a w' => ∃ v8 v16 v17 v18 v19 v20 v21 v22 v23 v24 v25 v26 v27 v28 : Value, a = ((((((((((((((a0.put (some 8) v8).put (some 16) v16).put (some 17) v17).put (some 18) v18).put (some 19) v19).put (some 20) v20).put (some 21) v21).put (some 22) v22).put (some 23) v23).put (some 24) v24).put (some 25) v25).put (some 26) v26).put (some 27) v27).put (some 28) v28) ∧ ApF V G G A cp xs N lo p4 p5 r d b Al c gs tu si us ru fa L v8 v16 v17 v18 v19 v20 v21 v22 v23 v24 v25 v26 v27 v28 w') (by kernel_rfl) (by kernel_rfl) ?h0 ?hst ?fin
  case h0 =>
    exact ⟨undef, _, _, _, _, _, _, _, _, _, _, _, _, _, by simp only [Act.put, List.setIfInBounds_toArray, List.set_cons_zero, List.set_cons_succ]; exact rfl, ⟨K.drew, fun h => (h : False).elim, fun h => (h : False).elim, fun h => (h : False).elim, fun h => (h : False).elim, fun h => (h : False).elim, fun h => (h : False).elim, fun h => (h : False).elim, fun h => (h : False).elim, fun h => (h : False).elim, fun h => (h : False).elim, fun h => (h : False).elim, fun h => (h : False).elim, fun h => (h : False).elim, fun h => (h : False).elim, fun h => (h : False).elim⟩⟩
  case hst =>
    refine StepsFrom.cons rfl (fun L a w' hI hno hdep hcl K hK => ?_) ?_
    · obtain ⟨v8, v16, v17, v18, v19, v20, v21, v22, v23, v24, v25, v26, v27, v28, ha, F⟩ := hI
      subst ha
      simp only [Act.put, List.setIfInBounds_toArray, List.set_cons_zero, List.set_cons_succ]
      go_simp
      exact hK.out _ _ ⟨v8, _, v17, v18, v19, v20, v21, v22, v23, v24, v25, v26, v27, v28, by simp only [Act.put, List.setIfInBounds_toArray, List.set_cons_zero, List.set_cons_succ], ⟨F.K, fun _ => rfl, fun h => F.f1 (h.resolve_left (by decide)), fun h => F.f2 (h.resolve_left (by decide)), fun h => F.f3 (h.resolve_left (by decide)), fun h => F.f4 (h.resolve_left (by decide)), fun h => F.f5 (h.resolve_left (by decide)), fun h => F.f6 (h.resolve_left (by decide)), fun h => F.f7 (h.resolve_left (by decide)), fun h => F.f8 (h.resolve_left (by decide)), fun h => F.f9 (h.resolve_left (by decide)), fun h => F.f10 (h.resolve_left (by decide)), fun h => F.f11 (h.resolve_left (by decide)), fun h => F.f12 (h.resolve_left (by decide)), fun h hn => F.f13 (h.resolve_left (by decide)) (fun x => hn (Or.inr x)), fun h => F.f14 (h.resolve_left (by decide))⟩⟩
    refine StepsFrom.cons rfl (fun L a w' hI hno hdep hcl K hK => ?_) ?_
    · obtain ⟨v8, v16, v17, v18, v19, v20, v21, v22, v23, v24, v25, v26, v27, v28, ha, F⟩ := hI
      have e16 := F.f0 (hdep 0 (by kernel_rfl))
      have hp := F.K.hp
      subst ha
      simp only [Act.put, List.setIfInBounds_toArray, List.set_cons_zero, List.set_cons_succ, e16]
      go_simp
      refine (next' F.K.D 2 (by decide)).mono ?_
      rintro e w2 ⟨⟨t, rfl, t0, t1, -⟩, hD, hg, -⟩
      have t1 := t1 (by decide)
      exact hK.out _ _ ⟨v8, v16, _, v18, v19, v20, v21, v22, v23, v24, v25, v26, v27, v28, by simp only [Act.put, List.setIfInBounds_toArray, List.set_cons_zero, List.set_cons_succ, e16], ⟨F.K.grown hD hg, fun h => F.f0 (h.resolve_left (by decide)), fun _ => ⟨t, rfl, t0, t1⟩, fun h => F.f2 (h.resolve_left (by decide)), fun h => F.f3 (h.resolve_left (by decide)), fun h => F.f4 (h.resolve_left (by decide)), fun h => F.f5 (h.resolve_left (by decide)), fun h => F.f6 (h.resolve_left (by decide)), fun h => F.f7 (h.resolve_left (by decide)), fun h => F.f8 (h.resolve_left (by decide)), fun h => F.f9 (h.resolve_left (by decide)), fun h => F.f10 (h.resolve_left (by decide)), fun h => F.f11 (h.resolve_left (by decide)), fun h => F.f12 (h.resolve_left (by decide)), fun h hn => by obtain ⟨p8, h1, h2, h3⟩ := F.f13 (h.resolve_left (by decide)) (fun x => hn (Or.inr x)); exact ⟨p8, h1, h2, h3.grown hg (fun k hk => by simp at hk; omega)⟩, fun h => absurd (hcl 14 1 (by kernel_rfl) (h.resolve_left (by decide))) hno⟩⟩
    refine StepsFrom.cons rfl (fun L a w' hI hno hdep hcl K hK => ?_) ?_
    · obtain ⟨v8, v16, v17, v18, v19, v20, v21, v22, v23, v24, v25, v26, v27, v28, ha, F⟩ := hI
      obtain ⟨t, e17, t0, t1⟩ := F.f1 (hdep 1 (by kernel_rfl))
      subst ha
      simp only [Act.put, List.setIfInBounds_toArray, List.set_cons_zero, List.set_cons_succ, e17]
      go_simp
      exact hK.out _ _ ⟨v8, v16, v17, .int .i64 (IntKind.i64.wrap (1 + t)), v19, v20, v21, v22, v23, v24, v25, v26, v27, v28, by simp only [Act.put, List.setIfInBounds_toArray, List.set_cons_zero, List.set_cons_succ, e17], ⟨F.K, fun h => F.f0 (h.resolve_left (by decide)), fun h => F.f1 (h.resolve_left (by decide)), fun _ => ⟨_, rfl⟩, fun h => F.f3 (h.resolve_left (by decide)), fun h => F.f4 (h.resolve_left (by decide)), fun h => F.f5 (h.resolve_left (by decide)), fun h => F.f6 (h.resolve_left (by decide)), fun h => F.f7 (h.resolve_left (by decide)), fun h => F.f8 (h.resolve_left (by decide)), fun h => F.f9 (h.resolve_left (by decide)), fun h => F.f10 (h.resolve_left (by decide)), fun h => F.f11 (h.resolve_left (by decide)), fun h => F.f12 (h.resolve_left (by decide)), fun h hn => F.f13 (h.resolve_left (by decide)) (fun x => hn (Or.inr x)), fun h => F.f14 (h.resolve_left (by decide))⟩⟩
    refine StepsFrom.cons rfl (fun L a w' hI hno hdep hcl K hK => ?_) ?_
    · obtain ⟨v8, v16, v17, v18, v19, v20, v21, v22, v23, v24, v25, v26, v27, v28, ha, F⟩ := hI
      subst ha
      simp only [Act.put, List.setIfInBounds_toArray, List.set_cons_zero, List.set_cons_succ]
      go_simp
      exact hK.out _ _ ⟨v8, v16, v17, v18, _, v20, v21, v22, v23, v24, v25, v26, v27, v28, by simp only [Act.put, List.setIfInBounds_toArray, List.set_cons_zero, List.set_cons_succ], ⟨F.K, fun h => F.f0 (h.resolve_left (by decide)), fun h => F.f1 (h.resolve_left (by decide)), fun h => F.f2 (h.resolve_left (by decide)), fun _ => rfl, fun h => F.f4 (h.resolve_left (by decide)), fun h => F.f5 (h.resolve_left (by decide)), fun h => F.f6 (h.resolve_left (by decide)), fun h => F.f7 (h.resolve_left (by decide)), fun h => F.f8 (h.resolve_left (by decide)), fun h => F.f9 (h.resolve_left (by decide)), fun h => F.f10 (h.resolve_left (by decide)), fun h => F.f11 (h.resolve_left (by decide)), fun h => F.f12 (h.resolve_left (by decide)), fun h hn => F.f13 (h.resolve_left (by decide)) (fun x => hn (Or.inr x)), fun h => F.f14 (h.resolve_left (by decide))⟩⟩
    refine StepsFrom.cons rfl (fun L a w' hI hno hdep hcl K hK => ?_) ?_
    · obtain ⟨v8, v16, v17, v18, v19, v20, v21, v22, v23, v24, v25, v26, v27, v28, ha, F⟩ := hI
      have e19 := F.f3 (hdep 3 (by kernel_rfl))
      obtain ⟨c0, c1, c2, c3, c4, c5⟩ := F.K.q5.c6
      subst ha
      simp only [Act.put, List.setIfInBounds_toArray, List.set_cons_zero, List.set_cons_succ, e19]
      go_simp
      exact hK.out _ _ ⟨v8, v16, v17, v18, v19, _, v21, v22, v23, v24, v25, v26, v27, v28, by simp only [Act.put, List.setIfInBounds_toArray, List.set_cons_zero, List.set_cons_succ, e19], ⟨F.K, fun h => F.f0 (h.resolve_left (by decide)), fun h => F.f1 (h.resolve_left (by decide)), fun h => F.f2 (h.resolve_left (by decide)), fun h => F.f3 (h.resolve_left (by decide)), fun _ => rfl, fun h => F.f5 (h.resolve_left (by decide)), fun h => F.f6 (h.resolve_left (by decide)), fun h => F.f7 (h.resolve_left (by decide)), fun h => F.f8 (h.resolve_left (by decide)), fun h => F.f9 (h.resolve_left (by decide)), fun h => F.f10 (h.resolve_left (by decide)), fun h => F.f11 (h.resolve_left (by decide)), fun h => F.f12 (h.resolve_left (by decide)), fun h hn => F.f13 (h.resolve_left (by decide)) (fun x => hn (Or.inr x)), fun h => F.f14 (h.resolve_left (by decide))⟩⟩
    refine StepsFrom.cons rfl (fun L a w' hI hno hdep hcl K hK => ?_) ?_
    · obtain ⟨v8, v16, v17, v18, v19, v20, v21, v22, v23, v24, v25, v26, v27, v28, ha, F⟩ := hI
      subst ha
      simp only [Act.put, List.setIfInBounds_toArray, List.set_cons_zero, List.set_cons_succ]
      go_simp
      exact hK.out _ _ ⟨v8, v16, v17, v18, v19, v20, _, v22, v23, v24, v25, v26, v27, v28, by simp only [Act.put, List.setIfInBounds_toArray, List.set_cons_zero, List.set_cons_succ], ⟨F.K, fun h => F.f0 (h.resolve_left (by decide)), fun h => F.f1 (h.resolve_left (by decide)), fun h => F.f2 (h.resolve_left (by decide)), fun h => F.f3 (h.resolve_left (by decide)), fun h => F.f4 (h.resolve_left (by decide)), fun _ => rfl, fun h => F.f6 (h.resolve_left (by decide)), fun h => F.f7 (h.resolve_left (by decide)), fun h => F.f8 (h.resolve_left (by decide)), fun h => F.f9 (h.resolve_left (by decide)), fun h => F.f10 (h.resolve_left (by decide)), fun h => F.f11 (h.resolve_left (by decide)), fun h => F.f12 (h.resolve_left (by decide)), fun h hn => F.f13 (h.resolve_left (by decide)) (fun x => hn (Or.inr x)), fun h => F.f14 (h.resolve_left (by decide))⟩⟩
    refine StepsFrom.cons rfl (fun L a w' hI hno hdep hcl K hK => ?_) ?_
    · obtain ⟨v8, v16, v17, v18, v19, v20, v21, v22, v23, v24, v25, v26, v27, v28, ha, F⟩ := hI
      have e21 := F.f5 (hdep 5 (by kernel_rfl))
      have hp := F.K.hp
      subst ha
      simp only [Act.put, List.setIfInBounds_toArray, List.set_cons_zero, List.set_cons_succ, e21]
      go_simp
      refine (next' F.K.D 150 (by decide)).mono ?_
      rintro e w2 ⟨⟨t, rfl, t0, t1, -⟩, hD, hg, -⟩
      have t1 := t1 (by decide)
      exact hK.out _ _ ⟨v8, v16, v17, v18, v19, v20, v21, _, v23, v24, v25, v26, v27, v28, by simp only [Act.put, List.setIfInBounds_toArray, List.set_cons_zero, List.set_cons_succ, e21], ⟨F.K.grown hD hg, fun h => F.f0 (h.resolve_left (by decide)), fun h => F.f1 (h.resolve_left (by decide)), fun h => F.f2 (h.resolve_left (by decide)), fun h => F.f3 (h.resolve_left (by decide)), fun h => F.f4 (h.resolve_left (by decide)), fun h => F.f5 (h.resolve_left (by decide)), fun _ => ⟨t, rfl⟩, fun h => F.f7 (h.resolve_left (by decide)), fun h => F.f8 (h.resolve_left (by decide)), fun h => F.f9 (h.resolve_left (by decide)), fun h => F.f10 (h.resolve_left (by decide)), fun h => F.f11 (h.resolve_left (by decide)), fun h => F.f12 (h.resolve_left (by decide)), fun h hn => by obtain ⟨p8, h1, h2, h3⟩ := F.f13 (h.resolve_left (by decide)) (fun x => hn (Or.inr x)); exact ⟨p8, h1, h2, h3.grown hg (fun k hk => by simp at hk; omega)⟩, fun h => absurd (hcl 14 6 (by kernel_rfl) (h.resolve_left (by decide))) hno⟩⟩
    refine StepsFrom.cons rfl (fun L a w' hI hno hdep hcl K hK => ?_) ?_
    · obtain ⟨v8, v16, v17, v18, v19, v20, v21, v22, v23, v24, v25, v26, v27, v28, ha, F⟩ := hI
      have e20 := F.f4 (hdep 4 (by kernel_rfl))
      obtain ⟨t, e22⟩ := F.f6 (hdep 6 (by kernel_rfl))
      subst ha
      simp only [Act.put, List.setIfInBounds_toArray, List.set_cons_zero, List.set_cons_succ, e20, e22]
      go_simp
      exact hK.out _ _ ⟨v8, v16, v17, v18, v19, v20, v21, v22, .int .i64 (IntKind.i64.wrap (si + t)), v24, v25, v26, v27, v28, by simp only [Act.put, List.setIfInBounds_toArray, List.set_cons_zero, List.set_cons_succ, e20, e22], ⟨F.K, fun h => F.f0 (h.resolve_left (by decide)), fun h => F.f1 (h.resolve_left (by decide)), fun h => F.f2 (h.resolve_left (by decide)), fun h => F.f3 (h.resolve_left (by decide)), fun h => F.f4 (h.resolve_left (by decide)), fun h => F.f5 (h.resolve_left (by decide)), fun h => F.f6 (h.resolve_left (by decide)), fun _ => ⟨_, rfl⟩, fun h => F.f8 (h.resolve_left (by decide)), fun h => F.f9 (h.resolve_left (by decide)), fun h => F.f10 (h.resolve_left (by decide)), fun h => F.f11 (h.resolve_left (by decide)), fun h => F.f12 (h.resolve_left (by decide)), fun h hn => F.f13 (h.resolve_left (by decide)) (fun x => hn (Or.inr x)), fun h => F.f14 (h.resolve_left (by decide))⟩⟩
    refine StepsFrom.cons rfl (fun L a w' hI hno hdep hcl K hK => ?_) ?_
    · obtain ⟨v8, v16, v17, v18, v19, v20, v21, v22, v23, v24, v25, v26, v27, v28, ha, F⟩ := hI
      subst ha
      simp only [Act.put, List.setIfInBounds_toArray, List.set_cons_zero, List.set_cons_succ]
      go_simp
      exact hK.out _ _ ⟨v8, v16, v17, v18, v19, v20, v21, v22, v23, _, v25, v26, v27, v28, by simp only [Act.put, List.setIfInBounds_toArray, List.set_cons_zero, List.set_cons_succ], ⟨F.K, fun h => F.f0 (h.resolve_left (by decide)), fun h => F.f1 (h.resolve_left (by decide)), fun h => F.f2 (h.resolve_left (by decide)), fun h => F.f3 (h.resolve_left (by decide)), fun h => F.f4 (h.resolve_left (by decide)), fun h => F.f5 (h.resolve_left (by decide)), fun h => F.f6 (h.resolve_left (by decide)), fun h => F.f7 (h.resolve_left (by decide)), fun _ => rfl, fun h => F.f9 (h.resolve_left (by decide)), fun h => F.f10 (h.resolve_left (by decide)), fun h => F.f11 (h.resolve_left (by decide)), fun h => F.f12 (h.resolve_left (by decide)), fun h hn => F.f13 (h.resolve_left (by decide)) (fun x => hn (Or.inr x)), fun h => F.f14 (h.resolve_left (by decide))⟩⟩
    refine StepsFrom.cons rfl (fun L a w' hI hno hdep hcl K hK => ?_) ?_
    · obtain ⟨v8, v16, v17, v18, v19, v20, v21, v22, v23, v24, v25, v26, v27, v28, ha, F⟩ := hI
      have e24 := F.f8 (hdep 8 (by kernel_rfl))
      have hp := F.K.hp
      subst ha
      simp only [Act.put, List.setIfInBounds_toArray, List.set_cons_zero, List.set_cons_succ, e24]
      go_simp
      refine (next' F.K.D 12 (by decide)).mono ?_
      rintro e w2 ⟨⟨t, rfl, t0, t1, -⟩, hD, hg, -⟩
      have t1 := t1 (by decide)
      exact hK.out _ _ ⟨v8, v16, v17, v18, v19, v20, v21, v22, v23, v24, _, v26, v27, v28, by simp only [Act.put, List.setIfInBounds_toArray, List.set_cons_zero, List.set_cons_succ, e24], ⟨F.K.grown hD hg, fun h => F.f0 (h.resolve_left (by decide)), fun h => F.f1 (h.resolve_left (by decide)), fun h => F.f2 (h.resolve_left (by decide)), fun h => F.f3 (h.resolve_left (by decide)), fun h => F.f4 (h.resolve_left (by decide)), fun h => F.f5 (h.resolve_left (by decide)), fun h => F.f6 (h.resolve_left (by decide)), fun h => F.f7 (h.resolve_left (by decide)), fun h => F.f8 (h.resolve_left (by decide)), fun _ => ⟨t, rfl, t0, t1⟩, fun h => F.f10 (h.resolve_left (by decide)), fun h => F.f11 (h.resolve_left (by decide)), fun h => F.f12 (h.resolve_left (by decide)), fun h hn => by obtain ⟨p8, h1, h2, h3⟩ := F.f13 (h.resolve_left (by decide)) (fun x => hn (Or.inr x)); exact ⟨p8, h1, h2, h3.grown hg (fun k hk => by simp at hk; omega)⟩, fun h => absurd (hcl 14 9 (by kernel_rfl) (h.resolve_left (by decide))) hno⟩⟩
    refine StepsFrom.cons rfl (fun L a w' hI hno hdep hcl K hK => ?_) ?_
    · obtain ⟨v8, v16, v17, v18, v19, v20, v21, v22, v23, v24, v25, v26, v27, v28, ha, F⟩ := hI
      obtain ⟨t, e25, t0, t1⟩ := F.f9 (hdep 9 (by kernel_rfl))
      have ht : Int.tdiv t 11 = t / 11 := by rw [Int.tdiv_eq_ediv_of_nonneg t0]
      subst ha
      simp only [Act.put, List.setIfInBounds_toArray, List.set_cons_zero, List.set_cons_succ, e25]
      go_simp
      exact hK.out _ _ ⟨v8, v16, v17, v18, v19, v20, v21, v22, v23, v24, v25, .int .i64 (IntKind.i64.wrap (t / 11)), v27, v28, by simp only [Act.put, List.setIfInBounds_toArray, List.set_cons_zero, List.set_cons_succ, e25], ⟨F.K, fun h => F.f0 (h.resolve_left (by decide)), fun h => F.f1 (h.resolve_left (by decide)), fun h => F.f2 (h.resolve_left (by decide)), fun h => F.f3 (h.resolve_left (by decide)), fun h => F.f4 (h.resolve_left (by decide)), fun h => F.f5 (h.resolve_left (by decide)), fun h => F.f6 (h.resolve_left (by decide)), fun h => F.f7 (h.resolve_left (by decide)), fun h => F.f8 (h.resolve_left (by decide)), fun h => F.f9 (h.resolve_left (by decide)), fun _ => ⟨_, rfl⟩, fun h => F.f11 (h.resolve_left (by decide)), fun h => F.f12 (h.resolve_left (by decide)), fun h hn => F.f13 (h.resolve_left (by decide)) (fun x => hn (Or.inr x)), fun h => F.f14 (h.resolve_left (by decide))⟩⟩
    refine StepsFrom.cons rfl (fun L a w' hI hno hdep hcl K hK => ?_) ?_
    · obtain ⟨v8, v16, v17, v18, v19, v20, v21, v22, v23, v24, v25, v26, v27, v28, ha, F⟩ := hI
      obtain ⟨s, e23⟩ := F.f7 (hdep 7 (by kernel_rfl))
      obtain ⟨t, e26⟩ := F.f10 (hdep 10 (by kernel_rfl))
      subst ha
      simp only [Act.put, List.setIfInBounds_toArray, List.set_cons_zero, List.set_cons_succ, e23, e26]
      go_simp
      exact hK.out _ _ ⟨v8, v16, v17, v18, v19, v20, v21, v22, v23, v24, v25, v26, .int .i64 (IntKind.i64.wrap (s - t)), v28, by simp only [Act.put, List.setIfInBounds_toArray, List.set_cons_zero, List.set_cons_succ, e23, e26], ⟨F.K, fun h => F.f0 (h.resolve_left (by decide)), fun h => F.f1 (h.resolve_left (by decide)), fun h => F.f2 (h.resolve_left (by decide)), fun h => F.f3 (h.resolve_left (by decide)), fun h => F.f4 (h.resolve_left (by decide)), fun h => F.f5 (h.resolve_left (by decide)), fun h => F.f6 (h.resolve_left (by decide)), fun h => F.f7 (h.resolve_left (by decide)), fun h => F.f8 (h.resolve_left (by decide)), fun h => F.f9 (h.resolve_left (by decide)), fun h => F.f10 (h.resolve_left (by decide)), fun _ => ⟨_, rfl⟩, fun h => F.f12 (h.resolve_left (by decide)), fun h hn => F.f13 (h.resolve_left (by decide)) (fun x => hn (Or.inr x)), fun h => F.f14 (h.resolve_left (by decide))⟩⟩
    refine StepsFrom.cons rfl (fun L a w' hI hno hdep hcl K hK => ?_) ?_
    · obtain ⟨v8, v16, v17, v18, v19, v20, v21, v22, v23, v24, v25, v26, v27, v28, ha, F⟩ := hI
      obtain ⟨s, e18⟩ := F.f2 (hdep 2 (by kernel_rfl))
      obtain ⟨t, e27⟩ := F.f11 (hdep 11 (by kernel_rfl))
      subst ha
      simp only [Act.put, List.setIfInBounds_toArray, List.set_cons_zero, List.set_cons_succ, e18, e27]
      go_simp
      exact hK.out _ _ ⟨v8, v16, v17, v18, v19, v20, v21, v22, v23, v24, v25, v26, v27, .agg #[.int .i64 s, .int .i64 t], by simp only [Act.put, List.setIfInBounds_toArray, List.set_cons_zero, List.set_cons_succ, e18, e27], ⟨F.K, fun h => F.f0 (h.resolve_left (by decide)), fun h => F.f1 (h.resolve_left (by decide)), fun h => F.f2 (h.resolve_left (by decide)), fun h => F.f3 (h.resolve_left (by decide)), fun h => F.f4 (h.resolve_left (by decide)), fun h => F.f5 (h.resolve_left (by decide)), fun h => F.f6 (h.resolve_left (by decide)), fun h => F.f7 (h.resolve_left (by decide)), fun h => F.f8 (h.resolve_left (by decide)), fun h => F.f9 (h.resolve_left (by decide)), fun h => F.f10 (h.resolve_left (by decide)), fun h => F.f11 (h.resolve_left (by decide)), fun _ => ⟨_, _, rfl⟩, fun h hn => F.f13 (h.resolve_left (by decide)) (fun x => hn (Or.inr x)), fun h => absurd (hcl 14 12 (by kernel_rfl) (h.resolve_left (by decide))) hno⟩⟩
    refine StepsFrom.cons rfl (fun L a w' hI hno hdep hcl K hK => ?_) ?_
    · obtain ⟨v8, v16, v17, v18, v19, v20, v21, v22, v23, v24, v25, v26, v27, v28, ha, F⟩ := hI
      have hlo := F.K.hw
      have hq4 := F.K.q4.lt
      have hq5 := F.K.q5.lt
      have hob := F.K.o.2
      subst ha
      simp only [Act.put, List.setIfInBounds_toArray, List.set_cons_zero, List.set_cons_succ]
      go_simp
      exact hK.out _ _ ⟨_, v16, v17, v18, v19, v20, v21, v22, v23, v24, v25, v26, v27, v28, by simp only [Act.put, List.setIfInBounds_toArray, List.set_cons_zero, List.set_cons_succ], ⟨F.K.alloc _, fun h => F.f0 (h.resolve_left (by decide)), fun h => F.f1 (h.resolve_left (by decide)), fun h => F.f2 (h.resolve_left (by decide)), fun h => F.f3 (h.resolve_left (by decide)), fun h => F.f4 (h.resolve_left (by decide)), fun h => F.f5 (h.resolve_left (by decide)), fun h => F.f6 (h.resolve_left (by decide)), fun h => F.f7 (h.resolve_left (by decide)), fun h => F.f8 (h.resolve_left (by decide)), fun h => F.f9 (h.resolve_left (by decide)), fun h => F.f10 (h.resolve_left (by decide)), fun h => F.f11 (h.resolve_left (by decide)), fun h => F.f12 (h.resolve_left (by decide)), fun _ _ => ⟨_, rfl, ⟨by omega, by omega, by omega, fun k hk => by have := hob k hk; omega⟩, RowB.new _ _ _⟩, fun h => absurd (hcl 14 13 (by kernel_rfl) (h.resolve_left (by decide))) hno⟩⟩
    refine StepsFrom.cons rfl (fun L a w' hI hno hdep hcl K hK => ?_) ?_
    · obtain ⟨v8, v16, v17, v18, v19, v20, v21, v22, v23, v24, v25, v26, v27, v28, ha, F⟩ := hI
      obtain ⟨s, t, e28⟩ := F.f12 (hdep 12 (by kernel_rfl))
      obtain ⟨p8, e8, h2, h3⟩ := F.f13 (hdep 13 (by kernel_rfl)) hno
      obtain ⟨c0, c1⟩ := h3.c2
      have hf := h3.frozen
      have hl := h3.lt
      have hp := F.K.hp
      subst ha
      simp only [Act.put, List.setIfInBounds_toArray, List.set_cons_zero, List.set_cons_succ, e8, e28]
      go_simp
      exact hK.out _ _ ⟨v8, v16, v17, v18, v19, v20, v21, v22, v23, v24, v25, v26, v27, v28, by simp only [Act.put, List.setIfInBounds_toArray, List.set_cons_zero, List.set_cons_succ, e8, e28], ⟨F.K.set8 h2.1 h2.2.1 h2.2.2.1 h2.2.2.2 _ _, fun h => F.f0 (h.resolve_left (by decide)), fun h => F.f1 (h.resolve_left (by decide)), fun h => F.f2 (h.resolve_left (by decide)), fun h => F.f3 (h.resolve_left (by decide)), fun h => F.f4 (h.resolve_left (by decide)), fun h => F.f5 (h.resolve_left (by decide)), fun h => F.f6 (h.resolve_left (by decide)), fun h => F.f7 (h.resolve_left (by decide)), fun h => F.f8 (h.resolve_left (by decide)), fun h => F.f9 (h.resolve_left (by decide)), fun h => F.f10 (h.resolve_left (by decide)), fun h => F.f11 (h.resolve_left (by decide)), fun h => F.f12 (h.resolve_left (by decide)), fun _ hn => absurd (Or.inl rfl) hn, fun _ => ⟨p8, e8, h2, s, t, two h3 _ _⟩⟩⟩
    exact StepsFrom.nil (by decide)
  case fin =>
    rintro L a' w5 ⟨v8, v16, v17, v18, v19, v20, v21, v22, v23, v24, v25, v26, v27, v28, rfl, F⟩ hL
    obtain ⟨p8, e8, h2, kd, tm, q8⟩ := F.f14 (hL 14 (by decide))
    have K := F.K
    subst e8
    clear F hL
    simp only [Act.put, List.setIfInBounds_toArray, List.set_cons_zero, List.set_cons_succ]
    obtain ⟨c0, c1, c2, c3, c4, c5⟩ := K.q5.c6
    cases ru with
    | true =>
      go_wp2_with fail
      clear c0 c1 c2 c3 c4 c5
      refine (next' K.D 8 (by decide)).mono ?_
      rintro e w6 ⟨⟨t, rfl, t0, t1, -⟩, hD, hg, -⟩
      have hp := K.hp
      have K := K.grown hD hg
      have q8 := q8.grown hg (fun k hk => by simp at hk; omega)
      clear hD hg
      by_cases ht : t = 0
      case neg =>
        have et : (t == 0) = false := by simp [ht]
        clear ht
        go_wp2_with fail
        refine wp_gen (fun W' => Af w N p4 p5 p8 r d b Al c gs tu si us true fa kd tm W' ∧ RowB W' N 25 [.int .i64 0, .int .i64 0, .int .i64 0] ∧ RowB W' (N + 1) 30 [.slice none 0 0, .int .i64 0, .int .i64 0, .int .i64 0, .bool false, .int .i64 0] ∧ RowB W' (N + 2) 54 [.int .i64 0, .int .i64 0]) ?hk ?_
        case hk =>
          have K := K
          have hp := K.hp
          exact ⟨⟨K.q4, K.q5, q8, K.o.less (by omega), HB.out _ K.D.bel, by omega, HN.out⟩, K.z2, K.z3, K.z4⟩
        clear K q8
        rintro w8 ⟨K, z2, z3, z4⟩
        refine region_inv (fun a0 L a w' => ∃ v42 v43 v44 : Value, a = (((a0.put (some 42) v42).put (some 43) v43).put (some 44) v44) ∧ ArF w N p4 p5 p8 r d b Al c gs tu si us true fa kd tm L v42 v43 v44 w') (by kernel_rfl) (by kernel_rfl) ?h0 ?hst ?fin
        case h0 =>
          exact ⟨_, _, _, by simp only [Act.put, List.setIfInBounds_toArray, List.set_cons_zero, List.set_cons_succ]; exact rfl, ⟨K.drew, fun _ => RowB.drew z2, fun _ => RowB.drew z3, fun _ => RowB.drew z4, fun h => (h : False).elim, fun h => (h : False).elim, fun h => (h : False).elim, fun h => (h : False).elim, fun h => (h : False).elim, fun h => (h : False).elim⟩⟩
        case hst =>
          refine StepsFrom.cons rfl (fun L a w' hI hno hdep hcl K hK => ?_) ?_
          · obtain ⟨v42, v43, v44, ha, F⟩ := hI
            obtain ⟨c0, c1, c2⟩ := F.K.q4.c3
            subst ha
            simp only [Act.put, List.setIfInBounds_toArray, List.set_cons_zero, List.set_cons_succ]
            go_simp
            exact hK.out _ _ ⟨_, v43, v44, by simp only [Act.put, List.setIfInBounds_toArray, List.set_cons_zero, List.set_cons_succ], ⟨F.K, fun h => F.z2 (fun x => h (Or.inr x)), fun h => F.z3 (fun x => h (Or.inr x)), fun h => F.z4 (fun x => h (Or.inr x)), fun _ => rfl, fun h => F.f1 (h.resolve_left (by decide)), fun h => F.f2 (h.resolve_left (by decide)), fun h => F.f3 (h.resolve_left (by decide)), fun h => F.f4 (h.resolve_left (by decide)), fun h => F.f5 (h.resolve_left (by decide))⟩⟩
          refine StepsFrom.cons rfl (fun L a w' hI hno hdep hcl K hK => ?_) ?_
          · obtain ⟨v42, v43, v44, ha, F⟩ := hI
            obtain ⟨c0, c1, c2, c3, c4, c5⟩ := F.K.q5.c6
            subst ha
            simp only [Act.put, List.setIfInBounds_toArray, List.set_cons_zero, List.set_cons_succ]
            go_simp
            exact hK.out _ _ ⟨v42, _, v44, by simp only [Act.put, List.setIfInBounds_toArray, List.set_cons_zero, List.set_cons_succ], ⟨F.K, fun h => F.z2 (fun x => h (Or.inr x)), fun h => F.z3 (fun x => h (Or.inr x)), fun h => F.z4 (fun x => h (Or.inr x)), fun h => F.f0 (h.resolve_left (by decide)), fun _ => rfl, fun h => F.f2 (h.resolve_left (by decide)), fun h => F.f3 (h.resolve_left (by decide)), fun h => F.f4 (h.resolve_left (by decide)), fun h => F.f5 (h.resolve_left (by decide))⟩⟩
          refine StepsFrom.cons rfl (fun L a w' hI hno hdep hcl K hK => ?_) ?_
          · obtain ⟨v42, v43, v44, ha, F⟩ := hI
            obtain ⟨c0, c1⟩ := F.K.q8.c2
            subst ha
            simp only [Act.put, List.setIfInBounds_toArray, List.set_cons_zero, List.set_cons_succ]
            go_simp
            exact hK.out _ _ ⟨v42, v43, _, by simp only [Act.put, List.setIfInBounds_toArray, List.set_cons_zero, List.set_cons_succ], ⟨F.K, fun h => F.z2 (fun x => h (Or.inr x)), fun h => F.z3 (fun x => h (Or.inr x)), fun h => F.z4 (fun x => h (Or.inr x)), fun h => F.f0 (h.resolve_left (by decide)), fun h => F.f1 (h.resolve_left (by decide)), fun _ => rfl, fun h => F.f3 (h.resolve_left (by decide)), fun h => F.f4 (h.resolve_left (by decide)), fun h => F.f5 (h.resolve_left (by decide))⟩⟩
          refine StepsFrom.cons rfl (fun L a w' hI hno hdep hcl K hK => ?_) ?_
          · obtain ⟨v42, v43, v44, ha, F⟩ := hI
            have e42 := F.f0 (hdep 0 (by kernel_rfl))
            have hz0 := F.z2 hno
            obtain ⟨c0, c1, c2⟩ := hz0.c3
            have hf := hz0.frozen
            have hl := hz0.lt
            subst ha
            simp only [Act.put, List.setIfInBounds_toArray, List.set_cons_zero, List.set_cons_succ, e42]
            go_simp
            exact hK.out _ _ ⟨v42, v43, v44, by simp only [Act.put, List.setIfInBounds_toArray, List.set_cons_zero, List.set_cons_succ, e42], ⟨F.K.s3 _ _ _, fun h => absurd (Or.inl rfl) h, fun h => other3 (F.z3 (fun x => h (Or.inr x))) (by omega) _ _ _, fun h => other3 (F.z4 (fun x => h (Or.inr x))) (by omega) _ _ _, fun h => F.f0 (h.resolve_left (by decide)), fun h => F.f1 (h.resolve_left (by decide)), fun h => F.f2 (h.resolve_left (by decide)), fun _ => three hz0 _ _ _, fun h => other3 (F.f4 (h.resolve_left (by decide))) (by omega) _ _ _, fun h => other3 (F.f5 (h.resolve_left (by decide))) (by omega) _ _ _⟩⟩
          refine StepsFrom.cons rfl (fun L a w' hI hno hdep hcl K hK => ?_) ?_
          · obtain ⟨v42, v43, v44, ha, F⟩ := hI
            have e43 := F.f1 (hdep 1 (by kernel_rfl))
            have hz0 := F.z3 hno
            obtain ⟨c0, c1, c2, c3, c4, c5⟩ := hz0.c6
            have hf := hz0.frozen
            have hl := hz0.lt
            subst ha
            simp only [Act.put, List.setIfInBounds_toArray, List.set_cons_zero, List.set_cons_succ, e43]
            go_simp
            exact hK.out _ _ ⟨v42, v43, v44, by simp only [Act.put, List.setIfInBounds_toArray, List.set_cons_zero, List.set_cons_succ, e43], ⟨F.K.s6 _ _ _ _ _ _, fun h => other6 (F.z2 (fun x => h (Or.inr x))) (by omega) _ _ _ _ _ _, fun h => absurd (Or.inl rfl) h, fun h => other6 (F.z4 (fun x => h (Or.inr x))) (by omega) _ _ _ _ _ _, fun h => F.f0 (h.resolve_left (by decide)), fun h => F.f1 (h.resolve_left (by decide)), fun h => F.f2 (h.resolve_left (by decide)), fun h => other6 (F.f3 (h.resolve_left (by decide))) (by omega) _ _ _ _ _ _, fun _ => six hz0 _ _ _ _ _ _, fun h => other6 (F.f5 (h.resolve_left (by decide))) (by omega) _ _ _ _ _ _⟩⟩
          refine StepsFrom.cons rfl (fun L a w' hI hno hdep hcl K hK => ?_) ?_
          · obtain ⟨v42, v43, v44, ha, F⟩ := hI
            have e44 := F.f2 (hdep 2 (by kernel_rfl))
            have hz0 := F.z4 hno
            obtain ⟨c0, c1⟩ := hz0.c2
            have hf := hz0.frozen
            have hl := hz0.lt
            subst ha
            simp only [Act.put, List.setIfInBounds_toArray, List.set_cons_zero, List.set_cons_succ, e44]
            go_simp
            exact hK.out _ _ ⟨v42, v43, v44, by simp only [Act.put, List.setIfInBounds_toArray, List.set_cons_zero, List.set_cons_succ, e44], ⟨F.K.s2 _ _, fun h => other2 (F.z2 (fun x => h (Or.inr x))) (by omega) _ _, fun h => other2 (F.z3 (fun x => h (Or.inr x))) (by omega) _ _, fun h => absurd (Or.inl rfl) h, fun h => F.f0 (h.resolve_left (by decide)), fun h => F.f1 (h.resolve_left (by decide)), fun h => F.f2 (h.resolve_left (by decide)), fun h => other2 (F.f3 (h.resolve_left (by decide))) (by omega) _ _, fun h => other2 (F.f4 (h.resolve_left (by decide))) (by omega) _ _, fun _ => two hz0 _ _⟩⟩
          exact StepsFrom.nil (by decide)
        case fin =>
          rintro L a' w9 ⟨v42, v43, v44, rfl, F⟩ hL
          have R2 := F.f3 (hL 3 (by decide))
          have R3 := F.f4 (hL 4 (by decide))
          have R4 := F.f5 (hL 5 (by decide))
          have K9 := F.K
          clear F hL
          simp only [Act.put, List.setIfInBounds_toArray, List.set_cons_zero, List.set_cons_succ]
          obtain ⟨a0, a1, a2⟩ := R2.c3
          obtain ⟨b0, b1, b2, b3, b4, b5⟩ := R3.c6
          obtain ⟨c0, c1⟩ := R4.c2
          go_wp2_with fail
          refine bodyPost_ret (v := .tuple #[.agg #[.int .i64 r, .int .i64 d, .int .i64 b], .agg #[.slice Al gs.length c, .int .i64 tu, .int .i64 si, .int .i64 us, .bool true, .int .i64 fa], .agg #[.int .i64 kd, .int .i64 tm]]) (by simp [results, Try.results37, go_sem, a0, a1, a2, b0, b1, b2, b3, b4, b5, c0, c1]) rfl ?_
          exact ⟨_, _, _, _, _, _, _, _, _, _, _, _, _, rfl, K9.o.less K9.hN, K9.bel⟩
      subst ht
      go_wp2_with fail
      refine (next' K.D 12 (by decide)).mono ?_
      rintro e w7 ⟨⟨s, rfl, s0, s1, -⟩, hD, hg, -⟩
      have s1 := s1 (by decide)
      have hp := K.hp
      have K := K.grown hD hg
      have q8 := q8.grown hg (fun k hk => by simp at hk; omega)
      clear hD hg
      obtain ⟨c0, c1⟩ := q8.c2
      have hf := q8.frozen
      have hl := q8.lt
      have es : Int.tdiv s 11 = s / 11 := by rw [Int.tdiv_eq_ediv_of_nonneg s0]
      have ew : IntKind.i64.wrap (3 + s / 11) = 3 + s / 11 := IntWalk.i64_in _ (by omega)
      go_wp2_with fail
      refine wp_gen (fun W' => Af w N p4 p5 p8 r d b Al c gs tu si us true fa (3 + s / 11) tm W' ∧ RowB W' N 25 [.int .i64 0, .int .i64 0, .int .i64 0] ∧ RowB W' (N + 1) 30 [.slice none 0 0, .int .i64 0, .int .i64 0, .int .i64 0, .bool false, .int .i64 0] ∧ RowB W' (N + 2) 54 [.int .i64 0, .int .i64 0]) ?hk ?_
      case hk =>
        have K := K.set1 h2.1 h2.2.1 h2.2.2.1 h2.2.2.2 0 (.int .i64 (3 + s / 11))
        have hp := K.hp
        exact ⟨⟨K.q4, K.q5, q8.set 0 _, K.o.less (by omega), HB.out _ K.D.bel, by omega, HN.out⟩, K.z2, K.z3, K.z4⟩
      clear K q8
      rintro w8 ⟨K, z2, z3, z4⟩
      refine region_inv (fun a0 L a w' => ∃ v42 v43 v44 : Value, a = (((a0.put (some 42) v42).put (some 43) v43).put (some 44) v44) ∧ ArF w N p4 p5 p8 r d b Al c gs tu si us true fa (3 + s / 11) tm L v42 v43 v44 w') (by kernel_rfl) (by kernel_rfl) ?h0 ?hst ?fin
      case h0 =>
        exact ⟨_, _, _, by simp only [Act.put, List.setIfInBounds_toArray, List.set_cons_zero, List.set_cons_succ]; exact rfl, ⟨K.drew, fun _ => RowB.drew z2, fun _ => RowB.drew z3, fun _ => RowB.drew z4, fun h => (h : False).elim, fun h => (h : False).elim, fun h => (h : False).elim, fun h => (h : False).elim, fun h => (h : False).elim, fun h => (h : False).elim⟩⟩
      case hst =>
        refine StepsFrom.cons rfl (fun L a w' hI hno hdep hcl K hK => ?_) ?_
        · obtain ⟨v42, v43, v44, ha, F⟩ := hI
          obtain ⟨c0, c1, c2⟩ := F.K.q4.c3
          subst ha
          simp only [Act.put, List.setIfInBounds_toArray, List.set_cons_zero, List.set_cons_succ]
          go_simp
          exact hK.out _ _ ⟨_, v43, v44, by simp only [Act.put, List.setIfInBounds_toArray, List.set_cons_zero, List.set_cons_succ], ⟨F.K, fun h => F.z2 (fun x => h (Or.inr x)), fun h => F.z3 (fun x => h (Or.inr x)), fun h => F.z4 (fun x => h (Or.inr x)), fun _ => rfl, fun h => F.f1 (h.resolve_left (by decide)), fun h => F.f2 (h.resolve_left (by decide)), fun h => F.f3 (h.resolve_left (by decide)), fun h => F.f4 (h.resolve_left (by decide)), fun h => F.f5 (h.resolve_left (by decide))⟩⟩
        refine StepsFrom.cons rfl (fun L a w' hI hno hdep hcl K hK => ?_) ?_
        · obtain ⟨v42, v43, v44, ha, F⟩ := hI
          obtain ⟨c0, c1, c2, c3, c4, c5⟩ := F.K.q5.c6
          subst ha
          simp only [Act.put, List.setIfInBounds_toArray, List.set_cons_zero, List.set_cons_succ]
          go_simp
          exact hK.out _ _ ⟨v42, _, v44, by simp only [Act.put, List.setIfInBounds_toArray, List.set_cons_zero, List.set_cons_succ], ⟨F.K, fun h => F.z2 (fun x => h (Or.inr x)), fun h => F.z3 (fun x => h (Or.inr x)), fun h => F.z4 (fun x => h (Or.inr x)), fun h => F.f0 (h.resolve_left (by decide)), fun _ => rfl, fun h => F.f2 (h.resolve_left (by decide)), fun h => F.f3 (h.resolve_left (by decide)), fun h => F.f4 (h.resolve_left (by decide)), fun h => F.f5 (h.resolve_left (by decide))⟩⟩
        refine StepsFrom.cons rfl (fun L a w' hI hno hdep hcl K hK => ?_) ?_
        · obtain ⟨v42, v43, v44, ha, F⟩ := hI
          obtain ⟨c0, c1⟩ := F.K.q8.c2
          subst ha
          simp only [Act.put, List.setIfInBounds_toArray, List.set_cons_zero, List.set_cons_succ]
          go_simp
          exact hK.out _ _ ⟨v42, v43, _, by simp only [Act.put, List.setIfInBounds_toArray, List.set_cons_zero, List.set_cons_succ], ⟨F.K, fun h => F.z2 (fun x => h (Or.inr x)), fun h => F.z3 (fun x => h (Or.inr x)), fun h => F.z4 (fun x => h (Or.inr x)), fun h => F.f0 (h.resolve_left (by decide)), fun h => F.f1 (h.resolve_left (by decide)), fun _ => rfl, fun h => F.f3 (h.resolve_left (by decide)), fun h => F.f4 (h.resolve_left (by decide)), fun h => F.f5 (h.resolve_left (by decide))⟩⟩
        refine StepsFrom.cons rfl (fun L a w' hI hno hdep hcl K hK => ?_) ?_
        · obtain ⟨v42, v43, v44, ha, F⟩ := hI
          have e42 := F.f0 (hdep 0 (by kernel_rfl))
          have hz0 := F.z2 hno
          obtain ⟨c0, c1, c2⟩ := hz0.c3
          have hf := hz0.frozen
          have hl := hz0.lt
          subst ha
          simp only [Act.put, List.setIfInBounds_toArray, List.set_cons_zero, List.set_cons_succ, e42]
          go_simp
          exact hK.out _ _ ⟨v42, v43, v44, by simp only [Act.put, List.setIfInBounds_toArray, List.set_cons_zero, List.set_cons_succ, e42], ⟨F.K.s3 _ _ _, fun h => absurd (Or.inl rfl) h, fun h => other3 (F.z3 (fun x => h (Or.inr x))) (by omega) _ _ _, fun h => other3 (F.z4 (fun x => h (Or.inr x))) (by omega) _ _ _, fun h => F.f0 (h.resolve_left (by decide)), fun h => F.f1 (h.resolve_left (by decide)), fun h => F.f2 (h.resolve_left (by decide)), fun _ => three hz0 _ _ _, fun h => other3 (F.f4 (h.resolve_left (by decide))) (by omega) _ _ _, fun h => other3 (F.f5 (h.resolve_left (by decide))) (by omega) _ _ _⟩⟩
        refine StepsFrom.cons rfl (fun L a w' hI hno hdep hcl K hK => ?_) ?_
        · obtain ⟨v42, v43, v44, ha, F⟩ := hI
          have e43 := F.f1 (hdep 1 (by kernel_rfl))
          have hz0 := F.z3 hno
          obtain ⟨c0, c1, c2, c3, c4, c5⟩ := hz0.c6
          have hf := hz0.frozen
          have hl := hz0.lt
          subst ha
          simp only [Act.put, List.setIfInBounds_toArray, List.set_cons_zero, List.set_cons_succ, e43]
          go_simp
          exact hK.out _ _ ⟨v42, v43, v44, by simp only [Act.put, List.setIfInBounds_toArray, List.set_cons_zero, List.set_cons_succ, e43], ⟨F.K.s6 _ _ _ _ _ _, fun h => other6 (F.z2 (fun x => h (Or.inr x))) (by omega) _ _ _ _ _ _, fun h => absurd (Or.inl rfl) h, fun h => other6 (F.z4 (fun x => h (Or.inr x))) (by omega) _ _ _ _ _ _, fun h => F.f0 (h.resolve_left (by decide)), fun h => F.f1 (h.resolve_left (by decide)), fun h => F.f2 (h.resolve_left (by decide)), fun h => other6 (F.f3 (h.resolve_left (by decide))) (by omega) _ _ _ _ _ _, fun _ => six hz0 _ _ _ _ _ _, fun h => other6 (F.f5 (h.resolve_left (by decide))) (by omega) _ _ _ _ _ _⟩⟩
        refine StepsFrom.cons rfl (fun L a w' hI hno hdep hcl K hK => ?_) ?_
        · obtain ⟨v42, v43, v44, ha, F⟩ := hI
          have e44 := F.f2 (hdep 2 (by kernel_rfl))
          have hz0 := F.z4 hno
          obtain ⟨c0, c1⟩ := hz0.c2
          have hf := hz0.frozen
          have hl := hz0.lt
          subst ha
          simp only [Act.put, List.setIfInBounds_toArray, List.set_cons_zero, List.set_cons_succ, e44]
          go_simp
          exact hK.out _ _ ⟨v42, v43, v44, by simp only [Act.put, List.setIfInBounds_toArray, List.set_cons_zero, List.set_cons_succ, e44], ⟨F.K.s2 _ _, fun h => other2 (F.z2 (fun x => h (Or.inr x))) (by omega) _ _, fun h => other2 (F.z3 (fun x => h (Or.inr x))) (by omega) _ _, fun h => absurd (Or.inl rfl) h, fun h => F.f0 (h.resolve_left (by decide)), fun h => F.f1 (h.resolve_left (by decide)), fun h => F.f2 (h.resolve_left (by decide)), fun h => other2 (F.f3 (h.resolve_left (by decide))) (by omega) _ _, fun h => other2 (F.f4 (h.resolve_left (by decide))) (by omega) _ _, fun _ => two hz0 _ _⟩⟩
        exact StepsFrom.nil (by decide)
      case fin =>
        rintro L a' w9 ⟨v42, v43, v44, rfl, F⟩ hL
        have R2 := F.f3 (hL 3 (by decide))
        have R3 := F.f4 (hL 4 (by decide))
        have R4 := F.f5 (hL 5 (by decide))
        have K9 := F.K
        clear F hL
        simp only [Act.put, List.setIfInBounds_toArray, List.set_cons_zero, List.set_cons_succ]
        obtain ⟨a0, a1, a2⟩ := R2.c3
        obtain ⟨b0, b1, b2, b3, b4, b5⟩ := R3.c6
        obtain ⟨c0, c1⟩ := R4.c2
        go_wp2_with fail
        refine bodyPost_ret (v := .tuple #[.agg #[.int .i64 r, .int .i64 d, .int .i64 b], .agg #[.slice Al gs.length c, .int .i64 tu, .int .i64 si, .int .i64 us, .bool true, .int .i64 fa], .agg #[.int .i64 (3 + s / 11), .int .i64 tm]]) (by simp [results, Try.results37, go_sem, a0, a1, a2, b0, b1, b2, b3, b4, b5, c0, c1]) rfl ?_
        exact ⟨_, _, _, _, _, _, _, _, _, _, _, _, _, rfl, K9.o.less K9.hN, K9.bel⟩
    | false =>
      go_wp2_with fail
      clear c0 c1 c2 c3 c4 c5
      refine (next' K.D 12 (by decide)).mono ?_
      rintro e w7 ⟨⟨s, rfl, s0, s1, -⟩, hD, hg, -⟩
      have s1 := s1 (by decide)
      have hp := K.hp
      have K := K.grown hD hg
      have q8 := q8.grown hg (fun k hk => by simp at hk; omega)
      clear hD hg
      obtain ⟨c0, c1⟩ := q8.c2
      have hf := q8.frozen
      have hl := q8.lt
      have es : Int.tdiv s 11 = s / 11 := by rw [Int.tdiv_eq_ediv_of_nonneg s0]
      have ew : IntKind.i64.wrap (3 + s / 11) = 3 + s / 11 := IntWalk.i64_in _ (by omega)
      go_wp2_with fail
      refine wp_gen (fun W' => Af w N p4 p5 p8 r d b Al c gs tu si us false fa (3 + s / 11) tm W' ∧ RowB W' N 25 [.int .i64 0, .int .i64 0, .int .i64 0] ∧ RowB W' (N + 1) 30 [.slice none 0 0, .int .i64 0, .int .i64 0, .int .i64 0, .bool false, .int .i64 0] ∧ RowB W' (N + 2) 54 [.int .i64 0, .int .i64 0]) ?hk ?_
      case hk =>
        have K := K.set1 h2.1 h2.2.1 h2.2.2.1 h2.2.2.2 0 (.int .i64 (3 + s / 11))
        have hp := K.hp
        exact ⟨⟨K.q4, K.q5, q8.set 0 _, K.o.less (by omega), HB.out _ K.D.bel, by omega, HN.out⟩, K.z2, K.z3, K.z4⟩
      clear K q8
      rintro w8 ⟨K, z2, z3, z4⟩
      refine region_inv (fun a0 L a w' => ∃ v42 v43 v44 : Value, a = (((a0.put (some 42) v42).put (some 43) v43).put (some 44) v44) ∧ ArF w N p4 p5 p8 r d b Al c gs tu si us false fa (3 + s / 11) tm L v42 v43 v44 w') (by kernel_rfl) (by kernel_rfl) ?h0 ?hst ?fin
      case h0 =>
        exact ⟨_, _, _, by simp only [Act.put, List.setIfInBounds_toArray, List.set_cons_zero, List.set_cons_succ]; exact rfl, ⟨K.drew, fun _ => RowB.drew z2, fun _ => RowB.drew z3, fun _ => RowB.drew z4, fun h => (h : False).elim, fun h => (h : False).elim, fun h => (h : False).elim, fun h => (h : False).elim, fun h => (h : False).elim, fun h => (h : False).elim⟩⟩
      case hst =>
        refine StepsFrom.cons rfl (fun L a w' hI hno hdep hcl K hK => ?_) ?_
        · obtain ⟨v42, v43, v44, ha, F⟩ := hI
          obtain ⟨c0, c1, c2⟩ := F.K.q4.c3
          subst ha
          simp only [Act.put, List.setIfInBounds_toArray, List.set_cons_zero, List.set_cons_succ]
          go_simp
          exact hK.out _ _ ⟨_, v43, v44, by simp only [Act.put, List.setIfInBounds_toArray, List.set_cons_zero, List.set_cons_succ], ⟨F.K, fun h => F.z2 (fun x => h (Or.inr x)), fun h => F.z3 (fun x => h (Or.inr x)), fun h => F.z4 (fun x => h (Or.inr x)), fun _ => rfl, fun h => F.f1 (h.resolve_left (by decide)), fun h => F.f2 (h.resolve_left (by decide)), fun h => F.f3 (h.resolve_left (by decide)), fun h => F.f4 (h.resolve_left (by decide)), fun h => F.f5 (h.resolve_left (by decide))⟩⟩
        refine StepsFrom.cons rfl (fun L a w' hI hno hdep hcl K hK => ?_) ?_
        · obtain ⟨v42, v43, v44, ha, F⟩ := hI
          obtain ⟨c0, c1, c2, c3, c4, c5⟩ := F.K.q5.c6
          subst ha
          simp only [Act.put, List.setIfInBounds_toArray, List.set_cons_zero, List.set_cons_succ]
          go_simp
          exact hK.out _ _ ⟨v42, _, v44, by simp only [Act.put, List.setIfInBounds_toArray, List.set_cons_zero, List.set_cons_succ], ⟨F.K, fun h => F.z2 (fun x => h (Or.inr x)), fun h => F.z3 (fun x => h (Or.inr x)), fun h => F.z4 (fun x => h (Or.inr x)), fun h => F.f0 (h.resolve_left (by decide)), fun _ => rfl, fun h => F.f2 (h.resolve_left (by decide)), fun h => F.f3 (h.resolve_left (by decide)), fun h => F.f4 (h.resolve_left (by decide)), fun h => F.f5 (h.resolve_left (by decide))⟩⟩
        refine StepsFrom.cons rfl (fun L a w' hI hno hdep hcl K hK => ?_) ?_
        · obtain ⟨v42, v43, v44, ha, F⟩ := hI
          obtain ⟨c0, c1⟩ := F.K.q8.c2
          subst ha
          simp only [Act.put, List.setIfInBounds_toArray, List.set_cons_zero, List.set_cons_succ]
          go_simp
          exact hK.out _ _ ⟨v42, v43, _, by simp only [Act.put, List.setIfInBounds_toArray, List.set_cons_zero, List.set_cons_succ], ⟨F.K, fun h => F.z2 (fun x => h (Or.inr x)), fun h => F.z3 (fun x => h (Or.inr x)), fun h => F.z4 (fun x => h (Or.inr x)), fun h => F.f0 (h.resolve_left (by decide)), fun h => F.f1 (h.resolve_left (by decide)), fun _ => rfl, fun h => F.f3 (h.resolve_left (by decide)), fun h => F.f4 (h.resolve_left (by decide)), fun h => F.f5 (h.resolve_left (by decide))⟩⟩
        refine StepsFrom.cons rfl (fun L a w' hI hno hdep hcl K hK => ?_) ?_
        · obtain ⟨v42, v43, v44, ha, F⟩ := hI
          have e42 := F.f0 (hdep 0 (by kernel_rfl))
          have hz0 := F.z2 hno
          obtain ⟨c0, c1, c2⟩ := hz0.c3
          have hf := hz0.frozen
          have hl := hz0.lt
          subst ha
          simp only [Act.put, List.setIfInBounds_toArray, List.set_cons_zero, List.set_cons_succ, e42]
          go_simp
          exact hK.out _ _ ⟨v42, v43, v44, by simp only [Act.put, List.setIfInBounds_toArray, List.set_cons_zero, List.set_cons_succ, e42], ⟨F.K.s3 _ _ _, fun h => absurd (Or.inl rfl) h, fun h => other3 (F.z3 (fun x => h (Or.inr x))) (by omega) _ _ _, fun h => other3 (F.z4 (fun x => h (Or.inr x))) (by omega) _ _ _, fun h => F.f0 (h.resolve_left (by decide)), fun h => F.f1 (h.resolve_left (by decide)), fun h => F.f2 (h.resolve_left (by decide)), fun _ => three hz0 _ _ _, fun h => other3 (F.f4 (h.resolve_left (by decide))) (by omega) _ _ _, fun h => other3 (F.f5 (h.resolve_left (by decide))) (by omega) _ _ _⟩⟩
        refine StepsFrom.cons rfl (fun L a w' hI hno hdep hcl K hK => ?_) ?_
        · obtain ⟨v42, v43, v44, ha, F⟩ := hI
          have e43 := F.f1 (hdep 1 (by kernel_rfl))
          have hz0 := F.z3 hno
          obtain ⟨c0, c1, c2, c3, c4, c5⟩ := hz0.c6
          have hf := hz0.frozen
          have hl := hz0.lt
          subst ha
          simp only [Act.put, List.setIfInBounds_toArray, List.set_cons_zero, List.set_cons_succ, e43]
          go_simp
          exact hK.out _ _ ⟨v42, v43, v44, by simp only [Act.put, List.setIfInBounds_toArray, List.set_cons_zero, List.set_cons_succ, e43], ⟨F.K.s6 _ _ _ _ _ _, fun h => other6 (F.z2 (fun x => h (Or.inr x))) (by omega) _ _ _ _ _ _, fun h => absurd (Or.inl rfl) h, fun h => other6 (F.z4 (fun x => h (Or.inr x))) (by omega) _ _ _ _ _ _, fun h => F.f0 (h.resolve_left (by decide)), fun h => F.f1 (h.resolve_left (by decide)), fun h => F.f2 (h.resolve_left (by decide)), fun h => other6 (F.f3 (h.resolve_left (by decide))) (by omega) _ _ _ _ _ _, fun _ => six hz0 _ _ _ _ _ _, fun h => other6 (F.f5 (h.resolve_left (by decide))) (by omega) _ _ _ _ _ _⟩⟩
        refine StepsFrom.cons rfl (fun L a w' hI hno hdep hcl K hK => ?_) ?_
        · obtain ⟨v42, v43, v44, ha, F⟩ := hI
          have e44 := F.f2 (hdep 2 (by kernel_rfl))
          have hz0 := F.z4 hno
          obtain ⟨c0, c1⟩ := hz0.c2
          have hf := hz0.frozen
          have hl := hz0.lt
          subst ha
          simp only [Act.put, List.setIfInBounds_toArray, List.set_cons_zero, List.set_cons_succ, e44]
          go_simp
          exact hK.out _ _ ⟨v42, v43, v44, by simp only [Act.put, List.setIfInBounds_toArray, List.set_cons_zero, List.set_cons_succ, e44], ⟨F.K.s2 _ _, fun h => other2 (F.z2 (fun x => h (Or.inr x))) (by omega) _ _, fun h => other2 (F.z3 (fun x => h (Or.inr x))) (by omega) _ _, fun h => absurd (Or.inl rfl) h, fun h => F.f0 (h.resolve_left (by decide)), fun h => F.f1 (h.resolve_left (by decide)), fun h => F.f2 (h.resolve_left (by decide)), fun h => other2 (F.f3 (h.resolve_left (by decide))) (by omega) _ _, fun h => other2 (F.f4 (h.resolve_left (by decide))) (by omega) _ _, fun _ => two hz0 _ _⟩⟩
        exact StepsFrom.nil (by decide)
      case fin =>
        rintro L a' w9 ⟨v42, v43, v44, rfl, F⟩ hL
        have R2 := F.f3 (hL 3 (by decide))
        have R3 := F.f4 (hL 4 (by decide))
        have R4 := F.f5 (hL 5 (by decide))
        have K9 := F.K
        clear F hL
        simp only [Act.put, List.setIfInBounds_toArray, List.set_cons_zero, List.set_cons_succ]
        obtain ⟨a0, a1, a2⟩ := R2.c3
        obtain ⟨b0, b1, b2, b3, b4, b5⟩ := R3.c6
        obtain ⟨c0, c1⟩ := R4.c2
        go_wp2_with fail
        refine bodyPost_ret (v := .tuple #[.agg #[.int .i64 r, .int .i64 d, .int .i64 b], .agg #[.slice Al gs.length c, .int .i64 tu, .int .i64 si, .int .i64 us, .bool false, .int .i64 fa], .agg #[.int .i64 (3 + s / 11), .int .i64 tm]]) (by simp [results, Try.results37, go_sem, a0, a1, a2, b0, b1, b2, b3, b4, b5, c0, c1]) rfl ?_
        exact ⟨_, _, _, _, _, _, _, _, _, _, _, _, _, rfl, K9.o.less K9.hN, K9.bel⟩

end Go.Proofs.Ytdjopnhbcchedaa.DrawA
