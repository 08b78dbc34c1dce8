/-
  Boards copied and turned: of the program and of the reference. Conditions: each theorem's own.
-/
import Derived.Test.YtfgkkmhafdbicaaBd1
import Derived.Test.YtfgkkmhafdbicaaInv
import Derived.Deep.DeepCutAuto
set_option linter.unusedVariables false
set_option linter.unusedSimpArgs false
namespace Go.Proofs.Ytfgkkmhafdbicaa.Bd6
open Go.ChangeShapes Go.WideShapes Go.ChangeAt Go.RowKit Base Ints Own Clone RelG PlP Bd1 RegInv

/-- A board made by the call: two slices of its own. -/
def BoardR (l m : List Int) (w : World) (e : Ending) (w' : World) : Prop :=
  ∃ (A1 : Option Addr) (c1 : Nat) (A2 : Option Addr) (c2 : Nat), e = .returned (.agg #[.slice A1 l.length c1, .slice A2 m.length c2]) ∧ OwnS w' w.heap.size w'.heap.size 2 1 enI (.slice A1 l.length c1) l ∧ OwnS w' w.heap.size w'.heap.size 2 1 enI (.slice A2 m.length c2) m ∧ Own.Apart (.slice A1 l.length c1) (.slice A2 m.length c2) ∧ Below w.heap.size w w'
theorem two_ {W : World} {g : Nat} {t : TypeId} {a b : Value} (h : RowB W g t [a, b]) (u v : Value) : RowB ((W.setCell ⟨g, 0, none⟩ u).setCell ⟨g, 1, none⟩ v) g t [u, v] := (h.set 0 u).set 1 v
theorem below_two {B : Nat} {w W : World} (h : Below B w W) {g : Nat} (hg : B ≤ g) (u v : Value) : Below B w ((W.setCell ⟨g, 0, none⟩ u).setCell ⟨g, 1, none⟩ v) :=
  (h.setCell (p := ⟨g, 0, none⟩) hg _).setCell (p := ⟨g, 1, none⟩) hg _
theorem oth2 {W : World} {g g' : Nat} {t : TypeId} {cs : List Value} (h : RowB W g t cs) (hn : g ≠ g') (u v : Value) : RowB ((W.setCell ⟨g', 0, none⟩ u).setCell ⟨g', 1, none⟩ v) g t cs := (h.other (p := ⟨g', 0, none⟩) hn _).other (p := ⟨g', 1, none⟩) hn _
theorem own2 {w : World} {lo hi : Nat} {v : Value} {xs : List Int} (h : OwnS w lo hi 2 1 enI v xs) {g : Nat} (hg : g < lo) (a b : Value) : OwnS ((w.setCell ⟨g, 0, none⟩ a).setCell ⟨g, 1, none⟩ b) lo hi 2 1 enI v xs :=
  (h.setCell (p := ⟨g, 0, none⟩) hg _).setCell (p := ⟨g, 1, none⟩) hg _
structure ClF_clone_i (w : World) (g1 g2 : Nat) (Ao At : Option Addr) (co ct : Nat) (l m : List Int) (L : Nat → Prop) (v3 v4 v5 v6 v7 v8 v9 : Value) (w' : World) : Prop where
  bel : Below w.heap.size w w'
  rb : RowB w' g1 34 [.slice Ao l.length co, .slice At m.length ct]
  rr : ¬ L 7 → RowB w' g2 34 [.slice none 0 0, .slice none 0 0]
  ge : g1 = w.heap.size ∧ g2 = w.heap.size + 1 ∧ w.heap.size + 2 ≤ w'.heap.size
  f0 : L 0 → v3 = .pointer (some ⟨g1, 0, none⟩)
  f1 : L 1 → v4 = .slice Ao l.length co
  f2 : L 2 → ∃ (A1 : Option Addr) (c1 : Nat), v5 = .slice A1 l.length c1 ∧ OwnS w' (w.heap.size + 2) w'.heap.size 2 1 enI (.slice A1 l.length c1) l
  f3 : L 3 → v6 = .pointer (some ⟨g1, 1, none⟩)
  f4 : L 4 → v7 = .slice At m.length ct
  f5 : L 5 → (∃ (A1 : Option Addr) (c1 : Nat), v8 = .slice A1 m.length c1 ∧ OwnS w' (w.heap.size + 2) w'.heap.size 2 1 enI (.slice A1 m.length c1) m) ∧ (L 2 → Own.Apart v5 v8)
  f6 : L 6 → v9 = .agg #[v5, v8]
  f7 : L 7 → RowB w' g2 34 [v5, v8]

set_option maxHeartbeats 2000000 in
set_option maxRecDepth 100000 in
theorem clone_i (l m : List Int) (Ao At : Option Addr) (co ct B : Nat) (w : World) (hB : B ≤ w.heap.size) (ho : RdS w B 1 enI Ao l) (ht : RdS w B 1 enI At m) (hA : Ao = none → co = 0) (hT : At = none → ct = 0) (hl : l.length ≤ 1000) (hm : m.length ≤ 1000) :
    Calls Try.prog 67 #[.agg #[.slice Ao l.length co, .slice At m.length ct]] w fun e w' => BoardR l m w e w' := by
  have CL_l := Lib.hid (fun (w9 : World) (h : Below w.heap.size w w9) => clone Ao co B l w9 (Nat.le_trans hB h.size) (ho.below h hB) hA (by omega))
  have CL_m := Lib.hid (fun (w9 : World) (h : Below w.heap.size w w9) => clone At ct B m w9 (Nat.le_trans hB h.size) (ht.below h hB) hT (by omega))
  clear ho ht
  go_enter Try.func67, Try.ntmps67
  go_upto_region 1 with (fail)
  refine wp_gen (fun W' => Below w.heap.size w W' ∧ RowB W' w.heap.size 34 [.slice Ao l.length co, .slice At m.length ct] ∧ RowB W' (w.heap.size + 1) 34 [.slice none 0 0, .slice none 0 0]) ⟨by go_grown, (RowB.new _ _ _).alloc _, RowB.new' _ _ _ (by simp)⟩ ?_
  rintro w1 ⟨hbW, rb, rr⟩
  refine region_inv (fun a0 L a w' => ∃ v3 v4 v5 v6 v7 v8 v9 : Value, a = (((((((a0.put (some 3) v3).put (some 4) v4).put (some 5) v5).put (some 6) v6).put (some 7) v7).put (some 8) v8).put (some 9) v9) ∧ ClF_clone_i w w.heap.size (w.heap.size + 1) Ao At co ct l m L v3 v4 v5 v6 v7 v8 v9 w') (by kernel_rfl) (by kernel_rfl) ?h0 ?hst ?fin
  case h0 =>
    exact ⟨_, _, _, _, _, _, _, by simp only [Act.put, List.setIfInBounds_toArray, List.set_cons_zero, List.set_cons_succ]; exact rfl, ⟨hbW.drew, rb.drew, fun _ => rr.drew, ⟨rfl, rfl, rr.lt⟩, fun h => (h : False).elim, fun h => (h : False).elim, fun h => (h : False).elim, fun h => (h : False).elim, fun h => (h : False).elim, fun h => (h : False).elim, fun h => (h : False).elim, fun h => (h : False).elim⟩⟩
  case hst =>
    refine StepsFrom.cons rfl (fun L a w' hI hno hdep hcl K hK => ?_) ?_
    · obtain ⟨v3, v4, v5, v6, v7, v8, v9, ha, F⟩ := hI
      subst ha
      simp only [Act.put, List.setIfInBounds_toArray, List.set_cons_zero, List.set_cons_succ]
      go_simp
      exact hK.out _ _ ⟨_, v4, v5, v6, v7, v8, v9, by simp only [Act.put, List.setIfInBounds_toArray, List.set_cons_zero, List.set_cons_succ], ⟨F.bel, F.rb, fun h => F.rr (fun x => h (Or.inr x)), F.ge, fun _ => rfl, fun h => F.f1 (h.resolve_left (by decide)), fun h => F.f2 (h.resolve_left (by decide)), fun h => F.f3 (h.resolve_left (by decide)), fun h => F.f4 (h.resolve_left (by decide)), fun h => ⟨(F.f5 (h.resolve_left (by decide))).1, fun h2 => (F.f5 (h.resolve_left (by decide))).2 (h2.resolve_left (by decide))⟩, fun h => F.f6 (h.resolve_left (by decide)), fun h => F.f7 (h.resolve_left (by decide))⟩⟩
    refine StepsFrom.cons rfl (fun L a w' hI hno hdep hcl K hK => ?_) ?_
    · obtain ⟨v3, v4, v5, v6, v7, v8, v9, ha, F⟩ := hI
      have r0 := F.rb.c2.1
      have r1 := F.rb.c2.2
      have hl := F.rb.lt
      have e3 := F.f0 (hdep 0 (by kernel_rfl))
      subst ha
      simp only [Act.put, List.setIfInBounds_toArray, List.set_cons_zero, List.set_cons_succ, e3]
      go_simp
      exact hK.out _ _ ⟨v3, _, v5, v6, v7, v8, v9, by simp only [Act.put, List.setIfInBounds_toArray, List.set_cons_zero, List.set_cons_succ, e3], ⟨F.bel, F.rb, fun h => F.rr (fun x => h (Or.inr x)), F.ge, fun h => F.f0 (h.resolve_left (by decide)), fun _ => rfl, fun h => F.f2 (h.resolve_left (by decide)), fun h => F.f3 (h.resolve_left (by decide)), fun h => F.f4 (h.resolve_left (by decide)), fun h => ⟨(F.f5 (h.resolve_left (by decide))).1, fun h2 => (F.f5 (h.resolve_left (by decide))).2 (h2.resolve_left (by decide))⟩, fun h => F.f6 (h.resolve_left (by decide)), fun h => F.f7 (h.resolve_left (by decide))⟩⟩
    refine StepsFrom.cons rfl (fun L a w' hI hno hdep hcl K hK => ?_) ?_
    · obtain ⟨v3, v4, v5, v6, v7, v8, v9, ha, F⟩ := hI
      have e4 := F.f1 (hdep 1 (by kernel_rfl))
      have hge := F.ge
      have hbel := F.bel.size
      have hrb2 := F.rb.lt
      subst ha
      simp only [Act.put, List.setIfInBounds_toArray, List.set_cons_zero, List.set_cons_succ, e4]
      go_simp
      refine (CL_l.out w' F.bel).mono ?_
      rintro e w2 ⟨⟨vv, rfl, ho⟩, hb⟩
      obtain ⟨A1, c1, rfl, -⟩ := ho.form enI_len
      exact hK.out _ _ ⟨v3, v4, _, v6, v7, v8, v9, by simp only [Act.put, List.setIfInBounds_toArray, List.set_cons_zero, List.set_cons_succ, e4], ⟨F.bel.trans (hb.mono F.bel.size), F.rb.below hb F.rb.lt, fun h => (F.rr (fun x => h (Or.inr x))).below hb (F.rr (fun x => h (Or.inr x))).lt, ⟨F.ge.1, F.ge.2.1, Nat.le_trans F.ge.2.2 hb.size⟩, fun h => F.f0 (h.resolve_left (by decide)), fun h => F.f1 (h.resolve_left (by decide)), fun _ => ⟨A1, c1, rfl, ho.less (by omega)⟩, fun h => F.f3 (h.resolve_left (by decide)), fun h => F.f4 (h.resolve_left (by decide)), fun h => by obtain ⟨⟨A2, c2, h1, h2⟩, h3⟩ := F.f5 (h.resolve_left (by decide)); exact ⟨⟨A2, c2, h1, (h2.below hb (Nat.le_refl _)).more hb.size⟩, fun _ => by rw [h1]; exact fun k hk hk2 => by have := h2.2 k hk2; have := (ho.block k hk).1; omega⟩, fun h => absurd (hcl 6 2 (by kernel_rfl) (h.resolve_left (by decide))) hno, fun h => absurd (hcl 7 2 (by kernel_rfl) (h.resolve_left (by decide))) hno⟩⟩
    refine StepsFrom.cons rfl (fun L a w' hI hno hdep hcl K hK => ?_) ?_
    · obtain ⟨v3, v4, v5, v6, v7, v8, v9, ha, F⟩ := hI
      subst ha
      simp only [Act.put, List.setIfInBounds_toArray, List.set_cons_zero, List.set_cons_succ]
      go_simp
      exact hK.out _ _ ⟨v3, v4, v5, _, v7, v8, v9, by simp only [Act.put, List.setIfInBounds_toArray, List.set_cons_zero, List.set_cons_succ], ⟨F.bel, F.rb, fun h => F.rr (fun x => h (Or.inr x)), F.ge, fun h => F.f0 (h.resolve_left (by decide)), fun h => F.f1 (h.resolve_left (by decide)), fun h => F.f2 (h.resolve_left (by decide)), fun _ => rfl, fun h => F.f4 (h.resolve_left (by decide)), fun h => ⟨(F.f5 (h.resolve_left (by decide))).1, fun h2 => (F.f5 (h.resolve_left (by decide))).2 (h2.resolve_left (by decide))⟩, fun h => F.f6 (h.resolve_left (by decide)), fun h => F.f7 (h.resolve_left (by decide))⟩⟩
    refine StepsFrom.cons rfl (fun L a w' hI hno hdep hcl K hK => ?_) ?_
    · obtain ⟨v3, v4, v5, v6, v7, v8, v9, ha, F⟩ := hI
      have r0 := F.rb.c2.1
      have r1 := F.rb.c2.2
      have hl := F.rb.lt
      have e6 := F.f3 (hdep 3 (by kernel_rfl))
      subst ha
      simp only [Act.put, List.setIfInBounds_toArray, List.set_cons_zero, List.set_cons_succ, e6]
      go_simp
      exact hK.out _ _ ⟨v3, v4, v5, v6, _, v8, v9, by simp only [Act.put, List.setIfInBounds_toArray, List.set_cons_zero, List.set_cons_succ, e6], ⟨F.bel, F.rb, fun h => F.rr (fun x => h (Or.inr x)), F.ge, fun h => F.f0 (h.resolve_left (by decide)), fun h => F.f1 (h.resolve_left (by decide)), fun h => F.f2 (h.resolve_left (by decide)), fun h => F.f3 (h.resolve_left (by decide)), fun _ => rfl, fun h => ⟨(F.f5 (h.resolve_left (by decide))).1, fun h2 => (F.f5 (h.resolve_left (by decide))).2 (h2.resolve_left (by decide))⟩, fun h => F.f6 (h.resolve_left (by decide)), fun h => F.f7 (h.resolve_left (by decide))⟩⟩
    refine StepsFrom.cons rfl (fun L a w' hI hno hdep hcl K hK => ?_) ?_
    · obtain ⟨v3, v4, v5, v6, v7, v8, v9, ha, F⟩ := hI
      have e7 := F.f4 (hdep 4 (by kernel_rfl))
      have hge := F.ge
      have hbel := F.bel.size
      have hrb2 := F.rb.lt
      subst ha
      simp only [Act.put, List.setIfInBounds_toArray, List.set_cons_zero, List.set_cons_succ, e7]
      go_simp
      refine (CL_m.out w' F.bel).mono ?_
      rintro e w2 ⟨⟨vv, rfl, ho⟩, hb⟩
      obtain ⟨A1, c1, rfl, -⟩ := ho.form enI_len
      exact hK.out _ _ ⟨v3, v4, v5, v6, v7, _, v9, by simp only [Act.put, List.setIfInBounds_toArray, List.set_cons_zero, List.set_cons_succ, e7], ⟨F.bel.trans (hb.mono F.bel.size), F.rb.below hb F.rb.lt, fun h => (F.rr (fun x => h (Or.inr x))).below hb (F.rr (fun x => h (Or.inr x))).lt, ⟨F.ge.1, F.ge.2.1, Nat.le_trans F.ge.2.2 hb.size⟩, fun h => F.f0 (h.resolve_left (by decide)), fun h => F.f1 (h.resolve_left (by decide)), fun h => by obtain ⟨A2, c2, h1, h2⟩ := F.f2 (h.resolve_left (by decide)); exact ⟨A2, c2, h1, (h2.below hb (Nat.le_refl _)).more hb.size⟩, fun h => F.f3 (h.resolve_left (by decide)), fun h => F.f4 (h.resolve_left (by decide)), fun _ => ⟨⟨A1, c1, rfl, ho.less (by omega)⟩, fun h2 => by obtain ⟨A2, c2, h1, h3⟩ := F.f2 (h2.resolve_left (by decide)); rw [h1]; exact fun k hk hk2 => by have := h3.2 k hk; have := (ho.block k hk2).1; omega⟩, fun h => absurd (hcl 6 5 (by kernel_rfl) (h.resolve_left (by decide))) hno, fun h => absurd (hcl 7 5 (by kernel_rfl) (h.resolve_left (by decide))) hno⟩⟩
    refine StepsFrom.cons rfl (fun L a w' hI hno hdep hcl K hK => ?_) ?_
    · obtain ⟨v3, v4, v5, v6, v7, v8, v9, ha, F⟩ := hI
      obtain ⟨A5, c5, e5, o5⟩ := F.f2 (hdep 2 (by kernel_rfl))
      obtain ⟨⟨A8, c8, e8, o8⟩, hap⟩ := F.f5 (hdep 5 (by kernel_rfl))
      subst ha
      simp only [Act.put, List.setIfInBounds_toArray, List.set_cons_zero, List.set_cons_succ, e5, e8]
      go_simp
      exact hK.out _ _ ⟨v3, v4, v5, v6, v7, v8, .agg #[v5, v8], by simp only [Act.put, List.setIfInBounds_toArray, List.set_cons_zero, List.set_cons_succ, e5, e8], ⟨F.bel, F.rb, fun h => F.rr (fun x => h (Or.inr x)), F.ge, fun h => F.f0 (h.resolve_left (by decide)), fun h => F.f1 (h.resolve_left (by decide)), fun h => F.f2 (h.resolve_left (by decide)), fun h => F.f3 (h.resolve_left (by decide)), fun h => F.f4 (h.resolve_left (by decide)), fun h => ⟨(F.f5 (h.resolve_left (by decide))).1, fun h2 => (F.f5 (h.resolve_left (by decide))).2 (h2.resolve_left (by decide))⟩, fun _ => rfl, fun h => absurd (hcl 7 6 (by kernel_rfl) (h.resolve_left (by decide))) hno⟩⟩
    refine StepsFrom.cons rfl (fun L a w' hI hno hdep hcl K hK => ?_) ?_
    · obtain ⟨v3, v4, v5, v6, v7, v8, v9, ha, F⟩ := hI
      obtain ⟨A5, c5, e5, o5⟩ := F.f2 (hdep 2 (by kernel_rfl))
      obtain ⟨⟨A8, c8, e8, o8⟩, hap⟩ := F.f5 (hdep 5 (by kernel_rfl))
      have e9 := F.f6 (hdep 6 (by kernel_rfl))
      have rr := F.rr hno
      have z0 := rr.c2.1
      have z1 := rr.c2.2
      have fr := rr.frozen
      have hl := rr.lt
      have hge := F.ge
      have hbel := F.bel.size
      subst ha
      simp only [Act.put, List.setIfInBounds_toArray, List.set_cons_zero, List.set_cons_succ, e9, e5, e8]
      go_simp
      exact hK.out _ _ ⟨v3, v4, v5, v6, v7, v8, v9, by simp only [Act.put, List.setIfInBounds_toArray, List.set_cons_zero, List.set_cons_succ, e9, e5, e8], ⟨below_two F.bel (by omega) _ _, oth2 F.rb (by omega) _ _, fun h => absurd (Or.inl rfl) h, ⟨F.ge.1, F.ge.2.1, by rw [World.size_setCell, World.size_setCell]; exact F.ge.2.2⟩, fun h => F.f0 (h.resolve_left (by decide)), fun h => F.f1 (h.resolve_left (by decide)), fun h => by obtain ⟨A2, c2, h1, h2⟩ := F.f2 (h.resolve_left (by decide)); exact ⟨A2, c2, h1, by rw [World.size_setCell, World.size_setCell]; exact own2 h2 (by omega) _ _⟩, fun h => F.f3 (h.resolve_left (by decide)), fun h => F.f4 (h.resolve_left (by decide)), fun h => by obtain ⟨⟨A2, c2, h1, h2⟩, h3⟩ := F.f5 (h.resolve_left (by decide)); exact ⟨⟨A2, c2, h1, by rw [World.size_setCell, World.size_setCell]; exact own2 h2 (by omega) _ _⟩, fun h4 => h3 (h4.resolve_left (by decide))⟩, fun h => F.f6 (h.resolve_left (by decide)), fun _ => by rw [e5, e8]; exact two_ rr _ _⟩⟩
    exact StepsFrom.nil (by decide)
  case fin =>
    rintro L a' w9 ⟨v3, v4, v5, v6, v7, v8, v9, rfl, Fx⟩ hL
    have r7 := Fx.f7 (hL 7 (by decide))
    obtain ⟨⟨A2, c2, e8, o2⟩, hap⟩ := Fx.f5 (hL 5 (by decide))
    obtain ⟨A1, c1, e5, o1⟩ := Fx.f2 (hL 2 (by decide))
    have hap := hap (hL 2 (by decide))
    have hbel := Fx.bel
    clear Fx hL
    subst e8 e5
    obtain ⟨z0, z1⟩ := r7.c2
    simp only [Act.put, List.setIfInBounds_toArray, List.set_cons_zero, List.set_cons_succ]
    go_wp2_with fail
    refine bodyPost_ret (v := .agg #[.slice A1 l.length c1, .slice A2 m.length c2]) (by simp [results, Try.results67, go_sem, z0, z1]) rfl ?_
    exact ⟨A1, c1, A2, c2, rfl, o1.less (by omega), o2.less (by omega), hap, hbel⟩
structure ClF_swap_i (w : World) (g1 g2 : Nat) (Ao At : Option Addr) (co ct : Nat) (l m : List Int) (L : Nat → Prop) (v3 v4 v5 v6 v7 v8 v9 : Value) (w' : World) : Prop where
  bel : Below w.heap.size w w'
  rb : RowB w' g1 34 [.slice Ao l.length co, .slice At m.length ct]
  rr : ¬ L 7 → RowB w' g2 34 [.slice none 0 0, .slice none 0 0]
  ge : g1 = w.heap.size ∧ g2 = w.heap.size + 1 ∧ w.heap.size + 2 ≤ w'.heap.size
  f0 : L 0 → v3 = .pointer (some ⟨g1, 1, none⟩)
  f1 : L 1 → v4 = .slice At m.length ct
  f2 : L 2 → ∃ (A1 : Option Addr) (c1 : Nat), v5 = .slice A1 m.length c1 ∧ OwnS w' (w.heap.size + 2) w'.heap.size 2 1 enI (.slice A1 m.length c1) m
  f3 : L 3 → v6 = .pointer (some ⟨g1, 0, none⟩)
  f4 : L 4 → v7 = .slice Ao l.length co
  f5 : L 5 → (∃ (A1 : Option Addr) (c1 : Nat), v8 = .slice A1 l.length c1 ∧ OwnS w' (w.heap.size + 2) w'.heap.size 2 1 enI (.slice A1 l.length c1) l) ∧ (L 2 → Own.Apart v5 v8)
  f6 : L 6 → v9 = .agg #[v5, v8]
  f7 : L 7 → RowB w' g2 34 [v5, v8]

set_option maxHeartbeats 2000000 in
set_option maxRecDepth 100000 in
theorem swap_i (l m : List Int) (Ao At : Option Addr) (co ct B : Nat) (w : World) (hB : B ≤ w.heap.size) (ho : RdS w B 1 enI Ao l) (ht : RdS w B 1 enI At m) (hA : Ao = none → co = 0) (hT : At = none → ct = 0) (hl : l.length ≤ 1000) (hm : m.length ≤ 1000) :
    Calls Try.prog 69 #[.agg #[.slice Ao l.length co, .slice At m.length ct]] w fun e w' => BoardR m l w e w' := by
  have CL_l := Lib.hid (fun (w9 : World) (h : Below w.heap.size w w9) => clone Ao co B l w9 (Nat.le_trans hB h.size) (ho.below h hB) hA (by omega))
  have CL_m := Lib.hid (fun (w9 : World) (h : Below w.heap.size w w9) => clone At ct B m w9 (Nat.le_trans hB h.size) (ht.below h hB) hT (by omega))
  clear ho ht
  go_enter Try.func69, Try.ntmps69
  go_upto_region 1 with (fail)
  refine wp_gen (fun W' => Below w.heap.size w W' ∧ RowB W' w.heap.size 34 [.slice Ao l.length co, .slice At m.length ct] ∧ RowB W' (w.heap.size + 1) 34 [.slice none 0 0, .slice none 0 0]) ⟨by go_grown, (RowB.new _ _ _).alloc _, RowB.new' _ _ _ (by simp)⟩ ?_
  rintro w1 ⟨hbW, rb, rr⟩
  refine region_inv (fun a0 L a w' => ∃ v3 v4 v5 v6 v7 v8 v9 : Value, a = (((((((a0.put (some 3) v3).put (some 4) v4).put (some 5) v5).put (some 6) v6).put (some 7) v7).put (some 8) v8).put (some 9) v9) ∧ ClF_swap_i w w.heap.size (w.heap.size + 1) Ao At co ct l m L v3 v4 v5 v6 v7 v8 v9 w') (by kernel_rfl) (by kernel_rfl) ?h0 ?hst ?fin
  case h0 =>
    exact ⟨_, _, _, _, _, _, _, by simp only [Act.put, List.setIfInBounds_toArray, List.set_cons_zero, List.set_cons_succ]; exact rfl, ⟨hbW.drew, rb.drew, fun _ => rr.drew, ⟨rfl, rfl, rr.lt⟩, fun h => (h : False).elim, fun h => (h : False).elim, fun h => (h : False).elim, fun h => (h : False).elim, fun h => (h : False).elim, fun h => (h : False).elim, fun h => (h : False).elim, fun h => (h : False).elim⟩⟩
  case hst =>
    refine StepsFrom.cons rfl (fun L a w' hI hno hdep hcl K hK => ?_) ?_
    · obtain ⟨v3, v4, v5, v6, v7, v8, v9, ha, F⟩ := hI
      subst ha
      simp only [Act.put, List.setIfInBounds_toArray, List.set_cons_zero, List.set_cons_succ]
      go_simp
      exact hK.out _ _ ⟨_, v4, v5, v6, v7, v8, v9, by simp only [Act.put, List.setIfInBounds_toArray, List.set_cons_zero, List.set_cons_succ], ⟨F.bel, F.rb, fun h => F.rr (fun x => h (Or.inr x)), F.ge, fun _ => rfl, fun h => F.f1 (h.resolve_left (by decide)), fun h => F.f2 (h.resolve_left (by decide)), fun h => F.f3 (h.resolve_left (by decide)), fun h => F.f4 (h.resolve_left (by decide)), fun h => ⟨(F.f5 (h.resolve_left (by decide))).1, fun h2 => (F.f5 (h.resolve_left (by decide))).2 (h2.resolve_left (by decide))⟩, fun h => F.f6 (h.resolve_left (by decide)), fun h => F.f7 (h.resolve_left (by decide))⟩⟩
    refine StepsFrom.cons rfl (fun L a w' hI hno hdep hcl K hK => ?_) ?_
    · obtain ⟨v3, v4, v5, v6, v7, v8, v9, ha, F⟩ := hI
      have r0 := F.rb.c2.1
      have r1 := F.rb.c2.2
      have hl := F.rb.lt
      have e3 := F.f0 (hdep 0 (by kernel_rfl))
      subst ha
      simp only [Act.put, List.setIfInBounds_toArray, List.set_cons_zero, List.set_cons_succ, e3]
      go_simp
      exact hK.out _ _ ⟨v3, _, v5, v6, v7, v8, v9, by simp only [Act.put, List.setIfInBounds_toArray, List.set_cons_zero, List.set_cons_succ, e3], ⟨F.bel, F.rb, fun h => F.rr (fun x => h (Or.inr x)), F.ge, fun h => F.f0 (h.resolve_left (by decide)), fun _ => rfl, fun h => F.f2 (h.resolve_left (by decide)), fun h => F.f3 (h.resolve_left (by decide)), fun h => F.f4 (h.resolve_left (by decide)), fun h => ⟨(F.f5 (h.resolve_left (by decide))).1, fun h2 => (F.f5 (h.resolve_left (by decide))).2 (h2.resolve_left (by decide))⟩, fun h => F.f6 (h.resolve_left (by decide)), fun h => F.f7 (h.resolve_left (by decide))⟩⟩
    refine StepsFrom.cons rfl (fun L a w' hI hno hdep hcl K hK => ?_) ?_
    · obtain ⟨v3, v4, v5, v6, v7, v8, v9, ha, F⟩ := hI
      have e4 := F.f1 (hdep 1 (by kernel_rfl))
      have hge := F.ge
      have hbel := F.bel.size
      have hrb2 := F.rb.lt
      subst ha
      simp only [Act.put, List.setIfInBounds_toArray, List.set_cons_zero, List.set_cons_succ, e4]
      go_simp
      refine (CL_m.out w' F.bel).mono ?_
      rintro e w2 ⟨⟨vv, rfl, ho⟩, hb⟩
      obtain ⟨A1, c1, rfl, -⟩ := ho.form enI_len
      exact hK.out _ _ ⟨v3, v4, _, v6, v7, v8, v9, by simp only [Act.put, List.setIfInBounds_toArray, List.set_cons_zero, List.set_cons_succ, e4], ⟨F.bel.trans (hb.mono F.bel.size), F.rb.below hb F.rb.lt, fun h => (F.rr (fun x => h (Or.inr x))).below hb (F.rr (fun x => h (Or.inr x))).lt, ⟨F.ge.1, F.ge.2.1, Nat.le_trans F.ge.2.2 hb.size⟩, fun h => F.f0 (h.resolve_left (by decide)), fun h => F.f1 (h.resolve_left (by decide)), fun _ => ⟨A1, c1, rfl, ho.less (by omega)⟩, fun h => F.f3 (h.resolve_left (by decide)), fun h => F.f4 (h.resolve_left (by decide)), fun h => by obtain ⟨⟨A2, c2, h1, h2⟩, h3⟩ := F.f5 (h.resolve_left (by decide)); exact ⟨⟨A2, c2, h1, (h2.below hb (Nat.le_refl _)).more hb.size⟩, fun _ => by rw [h1]; exact fun k hk hk2 => by have := h2.2 k hk2; have := (ho.block k hk).1; omega⟩, fun h => absurd (hcl 6 2 (by kernel_rfl) (h.resolve_left (by decide))) hno, fun h => absurd (hcl 7 2 (by kernel_rfl) (h.resolve_left (by decide))) hno⟩⟩
    refine StepsFrom.cons rfl (fun L a w' hI hno hdep hcl K hK => ?_) ?_
    · obtain ⟨v3, v4, v5, v6, v7, v8, v9, ha, F⟩ := hI
      subst ha
      simp only [Act.put, List.setIfInBounds_toArray, List.set_cons_zero, List.set_cons_succ]
      go_simp
      exact hK.out _ _ ⟨v3, v4, v5, _, v7, v8, v9, by simp only [Act.put, List.setIfInBounds_toArray, List.set_cons_zero, List.set_cons_succ], ⟨F.bel, F.rb, fun h => F.rr (fun x => h (Or.inr x)), F.ge, fun h => F.f0 (h.resolve_left (by decide)), fun h => F.f1 (h.resolve_left (by decide)), fun h => F.f2 (h.resolve_left (by decide)), fun _ => rfl, fun h => F.f4 (h.resolve_left (by decide)), fun h => ⟨(F.f5 (h.resolve_left (by decide))).1, fun h2 => (F.f5 (h.resolve_left (by decide))).2 (h2.resolve_left (by decide))⟩, fun h => F.f6 (h.resolve_left (by decide)), fun h => F.f7 (h.resolve_left (by decide))⟩⟩
    refine StepsFrom.cons rfl (fun L a w' hI hno hdep hcl K hK => ?_) ?_
    · obtain ⟨v3, v4, v5, v6, v7, v8, v9, ha, F⟩ := hI
      have r0 := F.rb.c2.1
      have r1 := F.rb.c2.2
      have hl := F.rb.lt
      have e6 := F.f3 (hdep 3 (by kernel_rfl))
      subst ha
      simp only [Act.put, List.setIfInBounds_toArray, List.set_cons_zero, List.set_cons_succ, e6]
      go_simp
      exact hK.out _ _ ⟨v3, v4, v5, v6, _, v8, v9, by simp only [Act.put, List.setIfInBounds_toArray, List.set_cons_zero, List.set_cons_succ, e6], ⟨F.bel, F.rb, fun h => F.rr (fun x => h (Or.inr x)), F.ge, fun h => F.f0 (h.resolve_left (by decide)), fun h => F.f1 (h.resolve_left (by decide)), fun h => F.f2 (h.resolve_left (by decide)), fun h => F.f3 (h.resolve_left (by decide)), fun _ => rfl, fun h => ⟨(F.f5 (h.resolve_left (by decide))).1, fun h2 => (F.f5 (h.resolve_left (by decide))).2 (h2.resolve_left (by decide))⟩, fun h => F.f6 (h.resolve_left (by decide)), fun h => F.f7 (h.resolve_left (by decide))⟩⟩
    refine StepsFrom.cons rfl (fun L a w' hI hno hdep hcl K hK => ?_) ?_
    · obtain ⟨v3, v4, v5, v6, v7, v8, v9, ha, F⟩ := hI
      have e7 := F.f4 (hdep 4 (by kernel_rfl))
      have hge := F.ge
      have hbel := F.bel.size
      have hrb2 := F.rb.lt
      subst ha
      simp only [Act.put, List.setIfInBounds_toArray, List.set_cons_zero, List.set_cons_succ, e7]
      go_simp
      refine (CL_l.out w' F.bel).mono ?_
      rintro e w2 ⟨⟨vv, rfl, ho⟩, hb⟩
      obtain ⟨A1, c1, rfl, -⟩ := ho.form enI_len
      exact hK.out _ _ ⟨v3, v4, v5, v6, v7, _, v9, by simp only [Act.put, List.setIfInBounds_toArray, List.set_cons_zero, List.set_cons_succ, e7], ⟨F.bel.trans (hb.mono F.bel.size), F.rb.below hb F.rb.lt, fun h => (F.rr (fun x => h (Or.inr x))).below hb (F.rr (fun x => h (Or.inr x))).lt, ⟨F.ge.1, F.ge.2.1, Nat.le_trans F.ge.2.2 hb.size⟩, fun h => F.f0 (h.resolve_left (by decide)), fun h => F.f1 (h.resolve_left (by decide)), fun h => by obtain ⟨A2, c2, h1, h2⟩ := F.f2 (h.resolve_left (by decide)); exact ⟨A2, c2, h1, (h2.below hb (Nat.le_refl _)).more hb.size⟩, fun h => F.f3 (h.resolve_left (by decide)), fun h => F.f4 (h.resolve_left (by decide)), fun _ => ⟨⟨A1, c1, rfl, ho.less (by omega)⟩, fun h2 => by obtain ⟨A2, c2, h1, h3⟩ := F.f2 (h2.resolve_left (by decide)); rw [h1]; exact fun k hk hk2 => by have := h3.2 k hk; have := (ho.block k hk2).1; omega⟩, fun h => absurd (hcl 6 5 (by kernel_rfl) (h.resolve_left (by decide))) hno, fun h => absurd (hcl 7 5 (by kernel_rfl) (h.resolve_left (by decide))) hno⟩⟩
    refine StepsFrom.cons rfl (fun L a w' hI hno hdep hcl K hK => ?_) ?_
    · obtain ⟨v3, v4, v5, v6, v7, v8, v9, ha, F⟩ := hI
      obtain ⟨A5, c5, e5, o5⟩ := F.f2 (hdep 2 (by kernel_rfl))
      obtain ⟨⟨A8, c8, e8, o8⟩, hap⟩ := F.f5 (hdep 5 (by kernel_rfl))
      subst ha
      simp only [Act.put, List.setIfInBounds_toArray, List.set_cons_zero, List.set_cons_succ, e5, e8]
      go_simp
      exact hK.out _ _ ⟨v3, v4, v5, v6, v7, v8, .agg #[v5, v8], by simp only [Act.put, List.setIfInBounds_toArray, List.set_cons_zero, List.set_cons_succ, e5, e8], ⟨F.bel, F.rb, fun h => F.rr (fun x => h (Or.inr x)), F.ge, fun h => F.f0 (h.resolve_left (by decide)), fun h => F.f1 (h.resolve_left (by decide)), fun h => F.f2 (h.resolve_left (by decide)), fun h => F.f3 (h.resolve_left (by decide)), fun h => F.f4 (h.resolve_left (by decide)), fun h => ⟨(F.f5 (h.resolve_left (by decide))).1, fun h2 => (F.f5 (h.resolve_left (by decide))).2 (h2.resolve_left (by decide))⟩, fun _ => rfl, fun h => absurd (hcl 7 6 (by kernel_rfl) (h.resolve_left (by decide))) hno⟩⟩
    refine StepsFrom.cons rfl (fun L a w' hI hno hdep hcl K hK => ?_) ?_
    · obtain ⟨v3, v4, v5, v6, v7, v8, v9, ha, F⟩ := hI
      obtain ⟨A5, c5, e5, o5⟩ := F.f2 (hdep 2 (by kernel_rfl))
      obtain ⟨⟨A8, c8, e8, o8⟩, hap⟩ := F.f5 (hdep 5 (by kernel_rfl))
      have e9 := F.f6 (hdep 6 (by kernel_rfl))
      have rr := F.rr hno
      have z0 := rr.c2.1
      have z1 := rr.c2.2
      have fr := rr.frozen
      have hl := rr.lt
      have hge := F.ge
      have hbel := F.bel.size
      subst ha
      simp only [Act.put, List.setIfInBounds_toArray, List.set_cons_zero, List.set_cons_succ, e9, e5, e8]
      go_simp
      exact hK.out _ _ ⟨v3, v4, v5, v6, v7, v8, v9, by simp only [Act.put, List.setIfInBounds_toArray, List.set_cons_zero, List.set_cons_succ, e9, e5, e8], ⟨below_two F.bel (by omega) _ _, oth2 F.rb (by omega) _ _, fun h => absurd (Or.inl rfl) h, ⟨F.ge.1, F.ge.2.1, by rw [World.size_setCell, World.size_setCell]; exact F.ge.2.2⟩, fun h => F.f0 (h.resolve_left (by decide)), fun h => F.f1 (h.resolve_left (by decide)), fun h => by obtain ⟨A2, c2, h1, h2⟩ := F.f2 (h.resolve_left (by decide)); exact ⟨A2, c2, h1, by rw [World.size_setCell, World.size_setCell]; exact own2 h2 (by omega) _ _⟩, fun h => F.f3 (h.resolve_left (by decide)), fun h => F.f4 (h.resolve_left (by decide)), fun h => by obtain ⟨⟨A2, c2, h1, h2⟩, h3⟩ := F.f5 (h.resolve_left (by decide)); exact ⟨⟨A2, c2, h1, by rw [World.size_setCell, World.size_setCell]; exact own2 h2 (by omega) _ _⟩, fun h4 => h3 (h4.resolve_left (by decide))⟩, fun h => F.f6 (h.resolve_left (by decide)), fun _ => by rw [e5, e8]; exact two_ rr _ _⟩⟩
    exact StepsFrom.nil (by decide)
  case fin =>
    rintro L a' w9 ⟨v3, v4, v5, v6, v7, v8, v9, rfl, Fx⟩ hL
    have r7 := Fx.f7 (hL 7 (by decide))
    obtain ⟨⟨A2, c2, e8, o2⟩, hap⟩ := Fx.f5 (hL 5 (by decide))
    obtain ⟨A1, c1, e5, o1⟩ := Fx.f2 (hL 2 (by decide))
    have hap := hap (hL 2 (by decide))
    have hbel := Fx.bel
    clear Fx hL
    subst e8 e5
    obtain ⟨z0, z1⟩ := r7.c2
    simp only [Act.put, List.setIfInBounds_toArray, List.set_cons_zero, List.set_cons_succ]
    go_wp2_with fail
    refine bodyPost_ret (v := .agg #[.slice A1 m.length c1, .slice A2 l.length c2]) (by simp [results, Try.results69, go_sem, z0, z1]) rfl ?_
    exact ⟨A1, c1, A2, c2, rfl, o1.less (by omega), o2.less (by omega), hap, hbel⟩
structure ClF_swap_s (w : World) (g1 g2 : Nat) (Ao At : Option Addr) (co ct : Nat) (l m : List Int) (L : Nat → Prop) (v3 v4 v5 v6 v7 v8 v9 : Value) (w' : World) : Prop where
  bel : Below w.heap.size w w'
  rb : RowB w' g1 34 [.slice Ao l.length co, .slice At m.length ct]
  rr : ¬ L 7 → RowB w' g2 34 [.slice none 0 0, .slice none 0 0]
  ge : g1 = w.heap.size ∧ g2 = w.heap.size + 1 ∧ w.heap.size + 2 ≤ w'.heap.size
  f0 : L 0 → v3 = .pointer (some ⟨g1, 1, none⟩)
  f1 : L 1 → v4 = .slice At m.length ct
  f2 : L 2 → ∃ (A1 : Option Addr) (c1 : Nat), v5 = .slice A1 m.length c1 ∧ OwnS w' (w.heap.size + 2) w'.heap.size 2 1 enI (.slice A1 m.length c1) m
  f3 : L 3 → v6 = .pointer (some ⟨g1, 0, none⟩)
  f4 : L 4 → v7 = .slice Ao l.length co
  f5 : L 5 → (∃ (A1 : Option Addr) (c1 : Nat), v8 = .slice A1 l.length c1 ∧ OwnS w' (w.heap.size + 2) w'.heap.size 2 1 enI (.slice A1 l.length c1) l) ∧ (L 2 → Own.Apart v5 v8)
  f6 : L 6 → v9 = .agg #[v5, v8]
  f7 : L 7 → RowB w' g2 34 [v5, v8]

set_option maxHeartbeats 2000000 in
set_option maxRecDepth 100000 in
theorem swap_s (l m : List Int) (Ao At : Option Addr) (co ct B : Nat) (w : World) (hB : B ≤ w.heap.size) (ho : RdS w B 1 enI Ao l) (ht : RdS w B 1 enI At m) (hA : Ao = none → co = 0) (hT : At = none → ct = 0) (hl : l.length ≤ 1000) (hm : m.length ≤ 1000) :
    Calls Try.prog 63 #[.agg #[.slice Ao l.length co, .slice At m.length ct]] w fun e w' => BoardR m l w e w' := by
  have CL_l := Lib.hid (fun (w9 : World) (h : Below w.heap.size w w9) => own02 Ao co B l w9 (Nat.le_trans hB h.size) (ho.below h hB) hA (by omega))
  have CL_m := Lib.hid (fun (w9 : World) (h : Below w.heap.size w w9) => own02 At ct B m w9 (Nat.le_trans hB h.size) (ht.below h hB) hT (by omega))
  clear ho ht
  go_enter Try.func63, Try.ntmps63
  go_upto_region 1 with (fail)
  refine wp_gen (fun W' => Below w.heap.size w W' ∧ RowB W' w.heap.size 34 [.slice Ao l.length co, .slice At m.length ct] ∧ RowB W' (w.heap.size + 1) 34 [.slice none 0 0, .slice none 0 0]) ⟨by go_grown, (RowB.new _ _ _).alloc _, RowB.new' _ _ _ (by simp)⟩ ?_
  rintro w1 ⟨hbW, rb, rr⟩
  refine region_inv (fun a0 L a w' => ∃ v3 v4 v5 v6 v7 v8 v9 : Value, a = (((((((a0.put (some 3) v3).put (some 4) v4).put (some 5) v5).put (some 6) v6).put (some 7) v7).put (some 8) v8).put (some 9) v9) ∧ ClF_swap_s w w.heap.size (w.heap.size + 1) Ao At co ct l m L v3 v4 v5 v6 v7 v8 v9 w') (by kernel_rfl) (by kernel_rfl) ?h0 ?hst ?fin
  case h0 =>
    exact ⟨_, _, _, _, _, _, _, by simp only [Act.put, List.setIfInBounds_toArray, List.set_cons_zero, List.set_cons_succ]; exact rfl, ⟨hbW.drew, rb.drew, fun _ => rr.drew, ⟨rfl, rfl, rr.lt⟩, fun h => (h : False).elim, fun h => (h : False).elim, fun h => (h : False).elim, fun h => (h : False).elim, fun h => (h : False).elim, fun h => (h : False).elim, fun h => (h : False).elim, fun h => (h : False).elim⟩⟩
  case hst =>
    refine StepsFrom.cons rfl (fun L a w' hI hno hdep hcl K hK => ?_) ?_
    · obtain ⟨v3, v4, v5, v6, v7, v8, v9, ha, F⟩ := hI
      subst ha
      simp only [Act.put, List.setIfInBounds_toArray, List.set_cons_zero, List.set_cons_succ]
      go_simp
      exact hK.out _ _ ⟨_, v4, v5, v6, v7, v8, v9, by simp only [Act.put, List.setIfInBounds_toArray, List.set_cons_zero, List.set_cons_succ], ⟨F.bel, F.rb, fun h => F.rr (fun x => h (Or.inr x)), F.ge, fun _ => rfl, fun h => F.f1 (h.resolve_left (by decide)), fun h => F.f2 (h.resolve_left (by decide)), fun h => F.f3 (h.resolve_left (by decide)), fun h => F.f4 (h.resolve_left (by decide)), fun h => ⟨(F.f5 (h.resolve_left (by decide))).1, fun h2 => (F.f5 (h.resolve_left (by decide))).2 (h2.resolve_left (by decide))⟩, fun h => F.f6 (h.resolve_left (by decide)), fun h => F.f7 (h.resolve_left (by decide))⟩⟩
    refine StepsFrom.cons rfl (fun L a w' hI hno hdep hcl K hK => ?_) ?_
    · obtain ⟨v3, v4, v5, v6, v7, v8, v9, ha, F⟩ := hI
      have r0 := F.rb.c2.1
      have r1 := F.rb.c2.2
      have hl := F.rb.lt
      have e3 := F.f0 (hdep 0 (by kernel_rfl))
      subst ha
      simp only [Act.put, List.setIfInBounds_toArray, List.set_cons_zero, List.set_cons_succ, e3]
      go_simp
      exact hK.out _ _ ⟨v3, _, v5, v6, v7, v8, v9, by simp only [Act.put, List.setIfInBounds_toArray, List.set_cons_zero, List.set_cons_succ, e3], ⟨F.bel, F.rb, fun h => F.rr (fun x => h (Or.inr x)), F.ge, fun h => F.f0 (h.resolve_left (by decide)), fun _ => rfl, fun h => F.f2 (h.resolve_left (by decide)), fun h => F.f3 (h.resolve_left (by decide)), fun h => F.f4 (h.resolve_left (by decide)), fun h => ⟨(F.f5 (h.resolve_left (by decide))).1, fun h2 => (F.f5 (h.resolve_left (by decide))).2 (h2.resolve_left (by decide))⟩, fun h => F.f6 (h.resolve_left (by decide)), fun h => F.f7 (h.resolve_left (by decide))⟩⟩
    refine StepsFrom.cons rfl (fun L a w' hI hno hdep hcl K hK => ?_) ?_
    · obtain ⟨v3, v4, v5, v6, v7, v8, v9, ha, F⟩ := hI
      have e4 := F.f1 (hdep 1 (by kernel_rfl))
      have hge := F.ge
      have hbel := F.bel.size
      have hrb2 := F.rb.lt
      subst ha
      simp only [Act.put, List.setIfInBounds_toArray, List.set_cons_zero, List.set_cons_succ, e4]
      go_simp
      refine (CL_m.out w' F.bel).mono ?_
      rintro e w2 ⟨⟨vv, rfl, ho⟩, hb⟩
      obtain ⟨A1, c1, rfl, -⟩ := ho.form enI_len
      exact hK.out _ _ ⟨v3, v4, _, v6, v7, v8, v9, by simp only [Act.put, List.setIfInBounds_toArray, List.set_cons_zero, List.set_cons_succ, e4], ⟨F.bel.trans (hb.mono F.bel.size), F.rb.below hb F.rb.lt, fun h => (F.rr (fun x => h (Or.inr x))).below hb (F.rr (fun x => h (Or.inr x))).lt, ⟨F.ge.1, F.ge.2.1, Nat.le_trans F.ge.2.2 hb.size⟩, fun h => F.f0 (h.resolve_left (by decide)), fun h => F.f1 (h.resolve_left (by decide)), fun _ => ⟨A1, c1, rfl, ho.less (by omega)⟩, fun h => F.f3 (h.resolve_left (by decide)), fun h => F.f4 (h.resolve_left (by decide)), fun h => by obtain ⟨⟨A2, c2, h1, h2⟩, h3⟩ := F.f5 (h.resolve_left (by decide)); exact ⟨⟨A2, c2, h1, (h2.below hb (Nat.le_refl _)).more hb.size⟩, fun _ => by rw [h1]; exact fun k hk hk2 => by have := h2.2 k hk2; have := (ho.block k hk).1; omega⟩, fun h => absurd (hcl 6 2 (by kernel_rfl) (h.resolve_left (by decide))) hno, fun h => absurd (hcl 7 2 (by kernel_rfl) (h.resolve_left (by decide))) hno⟩⟩
    refine StepsFrom.cons rfl (fun L a w' hI hno hdep hcl K hK => ?_) ?_
    · obtain ⟨v3, v4, v5, v6, v7, v8, v9, ha, F⟩ := hI
      subst ha
      simp only [Act.put, List.setIfInBounds_toArray, List.set_cons_zero, List.set_cons_succ]
      go_simp
      exact hK.out _ _ ⟨v3, v4, v5, _, v7, v8, v9, by simp only [Act.put, List.setIfInBounds_toArray, List.set_cons_zero, List.set_cons_succ], ⟨F.bel, F.rb, fun h => F.rr (fun x => h (Or.inr x)), F.ge, fun h => F.f0 (h.resolve_left (by decide)), fun h => F.f1 (h.resolve_left (by decide)), fun h => F.f2 (h.resolve_left (by decide)), fun _ => rfl, fun h => F.f4 (h.resolve_left (by decide)), fun h => ⟨(F.f5 (h.resolve_left (by decide))).1, fun h2 => (F.f5 (h.resolve_left (by decide))).2 (h2.resolve_left (by decide))⟩, fun h => F.f6 (h.resolve_left (by decide)), fun h => F.f7 (h.resolve_left (by decide))⟩⟩
    refine StepsFrom.cons rfl (fun L a w' hI hno hdep hcl K hK => ?_) ?_
    · obtain ⟨v3, v4, v5, v6, v7, v8, v9, ha, F⟩ := hI
      have r0 := F.rb.c2.1
      have r1 := F.rb.c2.2
      have hl := F.rb.lt
      have e6 := F.f3 (hdep 3 (by kernel_rfl))
      subst ha
      simp only [Act.put, List.setIfInBounds_toArray, List.set_cons_zero, List.set_cons_succ, e6]
      go_simp
      exact hK.out _ _ ⟨v3, v4, v5, v6, _, v8, v9, by simp only [Act.put, List.setIfInBounds_toArray, List.set_cons_zero, List.set_cons_succ, e6], ⟨F.bel, F.rb, fun h => F.rr (fun x => h (Or.inr x)), F.ge, fun h => F.f0 (h.resolve_left (by decide)), fun h => F.f1 (h.resolve_left (by decide)), fun h => F.f2 (h.resolve_left (by decide)), fun h => F.f3 (h.resolve_left (by decide)), fun _ => rfl, fun h => ⟨(F.f5 (h.resolve_left (by decide))).1, fun h2 => (F.f5 (h.resolve_left (by decide))).2 (h2.resolve_left (by decide))⟩, fun h => F.f6 (h.resolve_left (by decide)), fun h => F.f7 (h.resolve_left (by decide))⟩⟩
    refine StepsFrom.cons rfl (fun L a w' hI hno hdep hcl K hK => ?_) ?_
    · obtain ⟨v3, v4, v5, v6, v7, v8, v9, ha, F⟩ := hI
      have e7 := F.f4 (hdep 4 (by kernel_rfl))
      have hge := F.ge
      have hbel := F.bel.size
      have hrb2 := F.rb.lt
      subst ha
      simp only [Act.put, List.setIfInBounds_toArray, List.set_cons_zero, List.set_cons_succ, e7]
      go_simp
      refine (CL_l.out w' F.bel).mono ?_
      rintro e w2 ⟨⟨vv, rfl, ho⟩, hb⟩
      obtain ⟨A1, c1, rfl, -⟩ := ho.form enI_len
      exact hK.out _ _ ⟨v3, v4, v5, v6, v7, _, v9, by simp only [Act.put, List.setIfInBounds_toArray, List.set_cons_zero, List.set_cons_succ, e7], ⟨F.bel.trans (hb.mono F.bel.size), F.rb.below hb F.rb.lt, fun h => (F.rr (fun x => h (Or.inr x))).below hb (F.rr (fun x => h (Or.inr x))).lt, ⟨F.ge.1, F.ge.2.1, Nat.le_trans F.ge.2.2 hb.size⟩, fun h => F.f0 (h.resolve_left (by decide)), fun h => F.f1 (h.resolve_left (by decide)), fun h => by obtain ⟨A2, c2, h1, h2⟩ := F.f2 (h.resolve_left (by decide)); exact ⟨A2, c2, h1, (h2.below hb (Nat.le_refl _)).more hb.size⟩, fun h => F.f3 (h.resolve_left (by decide)), fun h => F.f4 (h.resolve_left (by decide)), fun _ => ⟨⟨A1, c1, rfl, ho.less (by omega)⟩, fun h2 => by obtain ⟨A2, c2, h1, h3⟩ := F.f2 (h2.resolve_left (by decide)); rw [h1]; exact fun k hk hk2 => by have := h3.2 k hk; have := (ho.block k hk2).1; omega⟩, fun h => absurd (hcl 6 5 (by kernel_rfl) (h.resolve_left (by decide))) hno, fun h => absurd (hcl 7 5 (by kernel_rfl) (h.resolve_left (by decide))) hno⟩⟩
    refine StepsFrom.cons rfl (fun L a w' hI hno hdep hcl K hK => ?_) ?_
    · obtain ⟨v3, v4, v5, v6, v7, v8, v9, ha, F⟩ := hI
      obtain ⟨A5, c5, e5, o5⟩ := F.f2 (hdep 2 (by kernel_rfl))
      obtain ⟨⟨A8, c8, e8, o8⟩, hap⟩ := F.f5 (hdep 5 (by kernel_rfl))
      subst ha
      simp only [Act.put, List.setIfInBounds_toArray, List.set_cons_zero, List.set_cons_succ, e5, e8]
      go_simp
      exact hK.out _ _ ⟨v3, v4, v5, v6, v7, v8, .agg #[v5, v8], by simp only [Act.put, List.setIfInBounds_toArray, List.set_cons_zero, List.set_cons_succ, e5, e8], ⟨F.bel, F.rb, fun h => F.rr (fun x => h (Or.inr x)), F.ge, fun h => F.f0 (h.resolve_left (by decide)), fun h => F.f1 (h.resolve_left (by decide)), fun h => F.f2 (h.resolve_left (by decide)), fun h => F.f3 (h.resolve_left (by decide)), fun h => F.f4 (h.resolve_left (by decide)), fun h => ⟨(F.f5 (h.resolve_left (by decide))).1, fun h2 => (F.f5 (h.resolve_left (by decide))).2 (h2.resolve_left (by decide))⟩, fun _ => rfl, fun h => absurd (hcl 7 6 (by kernel_rfl) (h.resolve_left (by decide))) hno⟩⟩
    refine StepsFrom.cons rfl (fun L a w' hI hno hdep hcl K hK => ?_) ?_
    · obtain ⟨v3, v4, v5, v6, v7, v8, v9, ha, F⟩ := hI
      obtain ⟨A5, c5, e5, o5⟩ := F.f2 (hdep 2 (by kernel_rfl))
      obtain ⟨⟨A8, c8, e8, o8⟩, hap⟩ := F.f5 (hdep 5 (by kernel_rfl))
      have e9 := F.f6 (hdep 6 (by kernel_rfl))
      have rr := F.rr hno
      have z0 := rr.c2.1
      have z1 := rr.c2.2
      have fr := rr.frozen
      have hl := rr.lt
      have hge := F.ge
      have hbel := F.bel.size
      subst ha
      simp only [Act.put, List.setIfInBounds_toArray, List.set_cons_zero, List.set_cons_succ, e9, e5, e8]
      go_simp
      exact hK.out _ _ ⟨v3, v4, v5, v6, v7, v8, v9, by simp only [Act.put, List.setIfInBounds_toArray, List.set_cons_zero, List.set_cons_succ, e9, e5, e8], ⟨below_two F.bel (by omega) _ _, oth2 F.rb (by omega) _ _, fun h => absurd (Or.inl rfl) h, ⟨F.ge.1, F.ge.2.1, by rw [World.size_setCell, World.size_setCell]; exact F.ge.2.2⟩, fun h => F.f0 (h.resolve_left (by decide)), fun h => F.f1 (h.resolve_left (by decide)), fun h => by obtain ⟨A2, c2, h1, h2⟩ := F.f2 (h.resolve_left (by decide)); exact ⟨A2, c2, h1, by rw [World.size_setCell, World.size_setCell]; exact own2 h2 (by omega) _ _⟩, fun h => F.f3 (h.resolve_left (by decide)), fun h => F.f4 (h.resolve_left (by decide)), fun h => by obtain ⟨⟨A2, c2, h1, h2⟩, h3⟩ := F.f5 (h.resolve_left (by decide)); exact ⟨⟨A2, c2, h1, by rw [World.size_setCell, World.size_setCell]; exact own2 h2 (by omega) _ _⟩, fun h4 => h3 (h4.resolve_left (by decide))⟩, fun h => F.f6 (h.resolve_left (by decide)), fun _ => by rw [e5, e8]; exact two_ rr _ _⟩⟩
    exact StepsFrom.nil (by decide)
  case fin =>
    rintro L a' w9 ⟨v3, v4, v5, v6, v7, v8, v9, rfl, Fx⟩ hL
    have r7 := Fx.f7 (hL 7 (by decide))
    obtain ⟨⟨A2, c2, e8, o2⟩, hap⟩ := Fx.f5 (hL 5 (by decide))
    obtain ⟨A1, c1, e5, o1⟩ := Fx.f2 (hL 2 (by decide))
    have hap := hap (hL 2 (by decide))
    have hbel := Fx.bel
    clear Fx hL
    subst e8 e5
    obtain ⟨z0, z1⟩ := r7.c2
    simp only [Act.put, List.setIfInBounds_toArray, List.set_cons_zero, List.set_cons_succ]
    go_wp2_with fail
    refine bodyPost_ret (v := .agg #[.slice A1 m.length c1, .slice A2 l.length c2]) (by simp [results, Try.results63, go_sem, z0, z1]) rfl ?_
    exact ⟨A1, c1, A2, c2, rfl, o1.less (by omega), o2.less (by omega), hap, hbel⟩
end Go.Proofs.Ytfgkkmhafdbicaa.Bd6
