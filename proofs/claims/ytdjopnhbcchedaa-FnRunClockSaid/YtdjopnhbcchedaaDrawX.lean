/-
  The draw of FnRunClock: rules, whose turn it is, a time, events. Conditions: each theorem's own.
-/
import Derived.Test.YtdjopnhbcchedaaDrawS
set_option linter.unusedVariables false
namespace Go.Proofs.Ytdjopnhbcchedaa.DrawX
open Go.ChangeShapes Go.WideShapes Go.ChangeAt Go.RowKit Base Base2 Ints Own Draw RegInv DrawK DrawE ClockRun DrawS
variable {w0 w w' : World} {B g cp : Nat} {A : Option Addr} {xs : List Int}
theorem zeros2 (n : Nat) : (List.replicate n ((0, 0) : Int × Int)).flatMap enI2 = List.replicate (n * 2) (Value.int .i64 0) := by
  induction n with
  | zero => rfl
  | succ n ih => rw [List.replicate_succ, List.flatMap_cons, ih, Nat.succ_mul, Nat.add_comm, ← List.replicate_append_replicate]; rfl
/-- Behind the draws but the last two: the rules' box p7, the events. -/
structure Rq (w : World) (N lo p7 : Nat) (r d b time : Int) (Ae : Option Addr) (ce : Nat) (evs : List (Int × Int)) (W : World) : Prop where
  q7 : RowB W p7 25 [.int .i64 r, .int .i64 d, .int .i64 b]
  o : OwnS W lo W.heap.size 54 2 enI2 (.slice Ae evs.length ce) evs
  bel : Below w.heap.size w W
  hp : N < lo ∧ lo ≤ p7 ∧ w.heap.size = N
section
variable {N lo p7 : Nat} {r d b time : Int} {Ae : Option Addr} {ce : Nat} {evs : List (Int × Int)} {W W' : World}
theorem Rq.drew (h : Rq w N lo p7 r d b time Ae ce evs W) : Rq w N lo p7 r d b time Ae ce evs W.drew := ⟨h.q7.drew, h.o, h.bel.drew, h.hp⟩
theorem Rq.grown (h : Rq w N lo p7 r d b time Ae ce evs W) (hg : W.grownBy W' (some g)) (hgg : N < g ∧ g < lo) : Rq w N lo p7 r d b time Ae ce evs W' := by
  have hp := h.hp
  exact ⟨h.q7.grown hg (fun k hk => by simp at hk; omega), (h.o.grown hg (fun k hk => by simp at hk; omega)).more hg.size, h.bel.grown hg h.bel.size (fun k hk => by simp at hk; omega), hp⟩
theorem Rq.s3 (h : Rq w N lo p7 r d b time Ae ce evs W) (x y z : Value) : Rq w N lo p7 r d b time Ae ce evs (((W.setCell ⟨N, 0, none⟩ x).setCell ⟨N, 1, none⟩ y).setCell ⟨N, 2, none⟩ z) := by
  have hp := h.hp
  have hf : ∀ k, (Value.slice Ae evs.length ce).ownBlock = some k → k ≠ N := fun k hk => by have := h.o.block k hk; omega
  refine ⟨other3 h.q7 (by omega) _ _ _, ?_, ((h.bel.setCell (by show w.heap.size ≤ N; omega) _).setCell (by show w.heap.size ≤ N; omega) _).setCell (by show w.heap.size ≤ N; omega) _, hp⟩
  simp only [World.size_setCell]
  exact own_far (own_far (own_far h.o hf _ _) hf _ _) hf _ _
end
structure RcF (w0 : World) (B g : Nat) (A : Option Addr) (cp : Nat) (xs : List Int) (w : World) (N lo p7 : Nat) (r d b time : Int) (Ae : Option Addr) (ce : Nat) (evs : List (Int × Int)) (L : Nat → Prop) (v3 v4 v5 v26 v27 v28 v29 v30 v31 v32 v33 v34 : Value) (w' : World) : Prop where
  D : ¬ L 9 → Dr w0 B g A cp xs w'
  K : Rq w N lo p7 r d b time Ae ce evs w'
  z2 : ¬ L 9 → RowB w' N 25 [.int .i64 0, .int .i64 0, .int .i64 0]
  hg : N < g ∧ g < lo
  f0 : L 0 → v26 = .agg #[.int .i64 r, .int .i64 d, .int .i64 b]
  f1 : L 1 → v27 = .pointer (some ⟨g, 0, none⟩)
  f2 : L 2 → ∃ t : Int, v28 = .int .i64 t ∧ 0 ≤ t ∧ t < 2
  f3 : L 3 → v29 = .pointer (some ⟨g, 0, none⟩)
  f4 : L 4 → ∃ t : Int, v30 = .int .i64 t ∧ 0 ≤ t ∧ t < 24
  f5 : L 5 → ∃ t : Int, v31 = .int .i64 t
  f6 : L 6 → ∃ t : Int, v32 = .int .i64 t
  f7 : L 7 → v33 = .int .i64 time
  f8 : L 8 → v34 = .slice Ae evs.length ce
  f9 : L 9 → RowB w' N 25 [.int .i64 r, .int .i64 d, .int .i64 b]
  f10 : L 10 → ∃ t : Int, v3 = .int .i64 t
  f11 : L 11 → v4 = .int .i64 time
  f12 : L 12 → v5 = .slice Ae evs.length ce

set_option maxHeartbeats 1500000 in
set_option maxRecDepth 100000 in
theorem run_ {w : World} {cp : Nat} {A : Option Addr} {xs : List Int} (hr : RdS w w.heap.size 1 enB A xs) (hw : ∀ x ∈ xs, (Lit.int .u8 x).wf = true) :
    Calls Try.prog 30 #[.slice A xs.length cp] w fun e w' => ∃ (r d b turn time : Int) (Ae : Option Addr) (ce : Nat) (evs : List (Int × Int)), e = .returned (.tuple #[.agg #[.int .i64 r, .int .i64 d, .int .i64 b], .int .i64 turn, .int .i64 time, .slice Ae evs.length ce]) ∧ OwnS w' w.heap.size w'.heap.size 54 2 enI2 (.slice Ae evs.length ce) evs ∧ evs.length ≤ 81 ∧ Below w.heap.size w w' := by
  obtain ⟨i5, hi5, hz0, hz1, hz2⟩ := info_parts infoE
  have hr1 : RdS (w.alloc (.cells #[.int .i64 0, .int .i64 0, .int .i64 0] 25 )) (w.alloc (.cells #[.int .i64 0, .int .i64 0, .int .i64 0] 25 )).heap.size 1 enB A xs := (hr.below (by go_grown) (Nat.le_refl _)).more (by simp only [World.size_alloc]; omega)
  go_enter Try.func30, Try.ntmps30
  go_wp2_with fail
  refine (new_ hr1 hw).mono ?_
  rintro e w1 ⟨rfl, h1⟩
  generalize hG : (w.alloc (.cells #[.int .i64 0, .int .i64 0, .int .i64 0] 25 )).heap.size = G at h1 ⊢
  have hG1 : w.heap.size < G := by rw [← hG]; simp only [World.size_alloc]; omega
  have hG2 : G ≤ w.heap.size + 1 := by rw [← hG]; simp only [World.size_alloc]; omega
  clear hG
  have z2 : RowB w1 w.heap.size 25 [.int .i64 0, .int .i64 0, .int .i64 0] := (RowB.new _ _ _).below h1.bel (by omega)
  have hgl := h1.lt
  have HB : Hid (∀ W' : World, Below G (w.alloc (.cells #[.int .i64 0, .int .i64 0, .int .i64 0] 25 )) W' → Below w.heap.size w W') := fun W' h => ((Below.refl w.heap.size w).alloc (Nat.le_refl _) _).trans (h.mono (by omega))
  clear hr1
  generalize (w.alloc (.cells #[.int .i64 0, .int .i64 0, .int .i64 0] 25 )) = V at h1 HB
  obtain ⟨N, hN⟩ : ∃ N, w.heap.size = N := ⟨_, rfl⟩
  have HN := Lib.hid hN
  rw [hN] at z2 hG1 hG2 ⊢
  clear hN
  go_wp2_with fail
  refine (rules h1).mono ?_
  rintro e w2 ⟨⟨r, d, b, rfl⟩, D, hg⟩
  have z2 := z2.grown hg (fun k hk => by simp at hk; omega)
  have hgs := hg.size
  clear hg h1 hr
  go_upto_region 3 with (fail)
  refine wp_gen (fun W' => Dr V G G A cp xs W' ∧ RowB W' N 25 [.int .i64 0, .int .i64 0, .int .i64 0] ∧ RowB W' w2.heap.size 25 [.int .i64 r, .int .i64 d, .int .i64 b]) ⟨D.alloc _, z2.alloc _, RowB.new _ _ _⟩ ?_
  clear D z2
  generalize w1.heap.size = lo at *
  generalize w2.heap.size = p7 at *
  rintro w3 ⟨D, z2, q7⟩
  go_wp2_with fail
  refine (next' D 100 (by decide)).mono ?_
  rintro e w4 ⟨⟨time, rfl, ht0, ht1, -⟩, D4, hg, -⟩
  have ht1 := ht1 (by decide)
  have z2 := z2.grown hg (fun k hk => by simp at hk; omega)
  have q7 := q7.grown hg (fun k hk => by simp at hk; omega)
  clear D hg
  have D := D4
  clear D4
  go_wp2_with fail
  refine (events time ht0 (by omega) D).mono ?_
  rintro e w5 ⟨v, evs, rfl, hE, hl14⟩
  obtain ⟨Ae, ce, rfl, _⟩ := hE.o.form enI2_len
  have D5 := hE.D
  have hlo4 : lo ≤ w4.heap.size := by have := q7.lt; omega
  have o := hE.o.less hlo4
  have z2 := z2.grown hE.gr (fun k hk => by simp at hk; omega)
  have q7 := q7.grown hE.gr (fun k hk => by simp at hk; omega)
  clear D hE
  have D := D5
  clear D5 hlo4
  go_wp2_with fail
  refine (next' D 30 (by decide)).mono ?_
  rintro e w6 ⟨⟨t, rfl, t0, t1, -⟩, D6, hg, -⟩
  have z2 := z2.grown hg (fun k hk => by simp at hk; omega)
  have q7 := q7.grown hg (fun k hk => by simp at hk; omega)
  have o := (o.grown hg (fun k hk => by simp at hk; omega)).more hg.size
  clear D hg
  have D := D6
  clear D6
  have hg : N < G ∧ G < lo := ⟨hG1, hgl⟩
  by_cases et : t = 0
  · subst et
    go_wp2_with fail
    refine (next' D 2 (by decide)).mono ?_
    rintro e w7 ⟨⟨s, rfl, s0, s1, -⟩, D7, hg7, -⟩
    have s1 := s1 (by decide)
    have z2 := z2.grown hg7 (fun k hk => by simp at hk; omega)
    have q7 := q7.grown hg7 (fun k hk => by simp at hk; omega)
    clear D hg7 o
    have D := D7
    clear D7
    obtain ⟨n, hn⟩ : ∃ n : Nat, 80 + s = (n : Int) := ⟨(80 + s).toNat, by omega⟩
    have en : IntKind.i64.wrap (80 + s) = (n : Int) := by rw [hn]; exact IntWalk.i64_in _ (by omega)
    have hn9 : n ≤ 81 := by omega
    clear s0 s1
    have hlo : lo ≤ w7.heap.size := by have := q7.lt; omega
    go_wp2_with (at_make; refine wpList_make_full _ rfl _ _ _ rfl w7.heap.size 54 i5 _ 2 Try.underlying47 hi5 hz0 hz1 _ _ _ _ n rfl rfl rfl rfl ?c1 ?c2 (Nat.le_refl _) ?_)
    case c1 => rw [hz2]; omega
    case c2 => unfold maxLen; omega
    intro w8 hown hgrow
    have hR := RowB.of_own hown
    have q8 : Below w7.heap.size w7 w8 := (Below.refl _ _).grown hgrow (Nat.le_refl _) (by simp)
    clear hown hgrow
    have hR : RowB w8 w7.heap.size 54 ((List.replicate n ((0, 0) : Int × Int)).flatMap enI2) := by rw [zeros2]; simpa [made_rep2] using hR
    have hlt8 := hR.lt
    have ho := RowB.own hR enI2_len (lo := lo) (hi := w8.heap.size) hlo hlt8 (by rw [List.length_replicate]; unfold maxLen; omega)
    rw [List.length_replicate] at ho
    obtain ⟨zs, hzs⟩ : ∃ zs, List.replicate n ((0, 0) : Int × Int) = zs := ⟨_, rfl⟩
    have hzl : zs.length = n := by rw [← hzs, List.length_replicate]
    rw [hzs] at ho
    have HL : Hid (zs.length ≤ 81) := by rw [hzl]; exact hn9
    subst hzl
    have K : Rq w N lo p7 r d b time (some ⟨w7.heap.size, 0, none⟩) zs.length zs w8 := ⟨q7.below q8 q7.lt, ho, HB.out _ (D.below q8 D.lt).bel, by omega, by omega, HN.out⟩
    have D := D.below q8 D.lt
    have z2 := z2.below q8 z2.lt
    clear hR ho hzs q7 q8 hn en hlt8 hlo
    generalize w7.heap.size = pz at *
    go_wp2_with fail
    refine region_inv (fun a0 L a w' => ∃ v3 v4 v5 v26 v27 v28 v29 v30 v31 v32 v33 v34 : Value, a = ((((((((((((a0.put (some 3) v3).put (some 4) v4).put (some 5) v5).put (some 26) v26).put (some 27) v27).put (some 28) v28).put (some 29) v29).put (some 30) v30).put (some 31) v31).put (some 32) v32).put (some 33) v33).put (some 34) v34) ∧ RcF V G G A cp xs w N lo p7 r d b time (some ⟨pz, 0, none⟩) zs.length zs L v3 v4 v5 v26 v27 v28 v29 v30 v31 v32 v33 v34 w') (by kernel_rfl) (by kernel_rfl) ?h0 ?hst ?fin
    case h0 =>
      exact ⟨_, _, _, _, _, _, _, _, _, _, _, _, by simp only [Act.put, List.setIfInBounds_toArray, List.set_cons_zero, List.set_cons_succ]; exact rfl, ⟨fun _ => D.drew, K.drew, fun _ => RowB.drew z2, hg, fun h => (h : False).elim, fun h => (h : False).elim, fun h => (h : False).elim, fun h => (h : False).elim, fun h => (h : False).elim, fun h => (h : False).elim, fun h => (h : False).elim, fun h => (h : False).elim, fun h => (h : False).elim, fun h => (h : False).elim, fun h => (h : False).elim, fun h => (h : False).elim, fun h => (h : False).elim⟩⟩
    case hst =>
      refine StepsFrom.cons rfl (fun L a w' hI hno hdep hcl K hK => ?_) ?_
      · obtain ⟨v3, v4, v5, v26, v27, v28, v29, v30, v31, v32, v33, v34, ha, F⟩ := hI
        obtain ⟨c0, c1, c2⟩ := F.K.q7.c3
        subst ha
        simp only [Act.put, List.setIfInBounds_toArray, List.set_cons_zero, List.set_cons_succ]
        go_simp
        exact hK.out _ _ ⟨v3, v4, v5, _, v27, v28, v29, v30, v31, v32, v33, v34, by simp only [Act.put, List.setIfInBounds_toArray, List.set_cons_zero, List.set_cons_succ], ⟨fun h => F.D (fun x => h (Or.inr x)), F.K, fun h => F.z2 (fun x => h (Or.inr x)), F.hg, fun _ => rfl, fun h => F.f1 (h.resolve_left (by decide)), fun h => F.f2 (h.resolve_left (by decide)), fun h => F.f3 (h.resolve_left (by decide)), fun h => F.f4 (h.resolve_left (by decide)), fun h => F.f5 (h.resolve_left (by decide)), fun h => F.f6 (h.resolve_left (by decide)), fun h => F.f7 (h.resolve_left (by decide)), fun h => F.f8 (h.resolve_left (by decide)), fun h => F.f9 (h.resolve_left (by decide)), fun h => F.f10 (h.resolve_left (by decide)), fun h => F.f11 (h.resolve_left (by decide)), fun h => F.f12 (h.resolve_left (by decide))⟩⟩
      refine StepsFrom.cons rfl (fun L a w' hI hno hdep hcl K hK => ?_) ?_
      · obtain ⟨v3, v4, v5, v26, v27, v28, v29, v30, v31, v32, v33, v34, ha, F⟩ := hI
        subst ha
        simp only [Act.put, List.setIfInBounds_toArray, List.set_cons_zero, List.set_cons_succ]
        go_simp
        exact hK.out _ _ ⟨v3, v4, v5, v26, _, v28, v29, v30, v31, v32, v33, v34, by simp only [Act.put, List.setIfInBounds_toArray, List.set_cons_zero, List.set_cons_succ], ⟨fun h => F.D (fun x => h (Or.inr x)), F.K, fun h => F.z2 (fun x => h (Or.inr x)), F.hg, fun h => F.f0 (h.resolve_left (by decide)), fun _ => rfl, fun h => F.f2 (h.resolve_left (by decide)), fun h => F.f3 (h.resolve_left (by decide)), fun h => F.f4 (h.resolve_left (by decide)), fun h => F.f5 (h.resolve_left (by decide)), fun h => F.f6 (h.resolve_left (by decide)), fun h => F.f7 (h.resolve_left (by decide)), fun h => F.f8 (h.resolve_left (by decide)), fun h => F.f9 (h.resolve_left (by decide)), fun h => F.f10 (h.resolve_left (by decide)), fun h => F.f11 (h.resolve_left (by decide)), fun h => F.f12 (h.resolve_left (by decide))⟩⟩
      refine StepsFrom.cons rfl (fun L a w' hI hno hdep hcl K hK => ?_) ?_
      · obtain ⟨v3, v4, v5, v26, v27, v28, v29, v30, v31, v32, v33, v34, ha, F⟩ := hI
        have e27 := F.f1 (hdep 1 (by kernel_rfl))
        have n9 : ¬ L 9 := fun x => hno (hcl 9 2 (by kernel_rfl) x)
        have hD0 := F.D n9
        have hgg := F.hg
        subst ha
        simp only [Act.put, List.setIfInBounds_toArray, List.set_cons_zero, List.set_cons_succ, e27]
        go_simp
        refine (next' hD0 2 (by decide)).mono ?_
        rintro e w2 ⟨⟨t, rfl, t0, t1, -⟩, hD, hg, -⟩
        have t1 := t1 (by decide)
        exact hK.out _ _ ⟨v3, v4, v5, v26, v27, _, v29, v30, v31, v32, v33, v34, by simp only [Act.put, List.setIfInBounds_toArray, List.set_cons_zero, List.set_cons_succ, e27], ⟨fun _ => hD, F.K.grown hg hgg, fun h => (F.z2 (fun x => h (Or.inr x))).grown hg (fun k hk => by simp at hk; omega), F.hg, fun h => F.f0 (h.resolve_left (by decide)), fun h => F.f1 (h.resolve_left (by decide)), fun _ => ⟨t, rfl, t0, t1⟩, fun h => F.f3 (h.resolve_left (by decide)), fun h => F.f4 (h.resolve_left (by decide)), fun h => F.f5 (h.resolve_left (by decide)), fun h => F.f6 (h.resolve_left (by decide)), fun h => F.f7 (h.resolve_left (by decide)), fun h => F.f8 (h.resolve_left (by decide)), fun h => absurd (hcl 9 2 (by kernel_rfl) (h.resolve_left (by decide))) hno, fun h => F.f10 (h.resolve_left (by decide)), fun h => F.f11 (h.resolve_left (by decide)), fun h => F.f12 (h.resolve_left (by decide))⟩⟩
      refine StepsFrom.cons rfl (fun L a w' hI hno hdep hcl K hK => ?_) ?_
      · obtain ⟨v3, v4, v5, v26, v27, v28, v29, v30, v31, v32, v33, v34, ha, F⟩ := hI
        subst ha
        simp only [Act.put, List.setIfInBounds_toArray, List.set_cons_zero, List.set_cons_succ]
        go_simp
        exact hK.out _ _ ⟨v3, v4, v5, v26, v27, v28, _, v30, v31, v32, v33, v34, by simp only [Act.put, List.setIfInBounds_toArray, List.set_cons_zero, List.set_cons_succ], ⟨fun h => F.D (fun x => h (Or.inr x)), F.K, fun h => F.z2 (fun x => h (Or.inr x)), F.hg, fun h => F.f0 (h.resolve_left (by decide)), fun h => F.f1 (h.resolve_left (by decide)), fun h => F.f2 (h.resolve_left (by decide)), fun _ => rfl, fun h => F.f4 (h.resolve_left (by decide)), fun h => F.f5 (h.resolve_left (by decide)), fun h => F.f6 (h.resolve_left (by decide)), fun h => F.f7 (h.resolve_left (by decide)), fun h => F.f8 (h.resolve_left (by decide)), fun h => F.f9 (h.resolve_left (by decide)), fun h => F.f10 (h.resolve_left (by decide)), fun h => F.f11 (h.resolve_left (by decide)), fun h => F.f12 (h.resolve_left (by decide))⟩⟩
      refine StepsFrom.cons rfl (fun L a w' hI hno hdep hcl K hK => ?_) ?_
      · obtain ⟨v3, v4, v5, v26, v27, v28, v29, v30, v31, v32, v33, v34, ha, F⟩ := hI
        have e29 := F.f3 (hdep 3 (by kernel_rfl))
        have n9 : ¬ L 9 := fun x => hno (hcl 9 4 (by kernel_rfl) x)
        have hD0 := F.D n9
        have hgg := F.hg
        subst ha
        simp only [Act.put, List.setIfInBounds_toArray, List.set_cons_zero, List.set_cons_succ, e29]
        go_simp
        refine (next' hD0 24 (by decide)).mono ?_
        rintro e w2 ⟨⟨t, rfl, t0, t1, -⟩, hD, hg, -⟩
        have t1 := t1 (by decide)
        exact hK.out _ _ ⟨v3, v4, v5, v26, v27, v28, v29, _, v31, v32, v33, v34, by simp only [Act.put, List.setIfInBounds_toArray, List.set_cons_zero, List.set_cons_succ, e29], ⟨fun _ => hD, F.K.grown hg hgg, fun h => (F.z2 (fun x => h (Or.inr x))).grown hg (fun k hk => by simp at hk; omega), F.hg, fun h => F.f0 (h.resolve_left (by decide)), fun h => F.f1 (h.resolve_left (by decide)), fun h => F.f2 (h.resolve_left (by decide)), fun h => F.f3 (h.resolve_left (by decide)), fun _ => ⟨t, rfl, t0, t1⟩, fun h => F.f5 (h.resolve_left (by decide)), fun h => F.f6 (h.resolve_left (by decide)), fun h => F.f7 (h.resolve_left (by decide)), fun h => F.f8 (h.resolve_left (by decide)), fun h => absurd (hcl 9 4 (by kernel_rfl) (h.resolve_left (by decide))) hno, fun h => F.f10 (h.resolve_left (by decide)), fun h => F.f11 (h.resolve_left (by decide)), fun h => F.f12 (h.resolve_left (by decide))⟩⟩
      refine StepsFrom.cons rfl (fun L a w' hI hno hdep hcl K hK => ?_) ?_
      · obtain ⟨v3, v4, v5, v26, v27, v28, v29, v30, v31, v32, v33, v34, ha, F⟩ := hI
        obtain ⟨t, e30, t0, t1⟩ := F.f4 (hdep 4 (by kernel_rfl))
        have ht : Int.tdiv t 23 = t / 23 := by rw [Int.tdiv_eq_ediv_of_nonneg t0]
        subst ha
        simp only [Act.put, List.setIfInBounds_toArray, List.set_cons_zero, List.set_cons_succ, e30]
        go_simp
        exact hK.out _ _ ⟨v3, v4, v5, v26, v27, v28, v29, v30, .int .i64 (IntKind.i64.wrap (t / 23)), v32, v33, v34, by simp only [Act.put, List.setIfInBounds_toArray, List.set_cons_zero, List.set_cons_succ, e30], ⟨fun h => F.D (fun x => h (Or.inr x)), F.K, fun h => F.z2 (fun x => h (Or.inr x)), F.hg, fun h => F.f0 (h.resolve_left (by decide)), fun h => F.f1 (h.resolve_left (by decide)), fun h => F.f2 (h.resolve_left (by decide)), fun h => F.f3 (h.resolve_left (by decide)), fun h => F.f4 (h.resolve_left (by decide)), fun _ => ⟨_, rfl⟩, fun h => F.f6 (h.resolve_left (by decide)), fun h => F.f7 (h.resolve_left (by decide)), fun h => F.f8 (h.resolve_left (by decide)), fun h => F.f9 (h.resolve_left (by decide)), fun h => F.f10 (h.resolve_left (by decide)), fun h => F.f11 (h.resolve_left (by decide)), fun h => F.f12 (h.resolve_left (by decide))⟩⟩
      refine StepsFrom.cons rfl (fun L a w' hI hno hdep hcl K hK => ?_) ?_
      · obtain ⟨v3, v4, v5, v26, v27, v28, v29, v30, v31, v32, v33, v34, ha, F⟩ := hI
        obtain ⟨s, e28, s0, s1⟩ := F.f2 (hdep 2 (by kernel_rfl))
        obtain ⟨t, e31⟩ := F.f5 (hdep 5 (by kernel_rfl))
        subst ha
        simp only [Act.put, List.setIfInBounds_toArray, List.set_cons_zero, List.set_cons_succ, e28, e31]
        go_simp
        exact hK.out _ _ ⟨v3, v4, v5, v26, v27, v28, v29, v30, v31, .int .i64 (IntKind.i64.wrap (s + t)), v33, v34, by simp only [Act.put, List.setIfInBounds_toArray, List.set_cons_zero, List.set_cons_succ, e28, e31], ⟨fun h => F.D (fun x => h (Or.inr x)), F.K, fun h => F.z2 (fun x => h (Or.inr x)), F.hg, fun h => F.f0 (h.resolve_left (by decide)), fun h => F.f1 (h.resolve_left (by decide)), fun h => F.f2 (h.resolve_left (by decide)), fun h => F.f3 (h.resolve_left (by decide)), fun h => F.f4 (h.resolve_left (by decide)), fun h => F.f5 (h.resolve_left (by decide)), fun _ => ⟨_, rfl⟩, fun h => F.f7 (h.resolve_left (by decide)), fun h => F.f8 (h.resolve_left (by decide)), fun h => F.f9 (h.resolve_left (by decide)), fun h => F.f10 (h.resolve_left (by decide)), fun h => F.f11 (h.resolve_left (by decide)), fun h => F.f12 (h.resolve_left (by decide))⟩⟩
      refine StepsFrom.cons rfl (fun L a w' hI hno hdep hcl K hK => ?_) ?_
      · obtain ⟨v3, v4, v5, v26, v27, v28, v29, v30, v31, v32, v33, v34, ha, F⟩ := hI
        subst ha
        simp only [Act.put, List.setIfInBounds_toArray, List.set_cons_zero, List.set_cons_succ]
        go_simp
        exact hK.out _ _ ⟨v3, v4, v5, v26, v27, v28, v29, v30, v31, v32, _, v34, by simp only [Act.put, List.setIfInBounds_toArray, List.set_cons_zero, List.set_cons_succ], ⟨fun h => F.D (fun x => h (Or.inr x)), F.K, fun h => F.z2 (fun x => h (Or.inr x)), F.hg, fun h => F.f0 (h.resolve_left (by decide)), fun h => F.f1 (h.resolve_left (by decide)), fun h => F.f2 (h.resolve_left (by decide)), fun h => F.f3 (h.resolve_left (by decide)), fun h => F.f4 (h.resolve_left (by decide)), fun h => F.f5 (h.resolve_left (by decide)), fun h => F.f6 (h.resolve_left (by decide)), fun _ => rfl, fun h => F.f8 (h.resolve_left (by decide)), fun h => F.f9 (h.resolve_left (by decide)), fun h => F.f10 (h.resolve_left (by decide)), fun h => F.f11 (h.resolve_left (by decide)), fun h => F.f12 (h.resolve_left (by decide))⟩⟩
      refine StepsFrom.cons rfl (fun L a w' hI hno hdep hcl K hK => ?_) ?_
      · obtain ⟨v3, v4, v5, v26, v27, v28, v29, v30, v31, v32, v33, v34, ha, F⟩ := hI
        subst ha
        simp only [Act.put, List.setIfInBounds_toArray, List.set_cons_zero, List.set_cons_succ]
        go_simp
        exact hK.out _ _ ⟨v3, v4, v5, v26, v27, v28, v29, v30, v31, v32, v33, _, by simp only [Act.put, List.setIfInBounds_toArray, List.set_cons_zero, List.set_cons_succ], ⟨fun h => F.D (fun x => h (Or.inr x)), F.K, fun h => F.z2 (fun x => h (Or.inr x)), F.hg, fun h => F.f0 (h.resolve_left (by decide)), fun h => F.f1 (h.resolve_left (by decide)), fun h => F.f2 (h.resolve_left (by decide)), fun h => F.f3 (h.resolve_left (by decide)), fun h => F.f4 (h.resolve_left (by decide)), fun h => F.f5 (h.resolve_left (by decide)), fun h => F.f6 (h.resolve_left (by decide)), fun h => F.f7 (h.resolve_left (by decide)), fun _ => rfl, fun h => F.f9 (h.resolve_left (by decide)), fun h => F.f10 (h.resolve_left (by decide)), fun h => F.f11 (h.resolve_left (by decide)), fun h => F.f12 (h.resolve_left (by decide))⟩⟩
      refine StepsFrom.cons rfl (fun L a w' hI hno hdep hcl K hK => ?_) ?_
      · obtain ⟨v3, v4, v5, v26, v27, v28, v29, v30, v31, v32, v33, v34, ha, F⟩ := hI
        have e26 := F.f0 (hdep 0 (by kernel_rfl))
        have hz := F.z2 hno
        obtain ⟨c0, c1, c2⟩ := hz.c3
        have hf := hz.frozen
        have hl := hz.lt
        subst ha
        simp only [Act.put, List.setIfInBounds_toArray, List.set_cons_zero, List.set_cons_succ, e26]
        go_simp
        exact hK.out _ _ ⟨v3, v4, v5, v26, v27, v28, v29, v30, v31, v32, v33, v34, by simp only [Act.put, List.setIfInBounds_toArray, List.set_cons_zero, List.set_cons_succ, e26], ⟨fun h => absurd (Or.inl rfl) h, F.K.s3 _ _ _, fun h => absurd (Or.inl rfl) h, F.hg, fun h => F.f0 (h.resolve_left (by decide)), fun h => F.f1 (h.resolve_left (by decide)), fun h => F.f2 (h.resolve_left (by decide)), fun h => F.f3 (h.resolve_left (by decide)), fun h => F.f4 (h.resolve_left (by decide)), fun h => F.f5 (h.resolve_left (by decide)), fun h => F.f6 (h.resolve_left (by decide)), fun h => F.f7 (h.resolve_left (by decide)), fun h => F.f8 (h.resolve_left (by decide)), fun _ => three hz _ _ _, fun h => F.f10 (h.resolve_left (by decide)), fun h => F.f11 (h.resolve_left (by decide)), fun h => F.f12 (h.resolve_left (by decide))⟩⟩
      refine StepsFrom.cons rfl (fun L a w' hI hno hdep hcl K hK => ?_) ?_
      · obtain ⟨v3, v4, v5, v26, v27, v28, v29, v30, v31, v32, v33, v34, ha, F⟩ := hI
        obtain ⟨t, e32⟩ := F.f6 (hdep 6 (by kernel_rfl))
        subst ha
        simp only [Act.put, List.setIfInBounds_toArray, List.set_cons_zero, List.set_cons_succ, e32]
        go_simp
        exact hK.out _ _ ⟨.int .i64 t, v4, v5, v26, v27, v28, v29, v30, v31, v32, v33, v34, by simp only [Act.put, List.setIfInBounds_toArray, List.set_cons_zero, List.set_cons_succ, e32], ⟨fun h => F.D (fun x => h (Or.inr x)), F.K, fun h => F.z2 (fun x => h (Or.inr x)), F.hg, fun h => F.f0 (h.resolve_left (by decide)), fun h => F.f1 (h.resolve_left (by decide)), fun h => F.f2 (h.resolve_left (by decide)), fun h => F.f3 (h.resolve_left (by decide)), fun h => F.f4 (h.resolve_left (by decide)), fun h => F.f5 (h.resolve_left (by decide)), fun h => F.f6 (h.resolve_left (by decide)), fun h => F.f7 (h.resolve_left (by decide)), fun h => F.f8 (h.resolve_left (by decide)), fun h => F.f9 (h.resolve_left (by decide)), fun _ => ⟨_, rfl⟩, fun h => F.f11 (h.resolve_left (by decide)), fun h => F.f12 (h.resolve_left (by decide))⟩⟩
      refine StepsFrom.cons rfl (fun L a w' hI hno hdep hcl K hK => ?_) ?_
      · obtain ⟨v3, v4, v5, v26, v27, v28, v29, v30, v31, v32, v33, v34, ha, F⟩ := hI
        have e33 := F.f7 (hdep 7 (by kernel_rfl))
        subst ha
        simp only [Act.put, List.setIfInBounds_toArray, List.set_cons_zero, List.set_cons_succ, e33]
        go_simp
        exact hK.out _ _ ⟨v3, _, v5, v26, v27, v28, v29, v30, v31, v32, v33, v34, by simp only [Act.put, List.setIfInBounds_toArray, List.set_cons_zero, List.set_cons_succ, e33], ⟨fun h => F.D (fun x => h (Or.inr x)), F.K, fun h => F.z2 (fun x => h (Or.inr x)), F.hg, fun h => F.f0 (h.resolve_left (by decide)), fun h => F.f1 (h.resolve_left (by decide)), fun h => F.f2 (h.resolve_left (by decide)), fun h => F.f3 (h.resolve_left (by decide)), fun h => F.f4 (h.resolve_left (by decide)), fun h => F.f5 (h.resolve_left (by decide)), fun h => F.f6 (h.resolve_left (by decide)), fun h => F.f7 (h.resolve_left (by decide)), fun h => F.f8 (h.resolve_left (by decide)), fun h => F.f9 (h.resolve_left (by decide)), fun h => F.f10 (h.resolve_left (by decide)), fun _ => rfl, fun h => F.f12 (h.resolve_left (by decide))⟩⟩
      refine StepsFrom.cons rfl (fun L a w' hI hno hdep hcl K hK => ?_) ?_
      · obtain ⟨v3, v4, v5, v26, v27, v28, v29, v30, v31, v32, v33, v34, ha, F⟩ := hI
        have e34 := F.f8 (hdep 8 (by kernel_rfl))
        subst ha
        simp only [Act.put, List.setIfInBounds_toArray, List.set_cons_zero, List.set_cons_succ, e34]
        go_simp
        exact hK.out _ _ ⟨v3, v4, _, v26, v27, v28, v29, v30, v31, v32, v33, v34, by simp only [Act.put, List.setIfInBounds_toArray, List.set_cons_zero, List.set_cons_succ, e34], ⟨fun h => F.D (fun x => h (Or.inr x)), F.K, fun h => F.z2 (fun x => h (Or.inr x)), F.hg, fun h => F.f0 (h.resolve_left (by decide)), fun h => F.f1 (h.resolve_left (by decide)), fun h => F.f2 (h.resolve_left (by decide)), fun h => F.f3 (h.resolve_left (by decide)), fun h => F.f4 (h.resolve_left (by decide)), fun h => F.f5 (h.resolve_left (by decide)), fun h => F.f6 (h.resolve_left (by decide)), fun h => F.f7 (h.resolve_left (by decide)), fun h => F.f8 (h.resolve_left (by decide)), fun h => F.f9 (h.resolve_left (by decide)), fun h => F.f10 (h.resolve_left (by decide)), fun h => F.f11 (h.resolve_left (by decide)), fun _ => rfl⟩⟩
      exact StepsFrom.nil (by decide)
    case fin =>
      rintro L a' w9 ⟨v3, v4, v5, v26, v27, v28, v29, v30, v31, v32, v33, v34, rfl, F⟩ hL
      obtain ⟨t, e3⟩ := F.f10 (hL 10 (by decide))
      have e4 := F.f11 (hL 11 (by decide))
      have e5 := F.f12 (hL 12 (by decide))
      have R2 := F.f9 (hL 9 (by decide))
      have K9 := F.K
      clear F hL
      subst e3 e4 e5
      simp only [Act.put, List.setIfInBounds_toArray, List.set_cons_zero, List.set_cons_succ]
      obtain ⟨a0, a1, a2⟩ := R2.c3
      go_wp2_with fail
      refine bodyPost_ret (v := .tuple #[.agg #[.int .i64 r, .int .i64 d, .int .i64 b], .int .i64 t, .int .i64 time, .slice (some ⟨pz, 0, none⟩) zs.length zs.length]) (by simp [results, Try.results30, go_sem, a0, a1, a2]) rfl ?_
      have hp9 := K9.hp
      exact ⟨_, _, _, t, time, _, _, _, rfl, K9.o.less (by omega), HL.out, K9.bel⟩
  · have e1 : (t == 0) = false := by simp [et]
    clear et
    have K : Rq w N lo p7 r d b time Ae ce evs w6 := ⟨q7, o, HB.out _ D.bel, by omega, by omega, HN.out⟩
    have HL : Hid (evs.length ≤ 81) := by show evs.length ≤ 81; omega
    clear o q7
    go_wp2_with fail
    refine region_inv (fun a0 L a w' => ∃ v3 v4 v5 v26 v27 v28 v29 v30 v31 v32 v33 v34 : Value, a = ((((((((((((a0.put (some 3) v3).put (some 4) v4).put (some 5) v5).put (some 26) v26).put (some 27) v27).put (some 28) v28).put (some 29) v29).put (some 30) v30).put (some 31) v31).put (some 32) v32).put (some 33) v33).put (some 34) v34) ∧ RcF V G G A cp xs w N lo p7 r d b time Ae ce evs L v3 v4 v5 v26 v27 v28 v29 v30 v31 v32 v33 v34 w') (by kernel_rfl) (by kernel_rfl) ?h0 ?hst ?fin
    case h0 =>
      exact ⟨_, _, _, _, _, _, _, _, _, _, _, _, by simp only [Act.put, List.setIfInBounds_toArray, List.set_cons_zero, List.set_cons_succ]; exact rfl, ⟨fun _ => D.drew, K.drew, fun _ => RowB.drew z2, hg, fun h => (h : False).elim, fun h => (h : False).elim, fun h => (h : False).elim, fun h => (h : False).elim, fun h => (h : False).elim, fun h => (h : False).elim, fun h => (h : False).elim, fun h => (h : False).elim, fun h => (h : False).elim, fun h => (h : False).elim, fun h => (h : False).elim, fun h => (h : False).elim, fun h => (h : False).elim⟩⟩
    case hst =>
      refine StepsFrom.cons rfl (fun L a w' hI hno hdep hcl K hK => ?_) ?_
      · obtain ⟨v3, v4, v5, v26, v27, v28, v29, v30, v31, v32, v33, v34, ha, F⟩ := hI
        obtain ⟨c0, c1, c2⟩ := F.K.q7.c3
        subst ha
        simp only [Act.put, List.setIfInBounds_toArray, List.set_cons_zero, List.set_cons_succ]
        go_simp
        exact hK.out _ _ ⟨v3, v4, v5, _, v27, v28, v29, v30, v31, v32, v33, v34, by simp only [Act.put, List.setIfInBounds_toArray, List.set_cons_zero, List.set_cons_succ], ⟨fun h => F.D (fun x => h (Or.inr x)), F.K, fun h => F.z2 (fun x => h (Or.inr x)), F.hg, fun _ => rfl, fun h => F.f1 (h.resolve_left (by decide)), fun h => F.f2 (h.resolve_left (by decide)), fun h => F.f3 (h.resolve_left (by decide)), fun h => F.f4 (h.resolve_left (by decide)), fun h => F.f5 (h.resolve_left (by decide)), fun h => F.f6 (h.resolve_left (by decide)), fun h => F.f7 (h.resolve_left (by decide)), fun h => F.f8 (h.resolve_left (by decide)), fun h => F.f9 (h.resolve_left (by decide)), fun h => F.f10 (h.resolve_left (by decide)), fun h => F.f11 (h.resolve_left (by decide)), fun h => F.f12 (h.resolve_left (by decide))⟩⟩
      refine StepsFrom.cons rfl (fun L a w' hI hno hdep hcl K hK => ?_) ?_
      · obtain ⟨v3, v4, v5, v26, v27, v28, v29, v30, v31, v32, v33, v34, ha, F⟩ := hI
        subst ha
        simp only [Act.put, List.setIfInBounds_toArray, List.set_cons_zero, List.set_cons_succ]
        go_simp
        exact hK.out _ _ ⟨v3, v4, v5, v26, _, v28, v29, v30, v31, v32, v33, v34, by simp only [Act.put, List.setIfInBounds_toArray, List.set_cons_zero, List.set_cons_succ], ⟨fun h => F.D (fun x => h (Or.inr x)), F.K, fun h => F.z2 (fun x => h (Or.inr x)), F.hg, fun h => F.f0 (h.resolve_left (by decide)), fun _ => rfl, fun h => F.f2 (h.resolve_left (by decide)), fun h => F.f3 (h.resolve_left (by decide)), fun h => F.f4 (h.resolve_left (by decide)), fun h => F.f5 (h.resolve_left (by decide)), fun h => F.f6 (h.resolve_left (by decide)), fun h => F.f7 (h.resolve_left (by decide)), fun h => F.f8 (h.resolve_left (by decide)), fun h => F.f9 (h.resolve_left (by decide)), fun h => F.f10 (h.resolve_left (by decide)), fun h => F.f11 (h.resolve_left (by decide)), fun h => F.f12 (h.resolve_left (by decide))⟩⟩
      refine StepsFrom.cons rfl (fun L a w' hI hno hdep hcl K hK => ?_) ?_
      · obtain ⟨v3, v4, v5, v26, v27, v28, v29, v30, v31, v32, v33, v34, ha, F⟩ := hI
        have e27 := F.f1 (hdep 1 (by kernel_rfl))
        have n9 : ¬ L 9 := fun x => hno (hcl 9 2 (by kernel_rfl) x)
        have hD0 := F.D n9
        have hgg := F.hg
        subst ha
        simp only [Act.put, List.setIfInBounds_toArray, List.set_cons_zero, List.set_cons_succ, e27]
        go_simp
        refine (next' hD0 2 (by decide)).mono ?_
        rintro e w2 ⟨⟨t, rfl, t0, t1, -⟩, hD, hg, -⟩
        have t1 := t1 (by decide)
        exact hK.out _ _ ⟨v3, v4, v5, v26, v27, _, v29, v30, v31, v32, v33, v34, by simp only [Act.put, List.setIfInBounds_toArray, List.set_cons_zero, List.set_cons_succ, e27], ⟨fun _ => hD, F.K.grown hg hgg, fun h => (F.z2 (fun x => h (Or.inr x))).grown hg (fun k hk => by simp at hk; omega), F.hg, fun h => F.f0 (h.resolve_left (by decide)), fun h => F.f1 (h.resolve_left (by decide)), fun _ => ⟨t, rfl, t0, t1⟩, fun h => F.f3 (h.resolve_left (by decide)), fun h => F.f4 (h.resolve_left (by decide)), fun h => F.f5 (h.resolve_left (by decide)), fun h => F.f6 (h.resolve_left (by decide)), fun h => F.f7 (h.resolve_left (by decide)), fun h => F.f8 (h.resolve_left (by decide)), fun h => absurd (hcl 9 2 (by kernel_rfl) (h.resolve_left (by decide))) hno, fun h => F.f10 (h.resolve_left (by decide)), fun h => F.f11 (h.resolve_left (by decide)), fun h => F.f12 (h.resolve_left (by decide))⟩⟩
      refine StepsFrom.cons rfl (fun L a w' hI hno hdep hcl K hK => ?_) ?_
      · obtain ⟨v3, v4, v5, v26, v27, v28, v29, v30, v31, v32, v33, v34, ha, F⟩ := hI
        subst ha
        simp only [Act.put, List.setIfInBounds_toArray, List.set_cons_zero, List.set_cons_succ]
        go_simp
        exact hK.out _ _ ⟨v3, v4, v5, v26, v27, v28, _, v30, v31, v32, v33, v34, by simp only [Act.put, List.setIfInBounds_toArray, List.set_cons_zero, List.set_cons_succ], ⟨fun h => F.D (fun x => h (Or.inr x)), F.K, fun h => F.z2 (fun x => h (Or.inr x)), F.hg, fun h => F.f0 (h.resolve_left (by decide)), fun h => F.f1 (h.resolve_left (by decide)), fun h => F.f2 (h.resolve_left (by decide)), fun _ => rfl, fun h => F.f4 (h.resolve_left (by decide)), fun h => F.f5 (h.resolve_left (by decide)), fun h => F.f6 (h.resolve_left (by decide)), fun h => F.f7 (h.resolve_left (by decide)), fun h => F.f8 (h.resolve_left (by decide)), fun h => F.f9 (h.resolve_left (by decide)), fun h => F.f10 (h.resolve_left (by decide)), fun h => F.f11 (h.resolve_left (by decide)), fun h => F.f12 (h.resolve_left (by decide))⟩⟩
      refine StepsFrom.cons rfl (fun L a w' hI hno hdep hcl K hK => ?_) ?_
      · obtain ⟨v3, v4, v5, v26, v27, v28, v29, v30, v31, v32, v33, v34, ha, F⟩ := hI
        have e29 := F.f3 (hdep 3 (by kernel_rfl))
        have n9 : ¬ L 9 := fun x => hno (hcl 9 4 (by kernel_rfl) x)
        have hD0 := F.D n9
        have hgg := F.hg
        subst ha
        simp only [Act.put, List.setIfInBounds_toArray, List.set_cons_zero, List.set_cons_succ, e29]
        go_simp
        refine (next' hD0 24 (by decide)).mono ?_
        rintro e w2 ⟨⟨t, rfl, t0, t1, -⟩, hD, hg, -⟩
        have t1 := t1 (by decide)
        exact hK.out _ _ ⟨v3, v4, v5, v26, v27, v28, v29, _, v31, v32, v33, v34, by simp only [Act.put, List.setIfInBounds_toArray, List.set_cons_zero, List.set_cons_succ, e29], ⟨fun _ => hD, F.K.grown hg hgg, fun h => (F.z2 (fun x => h (Or.inr x))).grown hg (fun k hk => by simp at hk; omega), F.hg, fun h => F.f0 (h.resolve_left (by decide)), fun h => F.f1 (h.resolve_left (by decide)), fun h => F.f2 (h.resolve_left (by decide)), fun h => F.f3 (h.resolve_left (by decide)), fun _ => ⟨t, rfl, t0, t1⟩, fun h => F.f5 (h.resolve_left (by decide)), fun h => F.f6 (h.resolve_left (by decide)), fun h => F.f7 (h.resolve_left (by decide)), fun h => F.f8 (h.resolve_left (by decide)), fun h => absurd (hcl 9 4 (by kernel_rfl) (h.resolve_left (by decide))) hno, fun h => F.f10 (h.resolve_left (by decide)), fun h => F.f11 (h.resolve_left (by decide)), fun h => F.f12 (h.resolve_left (by decide))⟩⟩
      refine StepsFrom.cons rfl (fun L a w' hI hno hdep hcl K hK => ?_) ?_
      · obtain ⟨v3, v4, v5, v26, v27, v28, v29, v30, v31, v32, v33, v34, ha, F⟩ := hI
        obtain ⟨t, e30, t0, t1⟩ := F.f4 (hdep 4 (by kernel_rfl))
        have ht : Int.tdiv t 23 = t / 23 := by rw [Int.tdiv_eq_ediv_of_nonneg t0]
        subst ha
        simp only [Act.put, List.setIfInBounds_toArray, List.set_cons_zero, List.set_cons_succ, e30]
        go_simp
        exact hK.out _ _ ⟨v3, v4, v5, v26, v27, v28, v29, v30, .int .i64 (IntKind.i64.wrap (t / 23)), v32, v33, v34, by simp only [Act.put, List.setIfInBounds_toArray, List.set_cons_zero, List.set_cons_succ, e30], ⟨fun h => F.D (fun x => h (Or.inr x)), F.K, fun h => F.z2 (fun x => h (Or.inr x)), F.hg, fun h => F.f0 (h.resolve_left (by decide)), fun h => F.f1 (h.resolve_left (by decide)), fun h => F.f2 (h.resolve_left (by decide)), fun h => F.f3 (h.resolve_left (by decide)), fun h => F.f4 (h.resolve_left (by decide)), fun _ => ⟨_, rfl⟩, fun h => F.f6 (h.resolve_left (by decide)), fun h => F.f7 (h.resolve_left (by decide)), fun h => F.f8 (h.resolve_left (by decide)), fun h => F.f9 (h.resolve_left (by decide)), fun h => F.f10 (h.resolve_left (by decide)), fun h => F.f11 (h.resolve_left (by decide)), fun h => F.f12 (h.resolve_left (by decide))⟩⟩
      refine StepsFrom.cons rfl (fun L a w' hI hno hdep hcl K hK => ?_) ?_
      · obtain ⟨v3, v4, v5, v26, v27, v28, v29, v30, v31, v32, v33, v34, ha, F⟩ := hI
        obtain ⟨s, e28, s0, s1⟩ := F.f2 (hdep 2 (by kernel_rfl))
        obtain ⟨t, e31⟩ := F.f5 (hdep 5 (by kernel_rfl))
        subst ha
        simp only [Act.put, List.setIfInBounds_toArray, List.set_cons_zero, List.set_cons_succ, e28, e31]
        go_simp
        exact hK.out _ _ ⟨v3, v4, v5, v26, v27, v28, v29, v30, v31, .int .i64 (IntKind.i64.wrap (s + t)), v33, v34, by simp only [Act.put, List.setIfInBounds_toArray, List.set_cons_zero, List.set_cons_succ, e28, e31], ⟨fun h => F.D (fun x => h (Or.inr x)), F.K, fun h => F.z2 (fun x => h (Or.inr x)), F.hg, fun h => F.f0 (h.resolve_left (by decide)), fun h => F.f1 (h.resolve_left (by decide)), fun h => F.f2 (h.resolve_left (by decide)), fun h => F.f3 (h.resolve_left (by decide)), fun h => F.f4 (h.resolve_left (by decide)), fun h => F.f5 (h.resolve_left (by decide)), fun _ => ⟨_, rfl⟩, fun h => F.f7 (h.resolve_left (by decide)), fun h => F.f8 (h.resolve_left (by decide)), fun h => F.f9 (h.resolve_left (by decide)), fun h => F.f10 (h.resolve_left (by decide)), fun h => F.f11 (h.resolve_left (by decide)), fun h => F.f12 (h.resolve_left (by decide))⟩⟩
      refine StepsFrom.cons rfl (fun L a w' hI hno hdep hcl K hK => ?_) ?_
      · obtain ⟨v3, v4, v5, v26, v27, v28, v29, v30, v31, v32, v33, v34, ha, F⟩ := hI
        subst ha
        simp only [Act.put, List.setIfInBounds_toArray, List.set_cons_zero, List.set_cons_succ]
        go_simp
        exact hK.out _ _ ⟨v3, v4, v5, v26, v27, v28, v29, v30, v31, v32, _, v34, by simp only [Act.put, List.setIfInBounds_toArray, List.set_cons_zero, List.set_cons_succ], ⟨fun h => F.D (fun x => h (Or.inr x)), F.K, fun h => F.z2 (fun x => h (Or.inr x)), F.hg, fun h => F.f0 (h.resolve_left (by decide)), fun h => F.f1 (h.resolve_left (by decide)), fun h => F.f2 (h.resolve_left (by decide)), fun h => F.f3 (h.resolve_left (by decide)), fun h => F.f4 (h.resolve_left (by decide)), fun h => F.f5 (h.resolve_left (by decide)), fun h => F.f6 (h.resolve_left (by decide)), fun _ => rfl, fun h => F.f8 (h.resolve_left (by decide)), fun h => F.f9 (h.resolve_left (by decide)), fun h => F.f10 (h.resolve_left (by decide)), fun h => F.f11 (h.resolve_left (by decide)), fun h => F.f12 (h.resolve_left (by decide))⟩⟩
      refine StepsFrom.cons rfl (fun L a w' hI hno hdep hcl K hK => ?_) ?_
      · obtain ⟨v3, v4, v5, v26, v27, v28, v29, v30, v31, v32, v33, v34, ha, F⟩ := hI
        subst ha
        simp only [Act.put, List.setIfInBounds_toArray, List.set_cons_zero, List.set_cons_succ]
        go_simp
        exact hK.out _ _ ⟨v3, v4, v5, v26, v27, v28, v29, v30, v31, v32, v33, _, by simp only [Act.put, List.setIfInBounds_toArray, List.set_cons_zero, List.set_cons_succ], ⟨fun h => F.D (fun x => h (Or.inr x)), F.K, fun h => F.z2 (fun x => h (Or.inr x)), F.hg, fun h => F.f0 (h.resolve_left (by decide)), fun h => F.f1 (h.resolve_left (by decide)), fun h => F.f2 (h.resolve_left (by decide)), fun h => F.f3 (h.resolve_left (by decide)), fun h => F.f4 (h.resolve_left (by decide)), fun h => F.f5 (h.resolve_left (by decide)), fun h => F.f6 (h.resolve_left (by decide)), fun h => F.f7 (h.resolve_left (by decide)), fun _ => rfl, fun h => F.f9 (h.resolve_left (by decide)), fun h => F.f10 (h.resolve_left (by decide)), fun h => F.f11 (h.resolve_left (by decide)), fun h => F.f12 (h.resolve_left (by decide))⟩⟩
      refine StepsFrom.cons rfl (fun L a w' hI hno hdep hcl K hK => ?_) ?_
      · obtain ⟨v3, v4, v5, v26, v27, v28, v29, v30, v31, v32, v33, v34, ha, F⟩ := hI
        have e26 := F.f0 (hdep 0 (by kernel_rfl))
        have hz := F.z2 hno
        obtain ⟨c0, c1, c2⟩ := hz.c3
        have hf := hz.frozen
        have hl := hz.lt
        subst ha
        simp only [Act.put, List.setIfInBounds_toArray, List.set_cons_zero, List.set_cons_succ, e26]
        go_simp
        exact hK.out _ _ ⟨v3, v4, v5, v26, v27, v28, v29, v30, v31, v32, v33, v34, by simp only [Act.put, List.setIfInBounds_toArray, List.set_cons_zero, List.set_cons_succ, e26], ⟨fun h => absurd (Or.inl rfl) h, F.K.s3 _ _ _, fun h => absurd (Or.inl rfl) h, F.hg, fun h => F.f0 (h.resolve_left (by decide)), fun h => F.f1 (h.resolve_left (by decide)), fun h => F.f2 (h.resolve_left (by decide)), fun h => F.f3 (h.resolve_left (by decide)), fun h => F.f4 (h.resolve_left (by decide)), fun h => F.f5 (h.resolve_left (by decide)), fun h => F.f6 (h.resolve_left (by decide)), fun h => F.f7 (h.resolve_left (by decide)), fun h => F.f8 (h.resolve_left (by decide)), fun _ => three hz _ _ _, fun h => F.f10 (h.resolve_left (by decide)), fun h => F.f11 (h.resolve_left (by decide)), fun h => F.f12 (h.resolve_left (by decide))⟩⟩
      refine StepsFrom.cons rfl (fun L a w' hI hno hdep hcl K hK => ?_) ?_
      · obtain ⟨v3, v4, v5, v26, v27, v28, v29, v30, v31, v32, v33, v34, ha, F⟩ := hI
        obtain ⟨t, e32⟩ := F.f6 (hdep 6 (by kernel_rfl))
        subst ha
        simp only [Act.put, List.setIfInBounds_toArray, List.set_cons_zero, List.set_cons_succ, e32]
        go_simp
        exact hK.out _ _ ⟨.int .i64 t, v4, v5, v26, v27, v28, v29, v30, v31, v32, v33, v34, by simp only [Act.put, List.setIfInBounds_toArray, List.set_cons_zero, List.set_cons_succ, e32], ⟨fun h => F.D (fun x => h (Or.inr x)), F.K, fun h => F.z2 (fun x => h (Or.inr x)), F.hg, fun h => F.f0 (h.resolve_left (by decide)), fun h => F.f1 (h.resolve_left (by decide)), fun h => F.f2 (h.resolve_left (by decide)), fun h => F.f3 (h.resolve_left (by decide)), fun h => F.f4 (h.resolve_left (by decide)), fun h => F.f5 (h.resolve_left (by decide)), fun h => F.f6 (h.resolve_left (by decide)), fun h => F.f7 (h.resolve_left (by decide)), fun h => F.f8 (h.resolve_left (by decide)), fun h => F.f9 (h.resolve_left (by decide)), fun _ => ⟨_, rfl⟩, fun h => F.f11 (h.resolve_left (by decide)), fun h => F.f12 (h.resolve_left (by decide))⟩⟩
      refine StepsFrom.cons rfl (fun L a w' hI hno hdep hcl K hK => ?_) ?_
      · obtain ⟨v3, v4, v5, v26, v27, v28, v29, v30, v31, v32, v33, v34, ha, F⟩ := hI
        have e33 := F.f7 (hdep 7 (by kernel_rfl))
        subst ha
        simp only [Act.put, List.setIfInBounds_toArray, List.set_cons_zero, List.set_cons_succ, e33]
        go_simp
        exact hK.out _ _ ⟨v3, _, v5, v26, v27, v28, v29, v30, v31, v32, v33, v34, by simp only [Act.put, List.setIfInBounds_toArray, List.set_cons_zero, List.set_cons_succ, e33], ⟨fun h => F.D (fun x => h (Or.inr x)), F.K, fun h => F.z2 (fun x => h (Or.inr x)), F.hg, fun h => F.f0 (h.resolve_left (by decide)), fun h => F.f1 (h.resolve_left (by decide)), fun h => F.f2 (h.resolve_left (by decide)), fun h => F.f3 (h.resolve_left (by decide)), fun h => F.f4 (h.resolve_left (by decide)), fun h => F.f5 (h.resolve_left (by decide)), fun h => F.f6 (h.resolve_left (by decide)), fun h => F.f7 (h.resolve_left (by decide)), fun h => F.f8 (h.resolve_left (by decide)), fun h => F.f9 (h.resolve_left (by decide)), fun h => F.f10 (h.resolve_left (by decide)), fun _ => rfl, fun h => F.f12 (h.resolve_left (by decide))⟩⟩
      refine StepsFrom.cons rfl (fun L a w' hI hno hdep hcl K hK => ?_) ?_
      · obtain ⟨v3, v4, v5, v26, v27, v28, v29, v30, v31, v32, v33, v34, ha, F⟩ := hI
        have e34 := F.f8 (hdep 8 (by kernel_rfl))
        subst ha
        simp only [Act.put, List.setIfInBounds_toArray, List.set_cons_zero, List.set_cons_succ, e34]
        go_simp
        exact hK.out _ _ ⟨v3, v4, _, v26, v27, v28, v29, v30, v31, v32, v33, v34, by simp only [Act.put, List.setIfInBounds_toArray, List.set_cons_zero, List.set_cons_succ, e34], ⟨fun h => F.D (fun x => h (Or.inr x)), F.K, fun h => F.z2 (fun x => h (Or.inr x)), F.hg, fun h => F.f0 (h.resolve_left (by decide)), fun h => F.f1 (h.resolve_left (by decide)), fun h => F.f2 (h.resolve_left (by decide)), fun h => F.f3 (h.resolve_left (by decide)), fun h => F.f4 (h.resolve_left (by decide)), fun h => F.f5 (h.resolve_left (by decide)), fun h => F.f6 (h.resolve_left (by decide)), fun h => F.f7 (h.resolve_left (by decide)), fun h => F.f8 (h.resolve_left (by decide)), fun h => F.f9 (h.resolve_left (by decide)), fun h => F.f10 (h.resolve_left (by decide)), fun h => F.f11 (h.resolve_left (by decide)), fun _ => rfl⟩⟩
      exact StepsFrom.nil (by decide)
    case fin =>
      rintro L a' w9 ⟨v3, v4, v5, v26, v27, v28, v29, v30, v31, v32, v33, v34, rfl, F⟩ hL
      obtain ⟨t, e3⟩ := F.f10 (hL 10 (by decide))
      have e4 := F.f11 (hL 11 (by decide))
      have e5 := F.f12 (hL 12 (by decide))
      have R2 := F.f9 (hL 9 (by decide))
      have K9 := F.K
      clear F hL
      subst e3 e4 e5
      simp only [Act.put, List.setIfInBounds_toArray, List.set_cons_zero, List.set_cons_succ]
      obtain ⟨a0, a1, a2⟩ := R2.c3
      go_wp2_with fail
      refine bodyPost_ret (v := .tuple #[.agg #[.int .i64 r, .int .i64 d, .int .i64 b], .int .i64 t, .int .i64 time, .slice Ae evs.length ce]) (by simp [results, Try.results30, go_sem, a0, a1, a2]) rfl ?_
      have hp9 := K9.hp
      exact ⟨_, _, _, t, time, _, _, _, rfl, K9.o.less (by omega), HL.out, K9.bel⟩
end Go.Proofs.Ytdjopnhbcchedaa.DrawX
