/-
  The draw of clock rules and a state for a law. Conditions: each theorem's own.
-/
import Derived.Test.YtdjopnhbcchedaaDrawN
import Derived.Test.YtdjopnhbcchedaaStore
set_option linter.unusedVariables false
namespace Go.Proofs.Ytdjopnhbcchedaa.DrawF
open Go.ChangeShapes Go.WideShapes Go.ChangeAt Go.RowKit Base Base2 Ints Own Draw RegInv DrawK DrawE ClockRun DrawS DrawN Store

set_option maxHeartbeats 4000000 in
theorem flag_ {w : World} {cp : Nat} {A : Option Addr} {xs : List Int} (hr : RdS w w.heap.size 1 enB A xs) (hw : ∀ x ∈ xs, (Lit.int .u8 x).wf = true) :
    Calls Try.prog 36 #[.slice A xs.length cp] w fun e w' => ∃ (r d b : Int) (Al : Option Addr) (c : Nat) (gs : List Int) (tu si us : Int) (ru : Bool) (fa : Int), e = .returned (.tuple #[.agg #[.int .i64 r, .int .i64 d, .int .i64 b], .agg #[.slice Al gs.length c, .int .i64 tu, .int .i64 si, .int .i64 us, .bool ru, .int .i64 fa]]) ∧ OwnS w' w.heap.size w'.heap.size 2 1 enI (.slice Al gs.length c) gs ∧ Below w.heap.size w w' := by
  have hr1 : RdS ((w.alloc (.cells #[.int .i64 0, .int .i64 0, .int .i64 0] 25 )).alloc (.cells #[.slice none 0 0, .int .i64 0, .int .i64 0, .int .i64 0, .bool false, .int .i64 0] 30 )) ((w.alloc (.cells #[.int .i64 0, .int .i64 0, .int .i64 0] 25 )).alloc (.cells #[.slice none 0 0, .int .i64 0, .int .i64 0, .int .i64 0, .bool false, .int .i64 0] 30 )).heap.size 1 enB A xs := (hr.below (by go_grown) (Nat.le_refl _)).more (by simp only [World.size_alloc]; omega)
  go_enter Try.func36, Try.ntmps36
  go_wp2_with fail
  refine (new_ hr1 hw).mono ?_
  rintro e w1 ⟨rfl, h1⟩
  generalize hG : ((w.alloc (.cells #[.int .i64 0, .int .i64 0, .int .i64 0] 25 )).alloc (.cells #[.slice none 0 0, .int .i64 0, .int .i64 0, .int .i64 0, .bool false, .int .i64 0] 30 )).heap.size = G at h1 ⊢
  have hG1 : w.heap.size + 1 < G := by rw [← hG]; simp only [World.size_alloc]; omega
  have hG2 : G ≤ w.heap.size + 2 := by rw [← hG]; simp only [World.size_alloc]; omega
  clear hG
  have r2 : RowB w1 w.heap.size 25 [.int .i64 0, .int .i64 0, .int .i64 0] := ((RowB.new _ _ _).alloc _).below h1.bel (by omega)
  have r3 : RowB w1 (w.heap.size + 1) 30 [.slice none 0 0, .int .i64 0, .int .i64 0, .int .i64 0, .bool false, .int .i64 0] := (RowB.new' _ _ _ (by simp)).below h1.bel (by omega)
  have hz := h1.bel.size
  simp only [World.size_alloc] at hz
  go_wp2_with fail
  refine (any h1).mono ?_
  rintro e w2 ⟨r, d, b, Al, c, gs, tu, si, us, ru, fa, rfl, D, hg, ho⟩
  have r2 := r2.grown hg (fun k hk => by simp at hk; omega)
  have r3 := r3.grown hg (fun k hk => by simp at hk; omega)
  have hb : Below w.heap.size w w2 := by
    have h3 := D.bel
    exact (((Below.refl w.heap.size w).alloc (Nat.le_refl _) _).alloc (by simp) _).trans (h3.mono (by omega))
  have ho : OwnS w2 (w.heap.size + 2) w2.heap.size 2 1 enI (.slice Al gs.length c) gs := ho.less (by omega)
  have hz2 := hb.size
  have l3 := r3.lt
  clear hg D h1 hr1 hr
  go_wp2_with (first | (refine wpL_st 25 _ _ rfl w.heap.size [.int .i64 r, .int .i64 d, .int .i64 b] [.int .i64 0, .int .i64 0, .int .i64 0] rfl rfl 25 r2 (by kernel_rfl) rfl rfl ?_; intro w3 s2 g3 z3) | (refine wpL_st 30 _ _ rfl (w.heap.size + 1) [.slice Al gs.length c, .int .i64 tu, .int .i64 si, .int .i64 us, .bool ru, .int .i64 fa] [.slice none 0 0, .int .i64 0, .int .i64 0, .int .i64 0, .bool false, .int .i64 0] rfl rfl 30 (r3.grown g3 (fun k hk => by simp at hk; omega)) (by kernel_rfl) rfl rfl ?_; intro w4 s3 g4 z4))
  have s2 := s2.grown g4 (fun k hk => by simp at hk; omega)
  have ho := ((ho.grown g3 (fun k hk => by simp at hk; omega)).grown g4 (fun k hk => by simp at hk; omega)).more (show w2.heap.size ≤ w4.heap.size by omega)
  have ho := ho.less (show w.heap.size ≤ w.heap.size + 2 by omega)
  have hb := (hb.grown g3 hz2 (fun k hk => by simp at hk; omega)).grown g4 (by omega) (fun k hk => by simp at hk; omega)
  obtain ⟨c0, c1, c2⟩ := s2.c3
  obtain ⟨d0, d1, d2, d3, d4, d5⟩ := s3.c6
  refine bodyPost_ret (v := .tuple #[.agg #[.int .i64 r, .int .i64 d, .int .i64 b], .agg #[.slice Al gs.length c, .int .i64 tu, .int .i64 si, .int .i64 us, .bool ru, .int .i64 fa]]) (by simp [results, Try.results36, go_sem, c0, c1, c2, d0, d1, d2, d3, d4, d5]) rfl ?_
  exact ⟨_, _, _, _, _, _, _, _, _, _, _, rfl, ho, hb⟩
end Go.Proofs.Ytdjopnhbcchedaa.DrawF
