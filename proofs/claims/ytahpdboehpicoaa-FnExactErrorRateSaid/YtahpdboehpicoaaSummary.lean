/-
  The contracts of the laws' helper functions over a summary (four integers and a slice of integers). Conditions: each theorem's own.
-/
import Derived.Test.YtahpdboehpicoaaInts
namespace Go.Proofs.Ytahpdboehpicoaa.Summ
open Go.ChangeShapes Go.WideShapes Go.ChangeAt Go.RowKit Base Ints

theorem sz (a b c d : Int) (A : Option Addr) (n cp : Nat) (left : Int) (w : World) (hn : n ≤ maxLen) (h0 : 0 ≤ left) (h1 : left ≤ 1048576) :
    Calls Try.prog 18 #[.agg #[.int .i64 a, .int .i64 b, .int .i64 c, .int .i64 d, .slice A n cp], .int .i64 left] w fun e w' => e = .returned (.int .i64 (if left < n then -1 else left - n)) ∧ Below w.heap.size w w' := by
  by_cases h : left < n
  · go_enter Try.func18, Try.ntmps18
    go_wp2_with (go_at_call 34; refine (szI _ _ _ _ _ hn h0 h1).mono ?_; rintro e w' ⟨rfl, rfl⟩)
    go_ret
    exact ⟨rfl, by go_grown⟩
  · go_enter Try.func18, Try.ntmps18
    go_wp2_with (go_at_call 34; refine (szI _ _ _ _ _ hn h0 h1).mono ?_; rintro e w' ⟨rfl, rfl⟩)
    go_ret
    exact ⟨rfl, by go_grown⟩


/-- A summary by value, its grades read as gs. -/
theorem to (a b c d : Int) (A : Option Addr) (cp B : Nat) (gs : List Int) (w : World) (hB : B ≤ w.heap.size) (hn : gs.length ≤ 1048576) (hr : RdS w B 1 enI A gs) :
    Calls Try.prog 20 #[.agg #[.int .i64 a, .int .i64 b, .int .i64 c, .int .i64 d, .slice A gs.length cp]] w fun e w' =>
      ∃ g, e = .returned (.agg #[.int .i64 a, .int .i64 b, .int .i64 c, .int .i64 d, .slice (some ⟨g, 0, none⟩) gs.length gs.length]) ∧ Below w.heap.size w w' ∧ OwnS w' w.heap.size w'.heap.size 2 1 enI (.slice (some ⟨g, 0, none⟩) gs.length gs.length) gs := by
  go_enter Try.func20, Try.ntmps20
  go_wp2_with fail
  refine (toI B A cp gs _ (by simp; omega) hn (hr.below (by go_grown) hB)).mono ?_
  rintro e w1 ⟨rfl, hb1, ho⟩
  obtain ⟨hc, hf⟩ := bcell hb1
  have hz := hb1.size
  simp only [World.size_alloc] at hc hf hz
  go_wp2
  refine bodyPost_ret (v := .agg #[.int .i64 a, .int .i64 b, .int .i64 c, .int .i64 d, .slice (some ⟨w.heap.size + 1 + 1 + 1, 0, none⟩) gs.length gs.length]) (by simp [results, Try.results20, go_sem, hc]) rfl ?_
  have hbw : Below w.heap.size w w1 := Below.then_ (by go_grown) hb1 (by simp; omega)
  refine ⟨_, rfl, by go_grown, ?_⟩
  simp only [World.size_alloc, World.size_setCell] at ho ⊢
  refine OwnS.less (lo := w.heap.size + 1 + 1 + 1) ?_ (by omega)
  repeat (refine OwnS.setCell ?_ (by simp; try omega) _)
  exact ho

/-- Two summaries that read alike are equal. -/
theorem eq (a b c d : Int) (A1 A2 : Option Addr) (c1 c2 B1 B2 : Nat) (gs : List Int) (w : World) (h1 : RdS w B1 1 enI A1 gs) (h2 : RdS w B2 1 enI A2 gs) (hB1 : B1 ≤ w.heap.size) (hB2 : B2 ≤ w.heap.size) :
    Calls Try.prog 22 #[.agg #[.int .i64 a, .int .i64 b, .int .i64 c, .int .i64 d, .slice A1 gs.length c1], .agg #[.int .i64 a, .int .i64 b, .int .i64 c, .int .i64 d, .slice A2 gs.length c2]] w fun e w' =>
      e = .returned (.bool true) ∧ Below w.heap.size w w' := by
  have ea : (a != a) = false := by simp
  have eb : (b != b) = false := by simp
  have ec : (c != c) = false := by simp
  have ed : (d != d) = false := by simp
  go_enter Try.func22, Try.ntmps22
  go_wp2_with (go_at_call 36; refine (eqI B1 B2 A1 A2 c1 c2 gs _ (h1.below (by go_grown) hB1) (h2.below (by go_grown) hB2)).mono ?_; rintro e w' ⟨rfl, m, rfl⟩)
  go_ret
  exact ⟨rfl, below_drewN (by go_grown) _⟩
end Go.Proofs.Ytahpdboehpicoaa.Summ
