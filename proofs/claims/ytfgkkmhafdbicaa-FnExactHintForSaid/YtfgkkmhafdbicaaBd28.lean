/-
  The laws' helper functions over variants, boards and rolls. Conditions: each theorem's own.
-/
import Derived.Test.YtfgkkmhafdbicaaBd7
set_option linter.unusedVariables false
set_option linter.unusedSimpArgs false
namespace Go.Proofs.Ytfgkkmhafdbicaa.Bd28
open Go.ChangeShapes Go.WideShapes Go.ChangeAt Go.RowKit Base Ints Own Clone RelG PlP Bd1 Bd6

theorem toV (v : Vr) (w : World) : Calls Try.prog 8 #[.agg #[.int .i64 v.p, .int .i64 v.c, .int .i64 v.h, .int .i64 v.s]] w fun e w' => e = .returned (.agg #[.int .i64 v.p, .int .i64 v.c, .int .i64 v.h, .int .i64 v.s]) ∧ Below w.heap.size w w' := by
  go_enter Try.func8, Try.ntmps8
  go_wp2
  go_returns
  exact ⟨rfl, by go_grown⟩
theorem toR (x y : Int) (w : World) : Calls Try.prog 10 #[.agg #[.int .i64 x, .int .i64 y]] w fun e w' => e = .returned (.agg #[.int .i64 x, .int .i64 y]) ∧ Below w.heap.size w w' := by
  go_enter Try.func10, Try.ntmps10
  go_wp2
  go_returns
  exact ⟨rfl, by go_grown⟩
theorem szB (A1 A2 : Option Addr) (n1 n2 c1 c2 : Nat) (left : Int) (w : World) (h1 : n1 ≤ maxLen) (h2 : n2 ≤ maxLen) (l0 : 0 ≤ left) (l1 : left ≤ 1048576) :
    Calls Try.prog 6 #[.agg #[.slice A1 n1 c1, .slice A2 n2 c2], .int .i64 left] w fun e w' => (∃ r : Int, e = .returned (.int .i64 r) ∧ (r < 0 ∨ (0 ≤ r ∧ r = left - n1 - n2))) ∧ Below w.heap.size w w' := by
  by_cases k1 : left < n1
  · have K1 := Lib.hid k1
    clear k1
    go_enter Try.func6, Try.ntmps6
    go_wp2_with fail
    refine (szI A1 n1 c1 left _ h1 l0 l1).mono ?_
    rintro e w1 ⟨rfl, rfl⟩
    rw [if_pos K1.out]
    go_wp2_with fail
    go_ret
    exact ⟨⟨_, rfl, .inl (by omega)⟩, by go_grown⟩
  · have k1' : ¬ (left - (n1 : Int) < 0) := by omega
    obtain ⟨l', hl'⟩ : ∃ l, left - (n1 : Int) = l := ⟨_, rfl⟩
    rw [hl'] at k1'
    have HL := Lib.hid hl'
    have K1 := Lib.hid k1
    clear k1
    go_enter Try.func6, Try.ntmps6
    go_wp2_with fail
    refine (szI A1 n1 c1 left _ h1 l0 l1).mono ?_
    rintro e w1 ⟨rfl, rfl⟩
    rw [if_neg (by have := K1.out; omega), hl']
    clear hl'
    go_wp2_with fail
    refine (szI A2 n2 c2 l' _ h2 (by omega) (by have := HL.out; omega)).mono ?_
    rintro e w1 ⟨rfl, rfl⟩
    by_cases k2 : l' < n2
    · rw [if_pos k2]
      go_wp2_with fail
      go_ret
      exact ⟨⟨_, rfl, .inl (by omega)⟩, by go_grown⟩
    · rw [if_neg k2]
      have k2' : ¬ (l' - (n2 : Int) < 0) := by omega
      obtain ⟨l2, hl2⟩ : ∃ l, l' - (n2 : Int) = l := ⟨_, rfl⟩
      rw [hl2] at k2' ⊢
      have HL2 := Lib.hid hl2
      clear hl2
      go_wp2_with fail
      go_ret
      exact ⟨⟨_, rfl, .inr ⟨by omega, by rw [← HL2.out, ← HL.out]⟩⟩, by go_grown⟩
/-- A board copied: two slices of the call's own. -/
theorem toB (l m : List Int) (Ao At : Option Addr) (co ct B : Nat) (w : World) (hB : B ≤ w.heap.size) (ho : RdS w B 1 enI Ao l) (ht : RdS w B 1 enI At m) (hl : l.length ≤ 1048576) (hm : m.length ≤ 1048576) :
    Calls Try.prog 9 #[.agg #[.slice Ao l.length co, .slice At m.length ct]] w fun e w' => BoardR l m w e w' := by
  have C1 := Lib.hid (fun (w9 : World) (h : Below w.heap.size w w9) => toI B Ao co l w9 (Nat.le_trans hB h.size) hl (ho.below h hB))
  have C2 := Lib.hid (fun (w9 : World) (h : Below w.heap.size w w9) => toI B At ct m w9 (Nat.le_trans hB h.size) hm (ht.below h hB))
  obtain ⟨n1, hn1⟩ : ∃ n, l.length = n := ⟨_, rfl⟩
  obtain ⟨n2, hn2⟩ : ∃ n, m.length = n := ⟨_, rfl⟩
  rw [hn1] at C1 ⊢
  rw [hn2] at C2 ⊢
  have HN1 := Lib.hid hn1
  have HN2 := Lib.hid hn2
  clear ho ht hl hm hn1 hn2
  go_enter Try.func9, Try.ntmps9
  go_upto_region 2 with (fail)
  refine wp_gen (fun W' => Below w.heap.size w W' ∧ RowB W' w.heap.size 26 [.slice Ao n1 co, .slice At n2 ct] ∧ RowB W' (w.heap.size + 1) 34 [.slice none 0 0, .slice none 0 0] ∧ RowB W' (w.heap.size + 2) 34 [.slice none 0 0, .slice none 0 0]) ⟨by go_grown, ((RowB.new _ _ _).alloc _).alloc _, RowB.alloc (RowB.new' _ _ _ (by simp)) _, RowB.new' _ _ _ (by simp)⟩ ?_
  rintro w1 ⟨hb1, ra, rr, ro⟩
  obtain ⟨p0, p1⟩ := ra.c2
  have hl1 := ra.lt
  have hl3 := ro.lt
  go_wp2_with fail
  refine (C1.out w1 hb1).mono ?_
  rintro e w2 ⟨rfl, hb2, o1⟩
  have ra := ra.below hb2 ra.lt
  have rr := rr.below hb2 rr.lt
  have ro := ro.below hb2 ro.lt
  have hb1 := hb1.trans (hb2.mono hb1.size)
  have hs2 := hb2.size
  have hl3 := ro.lt
  have hf := ro.frozen
  obtain ⟨r0, r1⟩ := ro.c2
  obtain ⟨g1, hg1⟩ : ∃ g, w1.heap.size = g := ⟨_, rfl⟩
  rw [hg1] at o1 hs2 ⊢
  have h3g : w.heap.size + 3 ≤ g1 := by omega
  clear p0 p1 hb2 hl1 hg1
  go_upto_region 3 with (fail)
  refine wp_gen (fun W' => Below w.heap.size w W' ∧ RowB W' w.heap.size 26 [.slice Ao n1 co, .slice At n2 ct] ∧ RowB W' (w.heap.size + 1) 34 [.slice none 0 0, .slice none 0 0] ∧ RowB W' (w.heap.size + 2) 34 [.slice (some ⟨g1, 0, none⟩) n1 n1, .slice none 0 0] ∧ OwnS W' g1 W'.heap.size 2 1 enI (.slice (some ⟨g1, 0, none⟩) n1 n1) l) ⟨?_, ?_, ?_, ?_, ?_⟩ ?_
  · exact hb1.setCell (p := ⟨w.heap.size + 2, 0, none⟩) (by show _ ≤ w.heap.size + 2; omega) _
  · exact ra.other (p := ⟨w.heap.size + 2, 0, none⟩) (by show _ ≠ w.heap.size + 2; omega) _
  · exact rr.other (p := ⟨w.heap.size + 2, 0, none⟩) (by show _ ≠ w.heap.size + 2; omega) _
  · exact ro.set 0 _
  · rw [World.size_setCell]; exact o1.setCell (p := ⟨w.heap.size + 2, 0, none⟩) (by show w.heap.size + 2 < g1; omega) _
  rintro w3 ⟨hb3, ra, rr, ro, o1⟩
  clear r0 r1 hf hl3 hb1 hs2
  obtain ⟨p0, p1⟩ := ra.c2
  have hl1 := ra.lt
  have hl3 := ro.lt
  have hg3 := (o1.block g1 rfl).2
  go_wp2_with fail
  refine (C2.out w3 hb3).mono ?_
  rintro e w4 ⟨rfl, hb4, o2⟩
  have rr := rr.below hb4 rr.lt
  have ro := ro.below hb4 ro.lt
  have hb3 := hb3.trans (hb4.mono hb3.size)
  have o1 := (o1.below hb4 (Nat.le_refl _)).more hb4.size
  have hs4 := hb4.size
  obtain ⟨g2, hg2⟩ : ∃ g, w3.heap.size = g := ⟨_, rfl⟩
  rw [hg2] at o2 hs4 hg3 ⊢
  have hl3 := ro.lt
  have hf := ro.frozen
  obtain ⟨r0, r1⟩ := ro.c2
  clear p0 p1 hb4 hl1 hg2 ra
  go_upto_region 4 with (fail)
  refine wp_gen (fun W' => Below w.heap.size w W' ∧ RowB W' (w.heap.size + 1) 34 [.slice none 0 0, .slice none 0 0] ∧ RowB W' (w.heap.size + 2) 34 [.slice (some ⟨g1, 0, none⟩) n1 n1, .slice (some ⟨g2, 0, none⟩) n2 n2] ∧ OwnS W' (w.heap.size + 3) W'.heap.size 2 1 enI (.slice (some ⟨g1, 0, none⟩) n1 n1) l ∧ OwnS W' (w.heap.size + 3) W'.heap.size 2 1 enI (.slice (some ⟨g2, 0, none⟩) n2 n2) m) ⟨?_, ?_, ?_, ?_, ?_⟩ ?_
  · exact hb3.setCell (p := ⟨w.heap.size + 2, 1, none⟩) (by show _ ≤ w.heap.size + 2; omega) _
  · exact rr.other (p := ⟨w.heap.size + 2, 1, none⟩) (by show _ ≠ w.heap.size + 2; omega) _
  · exact ro.set 1 _
  · rw [World.size_setCell]; exact ((o1.less h3g).setCell (p := ⟨w.heap.size + 2, 1, none⟩) (by show w.heap.size + 2 < w.heap.size + 3; omega) _)
  · rw [World.size_setCell]; exact ((o2.less (by omega)).setCell (p := ⟨w.heap.size + 2, 1, none⟩) (by show w.heap.size + 2 < w.heap.size + 3; omega) _)
  rintro w5 ⟨hb5, rr, ro, o1, o2⟩
  clear r0 r1 hf hl3 hb3 hs4
  obtain ⟨r0, r1⟩ := ro.c2
  have hl3 := ro.lt
  obtain ⟨y0, y1⟩ := rr.c2
  have hf := rr.frozen
  have hl2 := rr.lt
  go_wp2_with fail
  refine bp_gen (fun W' => Below w.heap.size w W' ∧ RowB W' (w.heap.size + 1) 34 [.slice (some ⟨g1, 0, none⟩) n1 n1, .slice (some ⟨g2, 0, none⟩) n2 n2] ∧ OwnS W' w.heap.size W'.heap.size 2 1 enI (.slice (some ⟨g1, 0, none⟩) n1 n1) l ∧ OwnS W' w.heap.size W'.heap.size 2 1 enI (.slice (some ⟨g2, 0, none⟩) n2 n2) m) ⟨below_two hb5 (by omega) _ _, two_ rr _ _, ?_, ?_⟩ ?_
  · simp only [World.size_setCell]; exact (own2 o1 (g := w.heap.size + 1) (by omega) _ _).less (by omega)
  · simp only [World.size_setCell]; exact (own2 o2 (g := w.heap.size + 1) (by omega) _ _).less (by omega)
  rintro W' ⟨hbW, rr, o1, o2⟩
  obtain ⟨z0, z1⟩ := rr.c2
  refine bodyPost_ret (v := .agg #[.slice (some ⟨g1, 0, none⟩) n1 n1, .slice (some ⟨g2, 0, none⟩) n2 n2]) (by simp [results, Try.results9, go_sem, z0, z1]) rfl ?_
  rw [← HN1.out] at o1 ⊢
  rw [← HN2.out] at o2 ⊢
  exact ⟨_, _, _, _, rfl, o1, o2, fun g h h2 => by simp [Value.ownBlock] at h h2; omega, hbW⟩
theorem eqB (l m : List Int) (n1 n2 : Nat) (A1 A2 A3 A4 : Option Addr) (c1 c2 c3 c4 : Nat) (w : World) (hn1 : l.length = n1) (hn2 : m.length = n2) (h1 : RdS w w.heap.size 1 enI A1 l) (h2 : RdS w w.heap.size 1 enI A2 m) (h3 : RdS w w.heap.size 1 enI A3 l) (h4 : RdS w w.heap.size 1 enI A4 m) :
    Calls Try.prog 12 #[.agg #[.slice A1 n1 c1, .slice A2 n2 c2], .agg #[.slice A3 n1 c3, .slice A4 n2 c4]] w fun e w' => e = .returned (.bool true) ∧ Below w.heap.size w w' := by
  have C1 := Lib.hid (fun (w9 : World) (h : Below w.heap.size w w9) => eqI_b w.heap.size w.heap.size A1 A3 c1 c3 l w9 (h1.below h (Nat.le_refl _)) (h3.below h (Nat.le_refl _)))
  have C2 := Lib.hid (fun (w9 : World) (h : Below w.heap.size w w9) => eqI_b w.heap.size w.heap.size A2 A4 c2 c4 m w9 (h2.below h (Nat.le_refl _)) (h4.below h (Nat.le_refl _)))
  rw [hn1] at C1
  rw [hn2] at C2
  clear h1 h2 h3 h4 hn1 hn2
  go_enter Try.func12, Try.ntmps12
  go_upto_region 1 with (fail)
  refine wp_gen (fun W' => Below w.heap.size w W' ∧ RowB W' w.heap.size 34 [.slice A1 n1 c1, .slice A2 n2 c2] ∧ RowB W' (w.heap.size + 1) 34 [.slice A3 n1 c3, .slice A4 n2 c4]) ⟨by go_grown, (RowB.new _ _ _).alloc _, RowB.new' _ _ _ (by simp)⟩ ?_
  rintro w1 ⟨hb1, ra, rb⟩
  obtain ⟨p0, p1⟩ := ra.c2
  obtain ⟨r0, r1⟩ := rb.c2
  have hl1 := ra.lt
  have hl2 := rb.lt
  go_wp2_with fail
  refine (C1.out w1 hb1).mono ?_
  rintro e w2 ⟨rfl, hb2⟩
  have ra := ra.below hb2 ra.lt
  have rb := rb.below hb2 rb.lt
  have hb1 := hb1.trans (hb2.mono hb1.size)
  clear p0 p1 r0 r1 hl1 hl2 hb2
  obtain ⟨p0, p1⟩ := ra.c2
  obtain ⟨r0, r1⟩ := rb.c2
  have hl1 := ra.lt
  have hl2 := rb.lt
  go_wp2_with fail
  refine (C2.out w2 hb1).mono ?_
  rintro e w3 ⟨rfl, hb3⟩
  have hb1 := hb1.trans (hb3.mono hb1.size)
  go_wp2_with fail
  go_ret
  exact ⟨rfl, hb1⟩
end Go.Proofs.Ytfgkkmhafdbicaa.Bd28
