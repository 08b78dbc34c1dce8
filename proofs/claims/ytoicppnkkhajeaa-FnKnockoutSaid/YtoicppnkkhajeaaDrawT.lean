/-
  The draw of a tournament. Conditions: each theorem's own.
-/
import Derived.Test.YtoicppnkkhajeaaDraw
import Derived.Test.YtoicppnkkhajeaaClone
import Derived.Deep.RegionHeld3
set_option linter.unusedVariables false
namespace Go.Proofs.Ytoicppnkkhajeaa.DrawT
open Go.ChangeShapes Go.WideShapes Go.ChangeAt Go.RowKit Base Ints Own Draw
variable {w0 w w' : World} {B g cp : Nat} {A : Option Addr} {xs : List Int}

theorem grown_below {a b c : World} {row : Option Nat} (h : a.grownBy b row) (k : Below b.heap.size b c) : a.grownBy c row :=
  ⟨k.os.trans h.os, k.tape.trans h.tape, k.output.trans h.output, Nat.le_trans h.size k.size, fun i hi hr => (k.block i (Nat.lt_of_lt_of_le hi h.size)).trans (h.block i hi hr)⟩
theorem own_none {w : World} {lo hi n c : Nat} {e : TypeId} {A : Option Addr} {xs : List Int} (h : OwnS w lo hi e 1 enI (.slice A n c) xs) (hA : A = none) : c = 0 := by
  subst hA
  rcases h.cases_ with ⟨he, _⟩ | ⟨g, cap, rest, he, _⟩
  · simp at he; exact he.2
  · simp at he
theorem grown_own {a b c : World} {row row' : Option Nat} (h : a.grownBy b row) (k : b.grownBy c row') (hk : ∀ i, row' = some i → a.heap.size ≤ i) : a.grownBy c row :=
  ⟨k.os.trans h.os, k.tape.trans h.tape, k.output.trans h.output, Nat.le_trans h.size k.size, fun i hi hr => (k.block i (Nat.lt_of_lt_of_le hi h.size) (fun e => by have := hk i e.symm; omega)).trans (h.block i hi hr)⟩

set_option maxHeartbeats 8000000 in
set_option maxRecDepth 100000 in
theorem l32 (h : Dr w0 B g A cp xs w) :
    Calls Try.prog 61 #[.pointer (some ⟨g, 0, none⟩)] w fun e w' => (∃ (s : Int) (v : Value) (R : List Int), e = .returned (.agg #[.int .i64 s, v]) ∧ OwnS w' w.heap.size w'.heap.size 2 1 enI v R ∧ -2 ≤ s ∧ s ≤ 64 ∧ R.length ≤ 70) ∧ Dr w0 B g A cp xs w' ∧ w.grownBy w' (some g) := by
  obtain ⟨i0, hi0, hz0, hz1, hz2⟩ := info_parts Ints.info
  have hlt := h.lt
  have hbg := h.base
  go_enter Try.func61, Try.ntmps61
  go_wp2_with fail
  refine (next' (h.alloc _) 5 (by decide)).mono ?_
  rintro e w1 ⟨⟨x, rfl, x0, x1, -⟩, h1, hg1, -⟩
  have x1 := x1 (by decide)
  have rr : RowB w1 w.heap.size 31 [.int .i64 0, .slice none 0 0] := (RowB.new _ _ _).grown hg1 (fun k hk => by simp at hk; omega)
  have g1 : w.grownBy w1 (some g) := grownBy_trans (World.grownBy_alloc _ _ _) hg1
  have hl1 := h1.lt
  have hr1 := rr.lt
  clear hg1
  have hs : 2 ≤ wrap64 (2 * 2 ^ x.toNat) ∧ wrap64 (2 * 2 ^ x.toNat) ≤ 32 := by
    obtain rfl | rfl | rfl | rfl | rfl : x = 0 ∨ x = 1 ∨ x = 2 ∨ x = 3 ∨ x = 4 := by omega
    all_goals decide +kernel
  go_wp2_with fail
  generalize wrap64 (2 * 2 ^ x.toNat) = s at *
  refine (next' (h1.alloc _) s (by omega)).mono ?_
  rintro e w2 ⟨⟨k, rfl, k0, k1, -⟩, h2, hg2, -⟩
  have k1 := k1 (by omega)
  have rr := (rr.alloc _).grown hg2 (fun k hk => by simp at hk; omega)
  have r3 : RowB w2 w1.heap.size 31 [.int .i64 s, .slice none 0 0] := (RowB.new _ _ _).grown hg2 (fun k hk => by simp at hk; omega)
  have g2 := grownBy_trans (grownBy_trans g1 (World.grownBy_alloc _ _ _)) hg2
  have hz2' : w1.heap.size + 1 ≤ w2.heap.size := by have := hg2.size; simpa using this
  obtain ⟨m, rfl⟩ : ∃ m : Nat, k = m := ⟨k.toNat, by omega⟩
  clear hg2 h1 g1
  go_wp2_with fail
  go_loopw [4] (fun i wr => ∃ j : Nat, j ≤ m ∧ i = .int .i64 j ∧ (∃ (v : Value) (R : List Int), RowB wr w1.heap.size 31 [.int .i64 s, v] ∧ OwnS wr (w1.heap.size + 1) wr.heap.size 2 1 enI v R ∧ R.length + j ≤ 32) ∧ RowB wr w.heap.size 31 [.int .i64 0, .slice none 0 0] ∧ Dr w0 B g A cp xs wr ∧ w.grownBy wr (some g)) (fun i _ => (intOf i).toNat)
  case atStart => exact ⟨m, Nat.le_refl _, rfl, ⟨_, [], r3, OwnS.nil_ _ _ _ _ _ _, by simp; omega⟩, rr, h2, g2⟩
  case round =>
    clear r3 rr h2 g2
    obtain ⟨j, hj, rfl, ⟨v, R, r3, hv, hR⟩, rr, hD, gw⟩ := hrel
    have hzr := gw.size
    have hl3 := r3.lt
    obtain ⟨c0, c1⟩ := r3.c2
    have f3 := r3.frozen
    by_cases h0 : 0 < j
    · obtain ⟨j, rfl⟩ : ∃ i, j = i + 1 := ⟨j - 1, by omega⟩
      rcases hv.cases_ with ⟨rfl, rfl⟩ | ⟨gv, capv, rest, rfl, hv1, hv2, hv3, hv4, hv5, hv6⟩
      · clear hv
        go_wp2_with (at_builtin; refine wpList_append_own_none rfl _ _ _ rfl (w1.heap.size + 1) 2 i0 1 Try.underlying22 hi0 _ 0 [] rfl ((RowB.new wr 2 []).own (xs := ([] : List Int)) (en := enI) (lo := (w1.heap.size + 1)) (hi := (World.alloc wr (.cells #[] 2)).heap.size) enI_len (by omega) (by simp) (by decide) : OwnS _ (w1.heap.size + 1) _ 2 1 enI _ []).1 rfl ?_)
        have ownX := ((RowB.new wr 2 []).own (xs := ([] : List Int)) (en := enI) (lo := (w1.heap.size + 1)) (hi := (World.alloc wr (.cells #[] 2)).heap.size) enI_len (by omega) (by simp) (by decide) : OwnS _ (w1.heap.size + 1) _ 2 1 enI _ [])
        have rrX := rr.alloc (.cells #[] 2)
        have r3X := r3.alloc (.cells #[] 2)
        have DX := hD.alloc (.cells #[] 2)
        have gX := grownBy_trans gw (World.grownBy_alloc _ (.cells #[] 2) _)
        go_wp2_with fail
        have hDl := DX.lt
        refine (next' DX 2 (by decide)).mono ?_
        rintro e w5 ⟨⟨y, rfl, y0, y1, -⟩, D5, hg5, -⟩
        have own5 := OwnS.grown ownX hg5 (fun k hk => by simp at hk; omega)
        have own5 := own5.more (hi' := w5.heap.size) hg5.size
        have rr5 := RowB.grown rrX hg5 (fun k hk => by simp at hk; omega)
        have r35 := RowB.grown r3X hg5 (fun k hk => by simp at hk; omega)
        have g5 := grownBy_trans gX hg5
        clear ownX rrX r3X DX gX hg5
        have hl5 := RowB.lt r35
        go_wp2_with (at_builtin; refine wpL_app rfl _ _ _ rfl (w1.heap.size + 1) _ 2 i0 (.int .i64 0) 1 8 Try.underlying22 hi0 hz0 hz1 hz2 rfl (by decide) enI_len one_I _ [] [y] rfl (own5.alloc _) ⟨w5.heap.size, 0, none⟩ 1 1 rfl rfl (news_new (RowB.new _ _ _)) (by decide) ?c1 ?c2 ?c3 ?_)
        case c1 => unfold maxLen; (try simp); try omega
        case c2 => (try simp); try omega
        case c3 => go_size
        intro gz capz wz ownz hgrz hatz hltz
        have hbX := own5.block
        have rrz := RowB.grown (rr5.alloc (.cells #[Value.int .i64 y] 2)) hgrz (fun k hk => by have := hbX k hk; omega)
        have r3z := RowB.grown (r35.alloc (.cells #[Value.int .i64 y] 2)) hgrz (fun k hk => by have := hbX k hk; omega)
        have Dz := (D5.alloc (.cells #[Value.int .i64 y] 2)).grown hgrz (fun k hk => by have := hbX k hk; omega) (fun k hk => by have := hbX k hk; omega)
        have gz' := grown_own (grownBy_trans g5 (World.grownBy_alloc _ (.cells #[Value.int .i64 y] 2) _)) hgrz (fun k hk => by have := hbX k hk; omega)
        obtain ⟨z0, z1⟩ := r3z.c2
        have fz := r3z.frozen
        have lz := r3z.lt
        clear hgrz hatz own5 rr5 r35 D5 g5
        go_wp2_with fail
        go_roundw
        case rel => exact ⟨j, by omega, by go_num, ⟨_, _, RowB.set r3z 1 _, (OwnS.setCell ownz (p := ⟨w1.heap.size, 1, none⟩) (by simp) _).more (by rw [World.size_setCell]; exact Nat.le_refl _), by (try simp); omega⟩, RowB.other rrz (by simp; omega) _, Dz.set (by omega) (by omega) _, grown_new gz' (by omega) _⟩
        case measure => simp [intOf] <;> omega
      · have hrdv : RdS wr wr.heap.size 1 enI (some ⟨gv, 0, none⟩) R := hv.rd enI_len
        clear hv hv3
        go_wp2_with (at_builtin; refine wpList_append_own _ rfl _ _ _ rfl (w1.heap.size + 1) 2 i0 (.int .i64 0) 1 8 Try.underlying22 hi0 hz0 hz1 hz2 rfl (by decide) _ 0 [] rfl ((RowB.new wr 2 []).own (xs := ([] : List Int)) (en := enI) (lo := (w1.heap.size + 1)) (hi := (World.alloc wr (.cells #[] 2)).heap.size) enI_len (by omega) (by simp) (by decide) : OwnS _ (w1.heap.size + 1) _ 2 1 enI _ []).1 ⟨gv, 0, none⟩ R.length capv (R.flatMap enI) rfl (by rw [flatMap_len enI_len]) (Clone.news_rd (hrdv.below ((Below.refl _ _).alloc (Nat.le_refl _) _) (Nat.le_refl _))) (Clone.one_Is R) ?c1 ?c2 ?c3 ?_)
        case c1 => unfold maxLen; omega
        case c2 => omega
        case c3 => go_size
        intro vX wX hownX hgrX _
        have hownX : wX.ownsRow (w1.heap.size + 1) 2 1 vX R.length (R.flatMap enI) := by simpa using hownX
        have ownX : OwnS wX (w1.heap.size + 1) wX.heap.size 2 1 enI vX R := ⟨hownX, fun k hk => (hownX.lt k hk).2⟩
        have hnk : ∀ k, (Value.slice (some ⟨wr.heap.size, 0, none⟩) 0 0).ownBlock = some k → k = wr.heap.size := fun k hk => by simp [Value.ownBlock] at hk; omega
        have rrX := RowB.grown (rr.alloc (.cells #[] 2)) hgrX (fun k hk => by have := hnk k hk; omega)
        have r3X := RowB.grown (r3.alloc (.cells #[] 2)) hgrX (fun k hk => by have := hnk k hk; omega)
        have DX := (hD.alloc (.cells #[] 2)).grown hgrX (fun k hk => by have := hnk k hk; omega) (fun k hk => by have := hnk k hk; omega)
        have gX := grown_own (grownBy_trans gw (World.grownBy_alloc _ (.cells #[] 2) _)) hgrX (fun k hk => by have := hnk k hk; omega)
        clear hownX hgrX hnk
        go_wp2_with fail
        have hDl := DX.lt
        refine (next' DX 2 (by decide)).mono ?_
        rintro e w5 ⟨⟨y, rfl, y0, y1, -⟩, D5, hg5, -⟩
        have own5 := OwnS.grown ownX hg5 (fun k hk => by simp at hk; omega)
        have own5 := own5.more (hi' := w5.heap.size) hg5.size
        have rr5 := RowB.grown rrX hg5 (fun k hk => by simp at hk; omega)
        have r35 := RowB.grown r3X hg5 (fun k hk => by simp at hk; omega)
        have g5 := grownBy_trans gX hg5
        clear ownX rrX r3X DX gX hg5
        have hl5 := RowB.lt r35
        go_wp2_with (at_builtin; refine wpL_app rfl _ _ _ rfl (w1.heap.size + 1) _ 2 i0 (.int .i64 0) 1 8 Try.underlying22 hi0 hz0 hz1 hz2 rfl (by decide) enI_len one_I _ R [y] rfl (own5.alloc _) ⟨w5.heap.size, 0, none⟩ 1 1 rfl rfl (news_new (RowB.new _ _ _)) (by decide) ?c1 ?c2 ?c3 ?_)
        case c1 => unfold maxLen; (try simp); try omega
        case c2 => (try simp); try omega
        case c3 => go_size
        intro gz capz wz ownz hgrz hatz hltz
        have hbX := own5.block
        have rrz := RowB.grown (rr5.alloc (.cells #[Value.int .i64 y] 2)) hgrz (fun k hk => by have := hbX k hk; omega)
        have r3z := RowB.grown (r35.alloc (.cells #[Value.int .i64 y] 2)) hgrz (fun k hk => by have := hbX k hk; omega)
        have Dz := (D5.alloc (.cells #[Value.int .i64 y] 2)).grown hgrz (fun k hk => by have := hbX k hk; omega) (fun k hk => by have := hbX k hk; omega)
        have gz' := grown_own (grownBy_trans g5 (World.grownBy_alloc _ (.cells #[Value.int .i64 y] 2) _)) hgrz (fun k hk => by have := hbX k hk; omega)
        obtain ⟨z0, z1⟩ := r3z.c2
        have fz := r3z.frozen
        have lz := r3z.lt
        clear hgrz hatz own5 rr5 r35 D5 g5
        go_wp2_with fail
        go_roundw
        case rel => exact ⟨j, by omega, by go_num, ⟨_, _, RowB.set r3z 1 _, (OwnS.setCell ownz (p := ⟨w1.heap.size, 1, none⟩) (by simp) _).more (by rw [World.size_setCell]; exact Nat.le_refl _), by (try simp); omega⟩, RowB.other rrz (by simp; omega) _, Dz.set (by omega) (by omega) _, grown_new gz' (by omega) _⟩
        case measure => simp [intOf] <;> omega
    · obtain rfl : j = 0 := by omega
      obtain ⟨Av, cv, rfl, _⟩ := hv.form enI_len
      go_wp2_with fail
      clear c0 c1 f3
      refine (next' hD 24 (by decide)).mono ?_
      rintro e w6 ⟨⟨t, rfl, t0, t1, -⟩, h6, hg6, -⟩
      have t1 := t1 (by decide)
      have r3 := r3.grown hg6 (fun k hk => by simp at hk; omega)
      have rr := rr.grown hg6 (fun k hk => by simp at hk; omega)
      have hv := (OwnS.grown hv hg6 (fun k hk => by simp at hk; omega)).more (hi' := w6.heap.size) hg6.size
      have gw := grownBy_trans gw hg6
      have hl3 := r3.lt
      have hz6 := gw.size
      clear hD hg6 hzr
      by_cases ht : t = 0
      · subst ht
        go_wp2_with fail
        refine (next' (h6.alloc _) 4 (by decide)).mono ?_
        rintro e w7 ⟨⟨z, rfl, z0, z1, -⟩, h7, hg7, -⟩
        have z1 := z1 (by decide)
        have r37 := (r3.alloc _).grown hg7 (fun k hk => by simp at hk; omega)
        have rr7 := (rr.alloc _).grown hg7 (fun k hk => by simp at hk; omega)
        have hv7 := (OwnS.grown (hv.alloc _) hg7 (fun k hk => by simp at hk; omega)).more (hi' := w7.heap.size) (by have := hg7.size; simp at this; omega)
        have gw7 := grownBy_trans (grownBy_trans gw (World.grownBy_alloc _ _ _)) hg7
        obtain ⟨c0, c1, c2, c3⟩ := ((RowB.new _ _ _).grown hg7 (fun k hk => by simp at hk; omega)).c4
        clear r3 rr hv gw hg7 h6
        obtain rfl | rfl | rfl | rfl : z = 0 ∨ z = 1 ∨ z = 2 ∨ z = 3 := by omega
        · have f3 := RowB.frozen r37
          obtain ⟨k0, k1⟩ := RowB.c2 r37
          go_upto_region 14 with (fail)
          refine wp_gen (fun W' => RowB W' w1.heap.size 31 [.int .i64 0, .slice Av R.length cv] ∧ RowB W' w.heap.size 31 [.int .i64 0, .slice none 0 0] ∧ Dr w0 B g A cp xs W' ∧ w.grownBy W' (some g) ∧ OwnS W' (w1.heap.size + 1) W'.heap.size 2 1 enI (.slice Av R.length cv) R) ⟨RowB.set r37 0 _, RowB.other rr7 (by simp <;> omega) _, Dr.set h7 (by omega) (by omega) _, grown_new gw7 (by omega) _, by simp only [World.size_setCell]; exact OwnS.setCell hv7 (p := ⟨w1.heap.size, 0, none⟩) (by simp) _⟩ ?_
          clear k0 k1 f3 r37 rr7 h7 gw7 hv7
          rintro w8 ⟨r38, rr8, h8, gw8, hv8⟩
          have hl8 := RowB.lt r38
          have hz8 := gw8.size
          have f3 := RowB.frozen r38
          have fr := RowB.frozen rr8
          obtain ⟨k0, k1⟩ := RowB.c2 r38
          obtain ⟨s0, s1⟩ := RowB.c2 rr8
          go_wp2_with fail
          refine bp_gen (fun W' => Dr w0 B g A cp xs W' ∧ w.grownBy W' (some g) ∧ RowB W' w.heap.size 31 [.int .i64 0, .slice Av R.length cv] ∧ OwnS W' (w1.heap.size + 1) W'.heap.size 2 1 enI (.slice Av R.length cv) R) ⟨Dr.set (Dr.set h8 (by omega) (by omega) _) (by omega) (by omega) _, grown_new (grown_new gw8 (Nat.le_refl _) _) (Nat.le_refl _) _, RowB.set (RowB.set rr8 0 _) 1 _, ?_⟩ ?_
          · simp only [World.size_setCell]
            exact (OwnS.setCell (OwnS.setCell hv8 (p := ⟨w.heap.size, 0, none⟩) (by simp; omega) _) (p := ⟨w.heap.size, 1, none⟩) (by simp; omega) _)
          rintro W5 ⟨h5, g5, rr5, own5⟩
          obtain ⟨q0, q1⟩ := rr5.c2
          refine bodyPost_ret (v := .agg #[.int .i64 0, .slice Av R.length cv]) (by simp [results, Try.results61, go_sem, q0, q1]) rfl ?_
          exact ⟨⟨_, _, _, rfl, own5.less (by omega), by omega, by omega, by omega⟩, h5, g5⟩
        · have f3 := RowB.frozen r37
          obtain ⟨k0, k1⟩ := RowB.c2 r37
          go_upto_region 14 with (fail)
          refine wp_gen (fun W' => RowB W' w1.heap.size 31 [.int .i64 3, .slice Av R.length cv] ∧ RowB W' w.heap.size 31 [.int .i64 0, .slice none 0 0] ∧ Dr w0 B g A cp xs W' ∧ w.grownBy W' (some g) ∧ OwnS W' (w1.heap.size + 1) W'.heap.size 2 1 enI (.slice Av R.length cv) R) ⟨RowB.set r37 0 _, RowB.other rr7 (by simp <;> omega) _, Dr.set h7 (by omega) (by omega) _, grown_new gw7 (by omega) _, by simp only [World.size_setCell]; exact OwnS.setCell hv7 (p := ⟨w1.heap.size, 0, none⟩) (by simp) _⟩ ?_
          clear k0 k1 f3 r37 rr7 h7 gw7 hv7
          rintro w8 ⟨r38, rr8, h8, gw8, hv8⟩
          have hl8 := RowB.lt r38
          have hz8 := gw8.size
          have f3 := RowB.frozen r38
          have fr := RowB.frozen rr8
          obtain ⟨k0, k1⟩ := RowB.c2 r38
          obtain ⟨s0, s1⟩ := RowB.c2 rr8
          go_wp2_with fail
          refine bp_gen (fun W' => Dr w0 B g A cp xs W' ∧ w.grownBy W' (some g) ∧ RowB W' w.heap.size 31 [.int .i64 3, .slice Av R.length cv] ∧ OwnS W' (w1.heap.size + 1) W'.heap.size 2 1 enI (.slice Av R.length cv) R) ⟨Dr.set (Dr.set h8 (by omega) (by omega) _) (by omega) (by omega) _, grown_new (grown_new gw8 (Nat.le_refl _) _) (Nat.le_refl _) _, RowB.set (RowB.set rr8 0 _) 1 _, ?_⟩ ?_
          · simp only [World.size_setCell]
            exact (OwnS.setCell (OwnS.setCell hv8 (p := ⟨w.heap.size, 0, none⟩) (by simp; omega) _) (p := ⟨w.heap.size, 1, none⟩) (by simp; omega) _)
          rintro W5 ⟨h5, g5, rr5, own5⟩
          obtain ⟨q0, q1⟩ := rr5.c2
          refine bodyPost_ret (v := .agg #[.int .i64 3, .slice Av R.length cv]) (by simp [results, Try.results61, go_sem, q0, q1]) rfl ?_
          exact ⟨⟨_, _, _, rfl, own5.less (by omega), by omega, by omega, by omega⟩, h5, g5⟩
        · have f3 := RowB.frozen r37
          obtain ⟨k0, k1⟩ := RowB.c2 r37
          go_upto_region 14 with (fail)
          refine wp_gen (fun W' => RowB W' w1.heap.size 31 [.int .i64 64, .slice Av R.length cv] ∧ RowB W' w.heap.size 31 [.int .i64 0, .slice none 0 0] ∧ Dr w0 B g A cp xs W' ∧ w.grownBy W' (some g) ∧ OwnS W' (w1.heap.size + 1) W'.heap.size 2 1 enI (.slice Av R.length cv) R) ⟨RowB.set r37 0 _, RowB.other rr7 (by simp <;> omega) _, Dr.set h7 (by omega) (by omega) _, grown_new gw7 (by omega) _, by simp only [World.size_setCell]; exact OwnS.setCell hv7 (p := ⟨w1.heap.size, 0, none⟩) (by simp) _⟩ ?_
          clear k0 k1 f3 r37 rr7 h7 gw7 hv7
          rintro w8 ⟨r38, rr8, h8, gw8, hv8⟩
          have hl8 := RowB.lt r38
          have hz8 := gw8.size
          have f3 := RowB.frozen r38
          have fr := RowB.frozen rr8
          obtain ⟨k0, k1⟩ := RowB.c2 r38
          obtain ⟨s0, s1⟩ := RowB.c2 rr8
          go_wp2_with fail
          refine bp_gen (fun W' => Dr w0 B g A cp xs W' ∧ w.grownBy W' (some g) ∧ RowB W' w.heap.size 31 [.int .i64 64, .slice Av R.length cv] ∧ OwnS W' (w1.heap.size + 1) W'.heap.size 2 1 enI (.slice Av R.length cv) R) ⟨Dr.set (Dr.set h8 (by omega) (by omega) _) (by omega) (by omega) _, grown_new (grown_new gw8 (Nat.le_refl _) _) (Nat.le_refl _) _, RowB.set (RowB.set rr8 0 _) 1 _, ?_⟩ ?_
          · simp only [World.size_setCell]
            exact (OwnS.setCell (OwnS.setCell hv8 (p := ⟨w.heap.size, 0, none⟩) (by simp; omega) _) (p := ⟨w.heap.size, 1, none⟩) (by simp; omega) _)
          rintro W5 ⟨h5, g5, rr5, own5⟩
          obtain ⟨q0, q1⟩ := rr5.c2
          refine bodyPost_ret (v := .agg #[.int .i64 64, .slice Av R.length cv]) (by simp [results, Try.results61, go_sem, q0, q1]) rfl ?_
          exact ⟨⟨_, _, _, rfl, own5.less (by omega), by omega, by omega, by omega⟩, h5, g5⟩
        · have f3 := RowB.frozen r37
          obtain ⟨k0, k1⟩ := RowB.c2 r37
          go_upto_region 14 with (fail)
          refine wp_gen (fun W' => RowB W' w1.heap.size 31 [.int .i64 1, .slice Av R.length cv] ∧ RowB W' w.heap.size 31 [.int .i64 0, .slice none 0 0] ∧ Dr w0 B g A cp xs W' ∧ w.grownBy W' (some g) ∧ OwnS W' (w1.heap.size + 1) W'.heap.size 2 1 enI (.slice Av R.length cv) R) ⟨RowB.set r37 0 _, RowB.other rr7 (by simp <;> omega) _, Dr.set h7 (by omega) (by omega) _, grown_new gw7 (by omega) _, by simp only [World.size_setCell]; exact OwnS.setCell hv7 (p := ⟨w1.heap.size, 0, none⟩) (by simp) _⟩ ?_
          clear k0 k1 f3 r37 rr7 h7 gw7 hv7
          rintro w8 ⟨r38, rr8, h8, gw8, hv8⟩
          have hl8 := RowB.lt r38
          have hz8 := gw8.size
          have f3 := RowB.frozen r38
          have fr := RowB.frozen rr8
          obtain ⟨k0, k1⟩ := RowB.c2 r38
          obtain ⟨s0, s1⟩ := RowB.c2 rr8
          go_wp2_with fail
          refine bp_gen (fun W' => Dr w0 B g A cp xs W' ∧ w.grownBy W' (some g) ∧ RowB W' w.heap.size 31 [.int .i64 1, .slice Av R.length cv] ∧ OwnS W' (w1.heap.size + 1) W'.heap.size 2 1 enI (.slice Av R.length cv) R) ⟨Dr.set (Dr.set h8 (by omega) (by omega) _) (by omega) (by omega) _, grown_new (grown_new gw8 (Nat.le_refl _) _) (Nat.le_refl _) _, RowB.set (RowB.set rr8 0 _) 1 _, ?_⟩ ?_
          · simp only [World.size_setCell]
            exact (OwnS.setCell (OwnS.setCell hv8 (p := ⟨w.heap.size, 0, none⟩) (by simp; omega) _) (p := ⟨w.heap.size, 1, none⟩) (by simp; omega) _)
          rintro W5 ⟨h5, g5, rr5, own5⟩
          obtain ⟨q0, q1⟩ := rr5.c2
          refine bodyPost_ret (v := .agg #[.int .i64 1, .slice Av R.length cv]) (by simp [results, Try.results61, go_sem, q0, q1]) rfl ?_
          exact ⟨⟨_, _, _, rfl, own5.less (by omega), by omega, by omega, by omega⟩, h5, g5⟩
      · have e1 : (t == 0) = false := by simp [ht]
        by_cases ht1 : t = 1
        · subst ht1
          clear ht
          obtain ⟨c0, c1⟩ := r3.c2
          go_wp2_with fail
          clear c0 c1
          refine (Clone.own02 Av cv w6.heap.size R _ (Nat.le_refl _) (hv.rd enI_len) (own_none hv) (by omega)).mono ?_
          rintro e w7 ⟨⟨vX, rfl, ownX⟩, hb7⟩
          have own5 := ownX.less (lo' := w1.heap.size + 1) (by omega)
          have rr5 := rr.below hb7 rr.lt
          have r35 := r3.below hb7 r3.lt
          have D5 := h6.below hb7 h6.lt
          have g5 := grown_below gw hb7
          have hl5 := RowB.lt r35
          clear ownX hb7 rr r3 h6 gw hv
          go_wp2_with (at_builtin; refine wpL_app rfl _ _ _ rfl (w1.heap.size + 1) _ 2 i0 (.int .i64 0) 1 8 Try.underlying22 hi0 hz0 hz1 hz2 rfl (by decide) enI_len one_I _ R [2] rfl (own5.alloc _) ⟨w7.heap.size, 0, none⟩ 1 1 rfl rfl (news_new (RowB.new _ _ _)) (by decide) ?c1 ?c2 ?c3 ?_)
          case c1 => unfold maxLen; (try simp); try omega
          case c2 => (try simp); try omega
          case c3 => go_size
          intro gz capz wz ownz hgrz hatz hltz
          have hbX := own5.block
          have rrz := RowB.grown (rr5.alloc (.cells #[Value.int .i64 2] 2)) hgrz (fun k hk => by have := hbX k hk; omega)
          have r3z := RowB.grown (r35.alloc (.cells #[Value.int .i64 2] 2)) hgrz (fun k hk => by have := hbX k hk; omega)
          have Dz := (D5.alloc (.cells #[Value.int .i64 2] 2)).grown hgrz (fun k hk => by have := hbX k hk; omega) (fun k hk => by have := hbX k hk; omega)
          have gz' := grown_own (grownBy_trans g5 (World.grownBy_alloc _ (.cells #[Value.int .i64 2] 2) _)) hgrz (fun k hk => by have := hbX k hk; omega)
          obtain ⟨z0, z1⟩ := r3z.c2
          have fz := r3z.frozen
          have lz := r3z.lt
          clear hgrz hatz own5 rr5 r35 D5 g5
          go_upto_region 14 with (fail)
          refine wp_gen (fun W' => RowB W' w1.heap.size 31 [.int .i64 s, .slice (some ⟨gz, 0, none⟩) (R.length + 1) capz] ∧ RowB W' w.heap.size 31 [.int .i64 0, .slice none 0 0] ∧ Dr w0 B g A cp xs W' ∧ w.grownBy W' (some g) ∧ OwnS W' (w1.heap.size + 1) W'.heap.size 2 1 enI (.slice (some ⟨gz, 0, none⟩) (R.length + 1) capz) (R ++ [2])) ⟨RowB.set r3z 1 _, RowB.other rrz (by simp <;> omega) _, Dr.set Dz (by omega) (by omega) _, grown_new gz' (by omega) _, by simp only [World.size_setCell]; exact OwnS.setCell ownz (p := ⟨w1.heap.size, 1, none⟩) (by simp) _⟩ ?_
          clear z0 z1 fz r3z rrz Dz gz' ownz
          rintro w8 ⟨r38, rr8, h8, gw8, hv8⟩
          have hl8 := RowB.lt r38
          have hz8 := gw8.size
          have f3 := RowB.frozen r38
          have fr := RowB.frozen rr8
          obtain ⟨k0, k1⟩ := RowB.c2 r38
          obtain ⟨s0, s1⟩ := RowB.c2 rr8
          go_wp2_with fail
          refine bp_gen (fun W' => Dr w0 B g A cp xs W' ∧ w.grownBy W' (some g) ∧ RowB W' w.heap.size 31 [.int .i64 s, .slice (some ⟨gz, 0, none⟩) (R.length + 1) capz] ∧ OwnS W' (w1.heap.size + 1) W'.heap.size 2 1 enI (.slice (some ⟨gz, 0, none⟩) (R.length + 1) capz) (R ++ [2])) ⟨Dr.set (Dr.set h8 (by omega) (by omega) _) (by omega) (by omega) _, grown_new (grown_new gw8 (Nat.le_refl _) _) (Nat.le_refl _) _, RowB.set (RowB.set rr8 0 _) 1 _, ?_⟩ ?_
          · simp only [World.size_setCell]
            exact (OwnS.setCell (OwnS.setCell hv8 (p := ⟨w.heap.size, 0, none⟩) (by simp; omega) _) (p := ⟨w.heap.size, 1, none⟩) (by simp; omega) _)
          rintro W5 ⟨h5, g5, rr5, own5⟩
          obtain ⟨q0, q1⟩ := rr5.c2
          refine bodyPost_ret (v := .agg #[.int .i64 s, .slice (some ⟨gz, 0, none⟩) (R.length + 1) capz]) (by simp [results, Try.results61, go_sem, q0, q1]) rfl ?_
          exact ⟨⟨_, _, _, rfl, own5.less (by omega), by omega, by omega, by simp; omega⟩, h5, g5⟩
        · have e2 : (t == 1) = false := by simp [ht1]
          by_cases ht2 : t = 2
          · subst ht2
            clear ht ht1
            obtain ⟨c0, c1⟩ := r3.c2
            go_wp2_with fail
            clear c0 c1
            go_loopw [47] (fun _ wr => ∃ (v : Value) (R : List Int), RowB wr w1.heap.size 31 [.int .i64 s, v] ∧ OwnS wr (w1.heap.size + 1) wr.heap.size 2 1 enI v R ∧ R.length ≤ 32 ∧ RowB wr w.heap.size 31 [.int .i64 0, .slice none 0 0] ∧ Dr w0 B g A cp xs wr ∧ w.grownBy wr (some g)) (fun _ wr => match wr.cell? ⟨w1.heap.size, 1, none⟩ with | some (.slice _ n _) => 40 - n | _ => 0)
            case atStart => exact ⟨_, R, r3, hv, by omega, rr, h6, gw⟩
            case round =>
              clear r3 hv rr h6 gw hR
              obtain ⟨v, R, r3, hv, hR, rr, hD, gw⟩ := hrel
              have hzr := gw.size
              have hl3 := r3.lt
              by_cases h0 : (R.length : Int) < s
              · obtain ⟨c0, c1⟩ := r3.c2
                have f3 := r3.frozen
                rcases hv.cases_ with ⟨rfl, rfl⟩ | ⟨gv, capv, rest, rfl, hv1, hv2, hv3, hv4, hv5, hv6⟩
                · clear hv
                  have ownX := ((RowB.new wr 2 []).own (xs := ([] : List Int)) (en := enI) (lo := (w1.heap.size + 1)) (hi := (World.alloc wr (.cells #[] 2)).heap.size) enI_len (by omega) (by simp) (by decide) : OwnS _ (w1.heap.size + 1) _ 2 1 enI _ [])
                  have rrX := rr.alloc (.cells #[] 2)
                  have r3X := r3.alloc (.cells #[] 2)
                  have DX := hD.alloc (.cells #[] 2)
                  have gX := grownBy_trans gw (World.grownBy_alloc _ (.cells #[] 2) _)
                  have own5 := ownX
                  have rr5 := rrX
                  have r35 := r3X
                  have D5 := DX
                  have g5 := gX
                  clear ownX rrX r3X DX gX
                  have hl5 := RowB.lt r35
                  go_wp2_with (first | (at_builtin; refine wpList_append_own_none rfl _ _ _ rfl (w1.heap.size + 1) 2 i0 1 Try.underlying22 hi0 _ 0 [] rfl ((RowB.new wr 2 []).own (xs := ([] : List Int)) (en := enI) (lo := (w1.heap.size + 1)) (hi := (World.alloc wr (.cells #[] 2)).heap.size) enI_len (by omega) (by simp) (by decide) : OwnS _ (w1.heap.size + 1) _ 2 1 enI _ []).1 rfl ?_) | (at_builtin; refine wpL_app rfl _ _ _ rfl (w1.heap.size + 1) _ 2 i0 (.int .i64 0) 1 8 Try.underlying22 hi0 hz0 hz1 hz2 rfl (by decide) enI_len one_I _ [] [1] rfl (own5.alloc _) ⟨wr.heap.size + 1, 0, none⟩ 1 1 rfl rfl (news_new (RowB.new' (wr.alloc _) _ _ (by simp))) (by decide) ?c1 ?c2 ?c3 ?_) | fail)
                  case c1 => unfold maxLen; (try simp); try omega
                  case c2 => (try simp); try omega
                  case c3 => go_size
                  intro gz capz wz ownz hgrz hatz hltz
                  have hbX := own5.block
                  have rrz := RowB.grown (rr5.alloc (.cells #[Value.int .i64 1] 2)) hgrz (fun k hk => by have := hbX k hk; omega)
                  have r3z := RowB.grown (r35.alloc (.cells #[Value.int .i64 1] 2)) hgrz (fun k hk => by have := hbX k hk; omega)
                  have Dz := (D5.alloc (.cells #[Value.int .i64 1] 2)).grown hgrz (fun k hk => by have := hbX k hk; omega) (fun k hk => by have := hbX k hk; omega)
                  have gz' := grown_own (grownBy_trans g5 (World.grownBy_alloc _ (.cells #[Value.int .i64 1] 2) _)) hgrz (fun k hk => by have := hbX k hk; omega)
                  obtain ⟨z0, z1⟩ := r3z.c2
                  have fz := r3z.frozen
                  have lz := r3z.lt
                  clear hgrz hatz own5 rr5 r35 D5 g5
                  have zc : (wz.setCell ⟨w1.heap.size, 1, none⟩ (.slice (some ⟨gz, 0, none⟩) 1 capz)).cell? ⟨w1.heap.size, 1, none⟩ = some (.slice (some ⟨gz, 0, none⟩) 1 capz) := (RowB.set r3z 1 _).c2.2
                  go_wp2_with fail
                  go_roundw
                  case rel => exact ⟨_, _, RowB.set r3z 1 _, (OwnS.setCell ownz (p := ⟨w1.heap.size, 1, none⟩) (by simp) _).more (by rw [World.size_setCell]; exact Nat.le_refl _), by first | omega | (simp; done) | (simp; omega), RowB.other rrz (by simp; omega) _, Dz.set (by omega) (by omega) _, grown_new gz' (by omega) _⟩
                  case measure => rw [zc, c1]; first | omega | (simp; done) | (simp; omega)
                · have hrdv : RdS wr wr.heap.size 1 enI (some ⟨gv, 0, none⟩) R := hv.rd enI_len
                  clear hv hv3
                  go_wp2_with (at_builtin; refine wpList_append_own _ rfl _ _ _ rfl (w1.heap.size + 1) 2 i0 (.int .i64 0) 1 8 Try.underlying22 hi0 hz0 hz1 hz2 rfl (by decide) _ 0 [] rfl ((RowB.new wr 2 []).own (xs := ([] : List Int)) (en := enI) (lo := (w1.heap.size + 1)) (hi := (World.alloc wr (.cells #[] 2)).heap.size) enI_len (by omega) (by simp) (by decide) : OwnS _ (w1.heap.size + 1) _ 2 1 enI _ []).1 ⟨gv, 0, none⟩ R.length capv (R.flatMap enI) rfl (by rw [flatMap_len enI_len]) (Clone.news_rd (hrdv.below ((Below.refl _ _).alloc (Nat.le_refl _) _) (Nat.le_refl _))) (Clone.one_Is R) ?c1 ?c2 ?c3 ?_)
                  case c1 => unfold maxLen; omega
                  case c2 => omega
                  case c3 => go_size
                  intro vX wX hownX hgrX _
                  have hownX : wX.ownsRow (w1.heap.size + 1) 2 1 vX R.length (R.flatMap enI) := by simpa using hownX
                  have ownX : OwnS wX (w1.heap.size + 1) wX.heap.size 2 1 enI vX R := ⟨hownX, fun k hk => (hownX.lt k hk).2⟩
                  have hnk : ∀ k, (Value.slice (some ⟨wr.heap.size, 0, none⟩) 0 0).ownBlock = some k → k = wr.heap.size := fun k hk => by simp [Value.ownBlock] at hk; omega
                  have rrX := RowB.grown (rr.alloc (.cells #[] 2)) hgrX (fun k hk => by have := hnk k hk; omega)
                  have r3X := RowB.grown (r3.alloc (.cells #[] 2)) hgrX (fun k hk => by have := hnk k hk; omega)
                  have DX := (hD.alloc (.cells #[] 2)).grown hgrX (fun k hk => by have := hnk k hk; omega) (fun k hk => by have := hnk k hk; omega)
                  have gX := grown_own (grownBy_trans gw (World.grownBy_alloc _ (.cells #[] 2) _)) hgrX (fun k hk => by have := hnk k hk; omega)
                  clear hownX hgrX hnk
                  have own5 := ownX
                  have rr5 := rrX
                  have r35 := r3X
                  have D5 := DX
                  have g5 := gX
                  clear ownX rrX r3X DX gX
                  have hl5 := RowB.lt r35
                  go_wp2_with (at_builtin; refine wpL_app rfl _ _ _ rfl (w1.heap.size + 1) _ 2 i0 (.int .i64 0) 1 8 Try.underlying22 hi0 hz0 hz1 hz2 rfl (by decide) enI_len one_I _ R [1] rfl (own5.alloc _) ⟨wX.heap.size, 0, none⟩ 1 1 rfl rfl (news_new (RowB.new _ _ _)) (by decide) ?c1 ?c2 ?c3 ?_)
                  case c1 => unfold maxLen; (try simp); try omega
                  case c2 => (try simp); try omega
                  case c3 => go_size
                  intro gz capz wz ownz hgrz hatz hltz
                  have hbX := own5.block
                  have rrz := RowB.grown (rr5.alloc (.cells #[Value.int .i64 1] 2)) hgrz (fun k hk => by have := hbX k hk; omega)
                  have r3z := RowB.grown (r35.alloc (.cells #[Value.int .i64 1] 2)) hgrz (fun k hk => by have := hbX k hk; omega)
                  have Dz := (D5.alloc (.cells #[Value.int .i64 1] 2)).grown hgrz (fun k hk => by have := hbX k hk; omega) (fun k hk => by have := hbX k hk; omega)
                  have gz' := grown_own (grownBy_trans g5 (World.grownBy_alloc _ (.cells #[Value.int .i64 1] 2) _)) hgrz (fun k hk => by have := hbX k hk; omega)
                  obtain ⟨z0, z1⟩ := r3z.c2
                  have fz := r3z.frozen
                  have lz := r3z.lt
                  clear hgrz hatz own5 rr5 r35 D5 g5
                  have zc : (wz.setCell ⟨w1.heap.size, 1, none⟩ (.slice (some ⟨gz, 0, none⟩) (R.length + 1) capz)).cell? ⟨w1.heap.size, 1, none⟩ = some (.slice (some ⟨gz, 0, none⟩) (R.length + 1) capz) := (RowB.set r3z 1 _).c2.2
                  go_wp2_with fail
                  go_roundw
                  case rel => exact ⟨_, _, RowB.set r3z 1 _, (OwnS.setCell ownz (p := ⟨w1.heap.size, 1, none⟩) (by simp) _).more (by rw [World.size_setCell]; exact Nat.le_refl _), by first | omega | (simp; done) | (simp; omega), RowB.other rrz (by simp; omega) _, Dz.set (by omega) (by omega) _, grown_new gz' (by omega) _⟩
                  case measure => rw [zc, c1]; first | omega | (simp; done) | (simp; omega)
              · obtain ⟨Av, cv, rfl, _⟩ := hv.form enI_len
                have hd : decide ((R.length : Int) < s) = false := decide_eq_false h0
                replace h0 := Int.not_lt.1 h0
                have f3 := RowB.frozen r3
                have fr := RowB.frozen rr
                obtain ⟨k0, k1⟩ := RowB.c2 r3
                obtain ⟨s0, s1⟩ := RowB.c2 rr
                go_wp2_with fail
                refine bp_gen (fun W' => Dr w0 B g A cp xs W' ∧ w.grownBy W' (some g) ∧ RowB W' w.heap.size 31 [.int .i64 s, .slice Av R.length cv] ∧ OwnS W' (w1.heap.size + 1) W'.heap.size 2 1 enI (.slice Av R.length cv) R) ⟨Dr.set (Dr.set hD (by omega) (by omega) _) (by omega) (by omega) _, grown_new (grown_new gw (Nat.le_refl _) _) (Nat.le_refl _) _, RowB.set (RowB.set rr 0 _) 1 _, ?_⟩ ?_
                · simp only [World.size_setCell]
                  exact (OwnS.setCell (OwnS.setCell hv (p := ⟨w.heap.size, 0, none⟩) (by simp; omega) _) (p := ⟨w.heap.size, 1, none⟩) (by simp; omega) _)
                rintro W5 ⟨h5, g5, rr5, own5⟩
                obtain ⟨q0, q1⟩ := rr5.c2
                refine bodyPost_ret (v := .agg #[.int .i64 s, .slice Av R.length cv]) (by simp [results, Try.results61, go_sem, q0, q1]) rfl ?_
                exact ⟨⟨_, _, _, rfl, own5.less (by omega), by omega, by omega, by omega⟩, h5, g5⟩
          · have e3 : (t == 2) = false := by simp [ht2]
            clear ht ht1 ht2
            have f3 := RowB.frozen r3
            have fr := RowB.frozen rr
            obtain ⟨k0, k1⟩ := RowB.c2 r3
            obtain ⟨s0, s1⟩ := RowB.c2 rr
            go_wp2_with fail
            refine bp_gen (fun W' => Dr w0 B g A cp xs W' ∧ w.grownBy W' (some g) ∧ RowB W' w.heap.size 31 [.int .i64 s, .slice Av R.length cv] ∧ OwnS W' (w1.heap.size + 1) W'.heap.size 2 1 enI (.slice Av R.length cv) R) ⟨Dr.set (Dr.set h6 (by omega) (by omega) _) (by omega) (by omega) _, grown_new (grown_new gw (Nat.le_refl _) _) (Nat.le_refl _) _, RowB.set (RowB.set rr 0 _) 1 _, ?_⟩ ?_
            · simp only [World.size_setCell]
              exact (OwnS.setCell (OwnS.setCell hv (p := ⟨w.heap.size, 0, none⟩) (by simp; omega) _) (p := ⟨w.heap.size, 1, none⟩) (by simp; omega) _)
            rintro W5 ⟨h5, g5, rr5, own5⟩
            obtain ⟨q0, q1⟩ := rr5.c2
            refine bodyPost_ret (v := .agg #[.int .i64 s, .slice Av R.length cv]) (by simp [results, Try.results61, go_sem, q0, q1]) rfl ?_
            exact ⟨⟨_, _, _, rfl, own5.less (by omega), by omega, by omega, by omega⟩, h5, g5⟩
end Go.Proofs.Ytoicppnkkhajeaa.DrawT
