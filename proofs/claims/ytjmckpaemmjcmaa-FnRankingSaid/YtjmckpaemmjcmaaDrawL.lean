/-
  The draw of ratings and matches (l30DrawList). Conditions: each theorem's own.
-/
import Derived.Test.YtjmckpaemmjcmaaDrawR
import Derived.Test.YtjmckpaemmjcmaaBase2
import Derived.Test.YtjmckpaemmjcmaaRating
import Derived.Test.YtjmckpaemmjcmaaInv
import Derived.Laws.AppendOwnNone
set_option linter.unusedVariables false
namespace Go.Proofs.Ytjmckpaemmjcmaa.DrawL
open Go.ChangeShapes Go.WideShapes Go.ChangeAt Go.RowKit Base Base2 Ints Own Draw DrawR Rating RegInv
variable {w0 w w' W W' : World} {B g cp : Nat} {A : Option Addr} {xs : List Int}
theorem wpS {P : Program} {c : Code} {Q : Exit → Act → World → Prop} {a : Act} {W : World} (R : World → Prop) (h : R W) (k : ∀ W', R W' → c.wp P Q a W') : c.wp P Q a W := k W h
theorem grown_own {a b c : World} {row row' : Option Nat} (h : a.grownBy b row) (k : b.grownBy c row') (hk : ∀ i, row' = some i → a.heap.size ≤ i) : a.grownBy c row :=
  ⟨k.os.trans h.os, k.tape.trans h.tape, k.output.trans h.output, Nat.le_trans h.size k.size, fun i hi hr => (k.block i (Nat.lt_of_lt_of_le hi h.size) (fun e => by have := hk i e.symm; omega)).trans (h.block i hi hr)⟩
theorem grownBy_drew {a b : World} {row : Option Nat} (h : a.grownBy b row) : a.grownBy b.drew row := ⟨h.os, h.tape, h.output, h.size, h.block⟩
theorem infoR : (Try.prog.info? 25).map (fun i => (i.zero, i.size, i.bytes)) = some (some (.agg #[.int .i64 0, .int .i64 0]), 2, 16) := by kernel_rfl
theorem infoM : (Try.prog.info? 54).map (fun i => (i.zero, i.size, i.bytes)) = some (some (.agg #[.int .i64 0, .int .i64 0, .int .i64 0]), 3, 24) := by kernel_rfl
theorem one_R (x : Int × Int) : ∀ u ∈ enI2 x, u.oneCell' = true := by intro u hu; simp [enI2] at hu; rcases hu with rfl | rfl <;> rfl
theorem one_M (x : Int × Int × Int) : ∀ u ∈ enI3 x, u.oneCell' = true := by intro u hu; simp [enI3] at hu; rcases hu with rfl | rfl | rfl <;> rfl

/-- The two slices in the making: v the ratings, u the matches; w the world at the call's entry. -/
structure Tw (w0 w : World) (B g : Nat) (A : Option Addr) (cp : Nat) (xs : List Int) (v u : Value) (ls : List (Int × Int)) (ms : List (Int × Int × Int)) (W : World) : Prop where
  D : Dr w0 B g A cp xs W
  gr : w.grownBy W (some g)
  o4 : OwnS W w.heap.size W.heap.size 25 2 enI2 v ls
  o7 : OwnS W w.heap.size W.heap.size 54 3 enI3 u ms
  ap : Apart v u
  lt : g < w.heap.size
section
variable {v u : Value} {ls : List (Int × Int)} {ms : List (Int × Int × Int)}
theorem Tw.grown (h : Tw w0 w B g A cp xs v u ls ms W) (hD : Dr w0 B g A cp xs W') (hg : W.grownBy W' (some g)) : Tw w0 w B g A cp xs v u ls ms W' :=
  ⟨hD, grownBy_trans h.gr hg, (h.o4.grown hg (fun k hk => by simp at hk; have := h.lt; omega)).more hg.size, (h.o7.grown hg (fun k hk => by simp at hk; have := h.lt; omega)).more hg.size, h.ap, h.lt⟩
theorem Tw.alloc (h : Tw w0 w B g A cp xs v u ls ms W) (o : Obj) : Tw w0 w B g A cp xs v u ls ms (W.alloc o) :=
  ⟨h.D.alloc _, grownBy_trans h.gr (World.grownBy_alloc _ _ _), (h.o4.alloc _).more (by simp), (h.o7.alloc _).more (by simp), h.ap, h.lt⟩
theorem Tw.below (h : Tw w0 w B g A cp xs v u ls ms W) (hb : Below W.heap.size W W') : Tw w0 w B g A cp xs v u ls ms W' :=
  h.grown (h.D.below hb h.D.lt) ⟨hb.os, hb.tape, hb.output, hb.size, fun i hi _ => hb.block i hi⟩
theorem Tw.drew (h : Tw w0 w B g A cp xs v u ls ms W) : Tw w0 w B g A cp xs v u ls ms W.drew := ⟨h.D.drew, grownBy_drew h.gr, h.o4, h.o7, h.ap, h.lt⟩
theorem Tw.new7 (h : Tw w0 w B g A cp xs v (.slice none 0 0) ls [] W) : Tw w0 w B g A cp xs v (.slice (some ⟨W.heap.size, 0, none⟩) 0 0) ls [] (W.alloc (.cells #[] 54)) :=
  ⟨h.D.alloc _, grownBy_trans h.gr (World.grownBy_alloc _ _ _), (h.o4.alloc _).more (by simp), (RowB.new W 54 []).own (xs := ([] : List (Int × Int × Int))) (en := enI3) enI3_len h.gr.size (by simp) (by decide), fun k hk hk' => by have := h.o4.2 k hk; simp [Value.ownBlock] at hk'; omega, h.lt⟩
theorem Tw.app4 (h : Tw w0 w B g A cp xs v u ls ms W) {k c n : Nat} {ys : List (Int × Int)} (ho : OwnS W' w.heap.size W'.heap.size 25 2 enI2 (.slice (some ⟨k, 0, none⟩) n c) ys) (hg : W.grownBy W' v.ownBlock) (hat : v.ownBlock = some k ∨ k = W.heap.size) :
    Tw w0 w B g A cp xs (.slice (some ⟨k, 0, none⟩) n c) u ys ms W' := by
  have hb := h.o4.block
  have hl := h.lt
  have hB := h.D.base
  refine ⟨h.D.grown hg (fun i hi => by have := hb i hi; omega) (fun i hi => by have := hb i hi; omega), grown_own h.gr hg (fun i hi => (hb i hi).1), ho, (OwnS.far h.o7 hg h.ap).more hg.size, h.ap.app h.o7.2 hat, h.lt⟩
theorem Tw.app7 (h : Tw w0 w B g A cp xs v u ls ms W) {k c n : Nat} {ys : List (Int × Int × Int)} (ho : OwnS W' w.heap.size W'.heap.size 54 3 enI3 (.slice (some ⟨k, 0, none⟩) n c) ys) (hg : W.grownBy W' u.ownBlock) (hat : u.ownBlock = some k ∨ k = W.heap.size) :
    Tw w0 w B g A cp xs v (.slice (some ⟨k, 0, none⟩) n c) ls ys W' := by
  have hb := h.o7.block
  have hl := h.lt
  have hB := h.D.base
  refine ⟨h.D.grown hg (fun i hi => by have := hb i hi; omega) (fun i hi => by have := hb i hi; omega), grown_own h.gr hg (fun i hi => (hb i hi).1), (OwnS.far h.o4 hg h.ap.symm).more hg.size, ho, (h.ap.symm.app h.o4.2 hat).symm, h.lt⟩
end
structure DlF (w0 w : World) (B g : Nat) (A : Option Addr) (cp : Nat) (xs : List Int) (V U : Value) (ls : List (Int × Int)) (ms : List (Int × Int × Int)) (n a : Int) (L : Nat → Prop) (v7 v48 v49 v50 v51 v52 v53 v54 v55 v56 v57 v58 v59 v60 v61 v62 v63 v64 : Value) (w' : World) : Prop where
  k0 : ¬ L 16 → Tw w0 w B g A cp xs V U ls ms w'
  k1 : L 16 → ∃ m, Tw w0 w B g A cp xs V v64 ls (ms ++ [m]) w'
  s7 : ¬ L 17 → v7 = U
  f0 : L 0 → v48 = U
  f1 : L 1 → v49 = .int .i64 a
  f2 : L 2 → v50 = .int .i64 a
  f3 : L 3 → v51 = .int .i64 (a + 1)
  f4 : L 4 → v52 = .pointer (some ⟨g, 0, none⟩)
  f5 : L 5 → v53 = .int .i64 n
  f6 : L 6 → v54 = .int .i64 (n - 1)
  f7 : L 7 → ∃ x : Int, v55 = .int .i64 x ∧ 0 ≤ x ∧ x < n
  f8 : L 8 → ∃ x : Int, v56 = .int .i64 (a + 1 + x) ∧ 0 ≤ x ∧ x < n
  f9 : L 9 → v57 = .int .i64 n
  f10 : L 10 → ∃ x : Int, v58 = .int .i64 x
  f11 : L 11 → v59 = .pointer (some ⟨g, 0, none⟩)
  f12 : L 12 → ∃ x : Int, v60 = .int .i64 x ∧ 0 ≤ x ∧ x < 11
  f13 : L 13 → ∃ x : Int, v61 = .int .i64 x
  f14 : L 14 → ∃ x y z : Int, v62 = .agg #[.int .i64 x, .int .i64 y, .int .i64 z]
  f15 : L 15 → ¬ L 16 → ∃ (k : Nat) (x y z : Int), v63 = .slice (some ⟨k, 0, none⟩) 1 1 ∧ w.heap.size ≤ k ∧ RowB w' k 54 [.int .i64 x, .int .i64 y, .int .i64 z] ∧ U.ownBlock ≠ some k
  f17 : L 17 → v7 = v64

set_option maxHeartbeats 8000000 in
set_option maxRecDepth 100000 in
theorem list_ (h : Dr w0 B g A cp xs w) :
    Calls Try.prog 44 #[.pointer (some ⟨g, 0, none⟩)] w fun e w' => ∃ v u ls ms, e = .returned (.tuple #[v, u]) ∧ Tw w0 w B g A cp xs v u ls ms w' ∧ ls.length ≤ 5 ∧ ms.length ≤ 9 := by
  obtain ⟨i4, hi4, hz0, hz1, hz2⟩ := info_parts infoR
  obtain ⟨i7, hi7, hm0, hm1, hm2⟩ := info_parts infoM
  have hlt := h.lt
  have hbg := h.base
  go_enter Try.func44, Try.ntmps44
  go_wp2_with fail
  have K0 : Tw w0 w B g A cp xs (.slice (some ⟨w.heap.size, 0, none⟩) 0 0) (.slice none 0 0) [] [] (w.alloc (.cells #[] 25)) :=
    ⟨h.alloc _, World.grownBy_alloc _ _ _, (RowB.new w 25 []).own (xs := ([] : List (Int × Int))) (en := enI2) enI2_len (Nat.le_refl _) (by simp) (by decide), OwnS.nil_ _ _ _ _ _ _, (Apart.nil _).symm, hlt⟩
  refine (next' K0.D 4 (by decide)).mono ?_
  rintro e w1 ⟨⟨x, rfl, x0, x1, -⟩, h1, hg1, -⟩
  have x1 := x1 (by decide)
  have K1 := K0.grown h1 hg1
  clear K0 hg1 h1
  have ew : IntKind.i64.wrap (2 + x) = 2 + x := IntWalk.i64_in _ (by omega)
  go_wp2_with fail
  go_loopw [4, 5] (fun v' i wr => ∃ (v : Value) (ls : List (Int × Int)) (j : Nat), v = v' ∧ i = .int .i64 (j : Int) ∧ ls.length + j ≤ 5 ∧ Tw w0 w B g A cp xs v (.slice none 0 0) ls [] wr) (fun _ i _ => (intOf i).toNat)
  case atStart => exact ⟨_, [], (2 + x).toNat, rfl, by rw [Int.toNat_of_nonneg (by omega)], by simp; omega, K1⟩
  case round =>
    obtain ⟨v, ls, j, rfl, rfl, hj, K⟩ := hrel
    clear K1
    by_cases j0 : 0 < j
    · obtain ⟨j, rfl⟩ : ∃ i, j = i + 1 := ⟨j - 1, by omega⟩
      go_wp2_with fail
      refine (rating K.D).mono ?_
      rintro e w2 ⟨⟨p, q, rfl, -, -, -, -⟩, hD, hg⟩
      have K2 := K.grown hD hg
      clear K hD hg
      have hl2 := K2.D.lt
      have hw2 := K2.gr.size
      go_upto_region 6 with (fail)
      refine wpS (fun W' => Tw w0 w B g A cp xs v (.slice none 0 0) ls [] W' ∧ RowB W' w2.heap.size 25 [.int .i64 p, .int .i64 q]) ⟨K2.alloc _, RowB.new _ _ _⟩ ?_
      clear K2 hl2
      rintro w3 ⟨K, rb⟩
      obtain ⟨c0, c1⟩ := rb.c2
      have hrl := rb.lt
      go_wp2_with fail
      refine (isR_spec p q _).mono ?_
      rintro e w4 ⟨rfl, hb⟩
      have K := K.below hb
      have rb := rb.below hb hrl
      clear hb c0 c1 hrl
      cases hok : okR p q
      case true =>
        obtain ⟨c0, c1⟩ := rb.c2
        have hrl := rb.lt
        go_wp2_with (at_builtin; refine wpL_app rfl _ _ _ rfl w.heap.size _ 25 i4 (.agg #[.int .i64 0, .int .i64 0]) 2 16 Try.underlying35 hi4 hz0 hz1 hz2 rfl (by decide) enI2_len one_R v ls [(p, q)] rfl ((K.alloc _).o4) ⟨w4.heap.size, 0, none⟩ 1 1 rfl rfl (news_new (RowB.new _ _ _)) (by decide) ?c1 ?c2 ?c3 ?_)
        case c1 => unfold maxLen; omega
        case c2 => omega
        case c3 => have := K.gr.size; go_size
        intro k2 c2 w6 ho hg hat hlt6
        have K6 := (K.alloc _).app4 ho hg (hat.imp_right (fun h => by rw [World.size_alloc]; exact h))
        clear ho hg hat K
        go_wp2_with fail
        go_roundw
        case rel => exact ⟨_, ls ++ [(p, q)], j, rfl, by go_num, by simp; omega, K6⟩
        case measure => simp [intOf] <;> omega
      case false =>
        go_wp2_with fail
        refine (next' K.D 4 (by decide)).mono ?_
        rintro e w5 ⟨⟨y, rfl, y0, y1, -⟩, hD, hg, -⟩
        have K := K.grown hD hg
        have rb := rb.grown hg (fun i hi => by simp at hi; omega)
        clear hD hg
        by_cases hy : y = 0
        · subst hy
          obtain ⟨c0, c1⟩ := rb.c2
          have hrl := rb.lt
          go_wp2_with (at_builtin; refine wpL_app rfl _ _ _ rfl w.heap.size _ 25 i4 (.agg #[.int .i64 0, .int .i64 0]) 2 16 Try.underlying35 hi4 hz0 hz1 hz2 rfl (by decide) enI2_len one_R v ls [(p, q)] rfl ((K.alloc _).o4) ⟨w5.heap.size, 0, none⟩ 1 1 rfl rfl (news_new (RowB.new _ _ _)) (by decide) ?c1 ?c2 ?c3 ?_)
          case c1 => unfold maxLen; omega
          case c2 => omega
          case c3 => have := K.gr.size; go_size
          intro k2 c2 w6 ho hg hat hlt6
          have K6 := (K.alloc _).app4 ho hg (hat.imp_right (fun h => by rw [World.size_alloc]; exact h))
          clear ho hg hat K
          go_wp2_with fail
          go_roundw
          case rel => exact ⟨_, ls ++ [(p, q)], j, rfl, by go_num, by simp; omega, K6⟩
          case measure => simp [intOf] <;> omega
        · have ey : (y == 0) = false := by simp [hy]
          clear hy
          go_wp2_with fail
          go_roundw
          case rel => exact ⟨_, ls, j, rfl, by go_num, by omega, K⟩
          case measure => simp [intOf] <;> omega
    · obtain rfl : j = 0 := by omega
      obtain ⟨A4, c4, rfl, _⟩ := K.o4.form enI2_len
      have hl5 : (ls.length : Int) ≤ 5 := by omega
      have hwr := K.gr.size
      go_wp2_with fail
      have K := K.new7
      refine (next' K.D 9 (by decide)).mono ?_
      rintro e w2 ⟨⟨y, rfl, y0, y1, -⟩, hD, hg, -⟩
      have y1 := y1 (by decide)
      have K2 := K.grown hD hg
      clear K hD hg
      obtain ⟨n, hn⟩ : ∃ n : Nat, ls.length = n := ⟨_, rfl⟩
      rw [hn] at K2 hl5 ⊢
      have HN := Lib.hid hn
      clear hn hj
      go_wp2_with fail
      go_loopw [7, 9] (fun u' i wr => ∃ (u : Value) (ms : List (Int × Int × Int)) (j : Nat), u = u' ∧ ms.length + j ≤ 8 ∧ 0 ≤ j ∧ i = .int .i64 (j : Int) ∧ ms.length ≤ 8 ∧ Tw w0 w B g A cp xs (.slice A4 n c4) u ls ms wr) (fun _ i _ => (intOf i).toNat)
      case atStart => exact ⟨_, [], y.toNat, rfl, by simp; omega, by omega, by rw [Int.toNat_of_nonneg (by omega)], by simp, K2⟩
      case round =>
        obtain ⟨u, ms, j, rfl, hj, -, rfl, hm8, K⟩ := hrel
        clear K2
        by_cases j0 : 0 < j
        · by_cases n1 : 1 < n
          · obtain ⟨j, rfl⟩ : ∃ i, j = i + 1 := ⟨j - 1, by omega⟩
            have n1' : (1 : Int) < (n : Int) := by omega
            go_wp2_with fail
            refine (next' K.D (n : Int) (by omega)).mono ?_
            rintro e w3 ⟨⟨ai, rfl, a0, a1, -⟩, hD, hg, -⟩
            have a1 := a1 (by omega)
            have K := K.grown hD hg
            clear hD hg
            go_wp2_with fail
            refine region_inv (fun a0 L a w' => ∃ v7 v48 v49 v50 v51 v52 v53 v54 v55 v56 v57 v58 v59 v60 v61 v62 v63 v64 : Value, a = ((((((((((((((((((a0.put (some 7) v7).put (some 48) v48).put (some 49) v49).put (some 50) v50).put (some 51) v51).put (some 52) v52).put (some 53) v53).put (some 54) v54).put (some 55) v55).put (some 56) v56).put (some 57) v57).put (some 58) v58).put (some 59) v59).put (some 60) v60).put (some 61) v61).put (some 62) v62).put (some 63) v63).put (some 64) v64) ∧ DlF w0 w B g A cp xs (.slice A4 n c4) u ls ms (n : Int) ai L v7 v48 v49 v50 v51 v52 v53 v54 v55 v56 v57 v58 v59 v60 v61 v62 v63 v64 w') (by kernel_rfl) (by kernel_rfl) ?h0 ?hst ?fin
            case h0 =>
              exact ⟨u, _, _, _, _, _, _, _, _, _, _, _, _, _, _, _, _, _, by simp only [Act.put, List.setIfInBounds_toArray, List.set_cons_zero, List.set_cons_succ]; exact rfl, ⟨fun _ => K.drew, fun h => (h : False).elim, fun _ => rfl, fun h => (h : False).elim, fun h => (h : False).elim, fun h => (h : False).elim, fun h => (h : False).elim, fun h => (h : False).elim, fun h => (h : False).elim, fun h => (h : False).elim, fun h => (h : False).elim, fun h => (h : False).elim, fun h => (h : False).elim, fun h => (h : False).elim, fun h => (h : False).elim, fun h => (h : False).elim, fun h => (h : False).elim, fun h => (h : False).elim, fun h => (h : False).elim, fun h => (h : False).elim⟩⟩
            case hst =>
              refine StepsFrom.cons rfl (fun L a w' hI hno hdep hcl K hK => ?_) ?_
              · obtain ⟨v7, v48, v49, v50, v51, v52, v53, v54, v55, v56, v57, v58, v59, v60, v61, v62, v63, v64, ha, F⟩ := hI
                have e7 := F.s7 (fun x => hno (hcl 17 0 (by kernel_rfl) x))
                subst ha
                simp only [Act.put, List.setIfInBounds_toArray, List.set_cons_zero, List.set_cons_succ, e7]
                go_simp
                exact hK.out _ _ ⟨v7, _, v49, v50, v51, v52, v53, v54, v55, v56, v57, v58, v59, v60, v61, v62, v63, v64, by simp only [Act.put, List.setIfInBounds_toArray, List.set_cons_zero, List.set_cons_succ, e7], ⟨fun h => F.k0 (fun x => h (Or.inr x)), fun h => F.k1 (h.resolve_left (by decide)), fun h => F.s7 (fun x => h (Or.inr x)), fun _ => rfl, fun h => F.f1 (h.resolve_left (by decide)), fun h => F.f2 (h.resolve_left (by decide)), fun h => F.f3 (h.resolve_left (by decide)), fun h => F.f4 (h.resolve_left (by decide)), fun h => F.f5 (h.resolve_left (by decide)), fun h => F.f6 (h.resolve_left (by decide)), fun h => F.f7 (h.resolve_left (by decide)), fun h => F.f8 (h.resolve_left (by decide)), fun h => F.f9 (h.resolve_left (by decide)), fun h => F.f10 (h.resolve_left (by decide)), fun h => F.f11 (h.resolve_left (by decide)), fun h => F.f12 (h.resolve_left (by decide)), fun h => F.f13 (h.resolve_left (by decide)), fun h => F.f14 (h.resolve_left (by decide)), fun h hn => F.f15 (h.resolve_left (by decide)) (fun x => hn (Or.inr x)), fun h => F.f17 (h.resolve_left (by decide))⟩⟩
              refine StepsFrom.cons rfl (fun L a w' hI hno hdep hcl K hK => ?_) ?_
              · obtain ⟨v7, v48, v49, v50, v51, v52, v53, v54, v55, v56, v57, v58, v59, v60, v61, v62, v63, v64, ha, F⟩ := hI
                subst ha
                simp only [Act.put, List.setIfInBounds_toArray, List.set_cons_zero, List.set_cons_succ]
                go_simp
                exact hK.out _ _ ⟨v7, v48, _, v50, v51, v52, v53, v54, v55, v56, v57, v58, v59, v60, v61, v62, v63, v64, by simp only [Act.put, List.setIfInBounds_toArray, List.set_cons_zero, List.set_cons_succ], ⟨fun h => F.k0 (fun x => h (Or.inr x)), fun h => F.k1 (h.resolve_left (by decide)), fun h => F.s7 (fun x => h (Or.inr x)), fun h => F.f0 (h.resolve_left (by decide)), fun _ => rfl, fun h => F.f2 (h.resolve_left (by decide)), fun h => F.f3 (h.resolve_left (by decide)), fun h => F.f4 (h.resolve_left (by decide)), fun h => F.f5 (h.resolve_left (by decide)), fun h => F.f6 (h.resolve_left (by decide)), fun h => F.f7 (h.resolve_left (by decide)), fun h => F.f8 (h.resolve_left (by decide)), fun h => F.f9 (h.resolve_left (by decide)), fun h => F.f10 (h.resolve_left (by decide)), fun h => F.f11 (h.resolve_left (by decide)), fun h => F.f12 (h.resolve_left (by decide)), fun h => F.f13 (h.resolve_left (by decide)), fun h => F.f14 (h.resolve_left (by decide)), fun h hn => F.f15 (h.resolve_left (by decide)) (fun x => hn (Or.inr x)), fun h => F.f17 (h.resolve_left (by decide))⟩⟩
              refine StepsFrom.cons rfl (fun L a w' hI hno hdep hcl K hK => ?_) ?_
              · obtain ⟨v7, v48, v49, v50, v51, v52, v53, v54, v55, v56, v57, v58, v59, v60, v61, v62, v63, v64, ha, F⟩ := hI
                subst ha
                simp only [Act.put, List.setIfInBounds_toArray, List.set_cons_zero, List.set_cons_succ]
                go_simp
                exact hK.out _ _ ⟨v7, v48, v49, _, v51, v52, v53, v54, v55, v56, v57, v58, v59, v60, v61, v62, v63, v64, by simp only [Act.put, List.setIfInBounds_toArray, List.set_cons_zero, List.set_cons_succ], ⟨fun h => F.k0 (fun x => h (Or.inr x)), fun h => F.k1 (h.resolve_left (by decide)), fun h => F.s7 (fun x => h (Or.inr x)), fun h => F.f0 (h.resolve_left (by decide)), fun h => F.f1 (h.resolve_left (by decide)), fun _ => rfl, fun h => F.f3 (h.resolve_left (by decide)), fun h => F.f4 (h.resolve_left (by decide)), fun h => F.f5 (h.resolve_left (by decide)), fun h => F.f6 (h.resolve_left (by decide)), fun h => F.f7 (h.resolve_left (by decide)), fun h => F.f8 (h.resolve_left (by decide)), fun h => F.f9 (h.resolve_left (by decide)), fun h => F.f10 (h.resolve_left (by decide)), fun h => F.f11 (h.resolve_left (by decide)), fun h => F.f12 (h.resolve_left (by decide)), fun h => F.f13 (h.resolve_left (by decide)), fun h => F.f14 (h.resolve_left (by decide)), fun h hn => F.f15 (h.resolve_left (by decide)) (fun x => hn (Or.inr x)), fun h => F.f17 (h.resolve_left (by decide))⟩⟩
              refine StepsFrom.cons rfl (fun L a w' hI hno hdep hcl K hK => ?_) ?_
              · obtain ⟨v7, v48, v49, v50, v51, v52, v53, v54, v55, v56, v57, v58, v59, v60, v61, v62, v63, v64, ha, F⟩ := hI
                have e50 := F.f2 (hdep 2 (by kernel_rfl))
                have ew : IntKind.i64.wrap (ai + 1) = ai + 1 := IntWalk.i64_in _ (by omega)
                subst ha
                simp only [Act.put, List.setIfInBounds_toArray, List.set_cons_zero, List.set_cons_succ, e50]
                go_simp
                exact hK.out _ _ ⟨v7, v48, v49, v50, .int .i64 (ai + 1), v52, v53, v54, v55, v56, v57, v58, v59, v60, v61, v62, v63, v64, by simp only [Act.put, List.setIfInBounds_toArray, List.set_cons_zero, List.set_cons_succ, e50], ⟨fun h => F.k0 (fun x => h (Or.inr x)), fun h => F.k1 (h.resolve_left (by decide)), fun h => F.s7 (fun x => h (Or.inr x)), fun h => F.f0 (h.resolve_left (by decide)), fun h => F.f1 (h.resolve_left (by decide)), fun h => F.f2 (h.resolve_left (by decide)), fun _ => rfl, fun h => F.f4 (h.resolve_left (by decide)), fun h => F.f5 (h.resolve_left (by decide)), fun h => F.f6 (h.resolve_left (by decide)), fun h => F.f7 (h.resolve_left (by decide)), fun h => F.f8 (h.resolve_left (by decide)), fun h => F.f9 (h.resolve_left (by decide)), fun h => F.f10 (h.resolve_left (by decide)), fun h => F.f11 (h.resolve_left (by decide)), fun h => F.f12 (h.resolve_left (by decide)), fun h => F.f13 (h.resolve_left (by decide)), fun h => F.f14 (h.resolve_left (by decide)), fun h hn => F.f15 (h.resolve_left (by decide)) (fun x => hn (Or.inr x)), fun h => F.f17 (h.resolve_left (by decide))⟩⟩
              refine StepsFrom.cons rfl (fun L a w' hI hno hdep hcl K hK => ?_) ?_
              · obtain ⟨v7, v48, v49, v50, v51, v52, v53, v54, v55, v56, v57, v58, v59, v60, v61, v62, v63, v64, ha, F⟩ := hI
                subst ha
                simp only [Act.put, List.setIfInBounds_toArray, List.set_cons_zero, List.set_cons_succ]
                go_simp
                exact hK.out _ _ ⟨v7, v48, v49, v50, v51, _, v53, v54, v55, v56, v57, v58, v59, v60, v61, v62, v63, v64, by simp only [Act.put, List.setIfInBounds_toArray, List.set_cons_zero, List.set_cons_succ], ⟨fun h => F.k0 (fun x => h (Or.inr x)), fun h => F.k1 (h.resolve_left (by decide)), fun h => F.s7 (fun x => h (Or.inr x)), fun h => F.f0 (h.resolve_left (by decide)), fun h => F.f1 (h.resolve_left (by decide)), fun h => F.f2 (h.resolve_left (by decide)), fun h => F.f3 (h.resolve_left (by decide)), fun _ => rfl, fun h => F.f5 (h.resolve_left (by decide)), fun h => F.f6 (h.resolve_left (by decide)), fun h => F.f7 (h.resolve_left (by decide)), fun h => F.f8 (h.resolve_left (by decide)), fun h => F.f9 (h.resolve_left (by decide)), fun h => F.f10 (h.resolve_left (by decide)), fun h => F.f11 (h.resolve_left (by decide)), fun h => F.f12 (h.resolve_left (by decide)), fun h => F.f13 (h.resolve_left (by decide)), fun h => F.f14 (h.resolve_left (by decide)), fun h hn => F.f15 (h.resolve_left (by decide)) (fun x => hn (Or.inr x)), fun h => F.f17 (h.resolve_left (by decide))⟩⟩
              refine StepsFrom.cons rfl (fun L a w' hI hno hdep hcl K hK => ?_) ?_
              · obtain ⟨v7, v48, v49, v50, v51, v52, v53, v54, v55, v56, v57, v58, v59, v60, v61, v62, v63, v64, ha, F⟩ := hI
                subst ha
                simp only [Act.put, List.setIfInBounds_toArray, List.set_cons_zero, List.set_cons_succ]
                go_simp
                exact hK.out _ _ ⟨v7, v48, v49, v50, v51, v52, _, v54, v55, v56, v57, v58, v59, v60, v61, v62, v63, v64, by simp only [Act.put, List.setIfInBounds_toArray, List.set_cons_zero, List.set_cons_succ], ⟨fun h => F.k0 (fun x => h (Or.inr x)), fun h => F.k1 (h.resolve_left (by decide)), fun h => F.s7 (fun x => h (Or.inr x)), fun h => F.f0 (h.resolve_left (by decide)), fun h => F.f1 (h.resolve_left (by decide)), fun h => F.f2 (h.resolve_left (by decide)), fun h => F.f3 (h.resolve_left (by decide)), fun h => F.f4 (h.resolve_left (by decide)), fun _ => rfl, fun h => F.f6 (h.resolve_left (by decide)), fun h => F.f7 (h.resolve_left (by decide)), fun h => F.f8 (h.resolve_left (by decide)), fun h => F.f9 (h.resolve_left (by decide)), fun h => F.f10 (h.resolve_left (by decide)), fun h => F.f11 (h.resolve_left (by decide)), fun h => F.f12 (h.resolve_left (by decide)), fun h => F.f13 (h.resolve_left (by decide)), fun h => F.f14 (h.resolve_left (by decide)), fun h hn => F.f15 (h.resolve_left (by decide)) (fun x => hn (Or.inr x)), fun h => F.f17 (h.resolve_left (by decide))⟩⟩
              refine StepsFrom.cons rfl (fun L a w' hI hno hdep hcl K hK => ?_) ?_
              · obtain ⟨v7, v48, v49, v50, v51, v52, v53, v54, v55, v56, v57, v58, v59, v60, v61, v62, v63, v64, ha, F⟩ := hI
                have e53 := F.f5 (hdep 5 (by kernel_rfl))
                have ew : IntKind.i64.wrap ((n : Int) - 1) = (n : Int) - 1 := IntWalk.i64_in _ (by omega)
                subst ha
                simp only [Act.put, List.setIfInBounds_toArray, List.set_cons_zero, List.set_cons_succ, e53]
                go_simp
                exact hK.out _ _ ⟨v7, v48, v49, v50, v51, v52, v53, .int .i64 ((n : Int) - 1), v55, v56, v57, v58, v59, v60, v61, v62, v63, v64, by simp only [Act.put, List.setIfInBounds_toArray, List.set_cons_zero, List.set_cons_succ, e53], ⟨fun h => F.k0 (fun x => h (Or.inr x)), fun h => F.k1 (h.resolve_left (by decide)), fun h => F.s7 (fun x => h (Or.inr x)), fun h => F.f0 (h.resolve_left (by decide)), fun h => F.f1 (h.resolve_left (by decide)), fun h => F.f2 (h.resolve_left (by decide)), fun h => F.f3 (h.resolve_left (by decide)), fun h => F.f4 (h.resolve_left (by decide)), fun h => F.f5 (h.resolve_left (by decide)), fun _ => rfl, fun h => F.f7 (h.resolve_left (by decide)), fun h => F.f8 (h.resolve_left (by decide)), fun h => F.f9 (h.resolve_left (by decide)), fun h => F.f10 (h.resolve_left (by decide)), fun h => F.f11 (h.resolve_left (by decide)), fun h => F.f12 (h.resolve_left (by decide)), fun h => F.f13 (h.resolve_left (by decide)), fun h => F.f14 (h.resolve_left (by decide)), fun h hn => F.f15 (h.resolve_left (by decide)) (fun x => hn (Or.inr x)), fun h => F.f17 (h.resolve_left (by decide))⟩⟩
              refine StepsFrom.cons rfl (fun L a w' hI hno hdep hcl K hK => ?_) ?_
              · obtain ⟨v7, v48, v49, v50, v51, v52, v53, v54, v55, v56, v57, v58, v59, v60, v61, v62, v63, v64, ha, F⟩ := hI
                have e52 := F.f4 (hdep 4 (by kernel_rfl))
                have e54 := F.f6 (hdep 6 (by kernel_rfl))
                have n16 : ¬ L 16 := fun x => hno (hcl 16 7 (by kernel_rfl) x)
                have K := F.k0 n16
                subst ha
                simp only [Act.put, List.setIfInBounds_toArray, List.set_cons_zero, List.set_cons_succ, e52, e54]
                go_simp
                refine (next' K.D ((n : Int) - 1) (by omega)).mono ?_
                rintro e w2 ⟨⟨x, rfl, x0, x1, -⟩, hD, hg2, -⟩
                have x1 := x1 (by omega)
                exact hK.out _ _ ⟨v7, v48, v49, v50, v51, v52, v53, v54, _, v56, v57, v58, v59, v60, v61, v62, v63, v64, by simp only [Act.put, List.setIfInBounds_toArray, List.set_cons_zero, List.set_cons_succ, e52, e54], ⟨fun _ => K.grown hD hg2, fun h => absurd (h.resolve_left (by decide)) n16, fun h => F.s7 (fun x => h (Or.inr x)), fun h => F.f0 (h.resolve_left (by decide)), fun h => F.f1 (h.resolve_left (by decide)), fun h => F.f2 (h.resolve_left (by decide)), fun h => F.f3 (h.resolve_left (by decide)), fun h => F.f4 (h.resolve_left (by decide)), fun h => F.f5 (h.resolve_left (by decide)), fun h => F.f6 (h.resolve_left (by decide)), fun _ => ⟨x, rfl, x0, by omega⟩, fun h => F.f8 (h.resolve_left (by decide)), fun h => F.f9 (h.resolve_left (by decide)), fun h => F.f10 (h.resolve_left (by decide)), fun h => F.f11 (h.resolve_left (by decide)), fun h => F.f12 (h.resolve_left (by decide)), fun h => F.f13 (h.resolve_left (by decide)), fun h => F.f14 (h.resolve_left (by decide)), fun h hn => by obtain ⟨k, x, y, z, e, h1, h2, h3⟩ := F.f15 (h.resolve_left (by decide)) (fun x => hn (Or.inr x)); exact ⟨k, x, y, z, e, h1, h2.grown hg2 (fun i hi => by simp at hi; have := K.lt; omega), h3⟩, fun h => F.f17 (h.resolve_left (by decide))⟩⟩
              refine StepsFrom.cons rfl (fun L a w' hI hno hdep hcl K hK => ?_) ?_
              · obtain ⟨v7, v48, v49, v50, v51, v52, v53, v54, v55, v56, v57, v58, v59, v60, v61, v62, v63, v64, ha, F⟩ := hI
                have e51 := F.f3 (hdep 3 (by kernel_rfl))
                obtain ⟨x, e55, x0, x1⟩ := F.f7 (hdep 7 (by kernel_rfl))
                have ew : IntKind.i64.wrap (ai + 1 + x) = ai + 1 + x := IntWalk.i64_in _ (by omega)
                subst ha
                simp only [Act.put, List.setIfInBounds_toArray, List.set_cons_zero, List.set_cons_succ, e51, e55]
                go_simp
                exact hK.out _ _ ⟨v7, v48, v49, v50, v51, v52, v53, v54, v55, .int .i64 (ai + 1 + x), v57, v58, v59, v60, v61, v62, v63, v64, by simp only [Act.put, List.setIfInBounds_toArray, List.set_cons_zero, List.set_cons_succ, e51, e55], ⟨fun h => F.k0 (fun x => h (Or.inr x)), fun h => F.k1 (h.resolve_left (by decide)), fun h => F.s7 (fun x => h (Or.inr x)), fun h => F.f0 (h.resolve_left (by decide)), fun h => F.f1 (h.resolve_left (by decide)), fun h => F.f2 (h.resolve_left (by decide)), fun h => F.f3 (h.resolve_left (by decide)), fun h => F.f4 (h.resolve_left (by decide)), fun h => F.f5 (h.resolve_left (by decide)), fun h => F.f6 (h.resolve_left (by decide)), fun h => F.f7 (h.resolve_left (by decide)), fun _ => ⟨x, rfl, x0, x1⟩, fun h => F.f9 (h.resolve_left (by decide)), fun h => F.f10 (h.resolve_left (by decide)), fun h => F.f11 (h.resolve_left (by decide)), fun h => F.f12 (h.resolve_left (by decide)), fun h => F.f13 (h.resolve_left (by decide)), fun h => F.f14 (h.resolve_left (by decide)), fun h hn => F.f15 (h.resolve_left (by decide)) (fun x => hn (Or.inr x)), fun h => F.f17 (h.resolve_left (by decide))⟩⟩
              refine StepsFrom.cons rfl (fun L a w' hI hno hdep hcl K hK => ?_) ?_
              · obtain ⟨v7, v48, v49, v50, v51, v52, v53, v54, v55, v56, v57, v58, v59, v60, v61, v62, v63, v64, ha, F⟩ := hI
                subst ha
                simp only [Act.put, List.setIfInBounds_toArray, List.set_cons_zero, List.set_cons_succ]
                go_simp
                exact hK.out _ _ ⟨v7, v48, v49, v50, v51, v52, v53, v54, v55, v56, _, v58, v59, v60, v61, v62, v63, v64, by simp only [Act.put, List.setIfInBounds_toArray, List.set_cons_zero, List.set_cons_succ], ⟨fun h => F.k0 (fun x => h (Or.inr x)), fun h => F.k1 (h.resolve_left (by decide)), fun h => F.s7 (fun x => h (Or.inr x)), fun h => F.f0 (h.resolve_left (by decide)), fun h => F.f1 (h.resolve_left (by decide)), fun h => F.f2 (h.resolve_left (by decide)), fun h => F.f3 (h.resolve_left (by decide)), fun h => F.f4 (h.resolve_left (by decide)), fun h => F.f5 (h.resolve_left (by decide)), fun h => F.f6 (h.resolve_left (by decide)), fun h => F.f7 (h.resolve_left (by decide)), fun h => F.f8 (h.resolve_left (by decide)), fun _ => rfl, fun h => F.f10 (h.resolve_left (by decide)), fun h => F.f11 (h.resolve_left (by decide)), fun h => F.f12 (h.resolve_left (by decide)), fun h => F.f13 (h.resolve_left (by decide)), fun h => F.f14 (h.resolve_left (by decide)), fun h hn => F.f15 (h.resolve_left (by decide)) (fun x => hn (Or.inr x)), fun h => F.f17 (h.resolve_left (by decide))⟩⟩
              refine StepsFrom.cons rfl (fun L a w' hI hno hdep hcl K hK => ?_) ?_
              · obtain ⟨v7, v48, v49, v50, v51, v52, v53, v54, v55, v56, v57, v58, v59, v60, v61, v62, v63, v64, ha, F⟩ := hI
                have e57 := F.f9 (hdep 9 (by kernel_rfl))
                obtain ⟨x, e56, x0, x1⟩ := F.f8 (hdep 8 (by kernel_rfl))
                have n0 : n ≠ 0 := by omega
                have et : (ai + 1 + x).tmod (n : Int) = (ai + 1 + x) % (n : Int) := Int.tmod_eq_emod_of_nonneg (by omega)
                have eb := Int.emod_nonneg (ai + 1 + x) (show (n : Int) ≠ 0 from by omega)
                have ec := Int.emod_lt_of_pos (ai + 1 + x) (show (0 : Int) < n from by omega)
                have ew : IntKind.i64.wrap ((ai + 1 + x) % (n : Int)) = (ai + 1 + x) % (n : Int) := IntWalk.i64_in _ (by omega)
                subst ha
                simp only [Act.put, List.setIfInBounds_toArray, List.set_cons_zero, List.set_cons_succ, e56, e57]
                go_simp
                exact hK.out _ _ ⟨v7, v48, v49, v50, v51, v52, v53, v54, v55, v56, v57, .int .i64 ((ai + 1 + x) % (n : Int)), v59, v60, v61, v62, v63, v64, by simp only [Act.put, List.setIfInBounds_toArray, List.set_cons_zero, List.set_cons_succ, e56, e57], ⟨fun h => F.k0 (fun x => h (Or.inr x)), fun h => F.k1 (h.resolve_left (by decide)), fun h => F.s7 (fun x => h (Or.inr x)), fun h => F.f0 (h.resolve_left (by decide)), fun h => F.f1 (h.resolve_left (by decide)), fun h => F.f2 (h.resolve_left (by decide)), fun h => F.f3 (h.resolve_left (by decide)), fun h => F.f4 (h.resolve_left (by decide)), fun h => F.f5 (h.resolve_left (by decide)), fun h => F.f6 (h.resolve_left (by decide)), fun h => F.f7 (h.resolve_left (by decide)), fun h => F.f8 (h.resolve_left (by decide)), fun h => F.f9 (h.resolve_left (by decide)), fun _ => ⟨_, rfl⟩, fun h => F.f11 (h.resolve_left (by decide)), fun h => F.f12 (h.resolve_left (by decide)), fun h => F.f13 (h.resolve_left (by decide)), fun h => F.f14 (h.resolve_left (by decide)), fun h hn => F.f15 (h.resolve_left (by decide)) (fun x => hn (Or.inr x)), fun h => F.f17 (h.resolve_left (by decide))⟩⟩
              refine StepsFrom.cons rfl (fun L a w' hI hno hdep hcl K hK => ?_) ?_
              · obtain ⟨v7, v48, v49, v50, v51, v52, v53, v54, v55, v56, v57, v58, v59, v60, v61, v62, v63, v64, ha, F⟩ := hI
                subst ha
                simp only [Act.put, List.setIfInBounds_toArray, List.set_cons_zero, List.set_cons_succ]
                go_simp
                exact hK.out _ _ ⟨v7, v48, v49, v50, v51, v52, v53, v54, v55, v56, v57, v58, _, v60, v61, v62, v63, v64, by simp only [Act.put, List.setIfInBounds_toArray, List.set_cons_zero, List.set_cons_succ], ⟨fun h => F.k0 (fun x => h (Or.inr x)), fun h => F.k1 (h.resolve_left (by decide)), fun h => F.s7 (fun x => h (Or.inr x)), fun h => F.f0 (h.resolve_left (by decide)), fun h => F.f1 (h.resolve_left (by decide)), fun h => F.f2 (h.resolve_left (by decide)), fun h => F.f3 (h.resolve_left (by decide)), fun h => F.f4 (h.resolve_left (by decide)), fun h => F.f5 (h.resolve_left (by decide)), fun h => F.f6 (h.resolve_left (by decide)), fun h => F.f7 (h.resolve_left (by decide)), fun h => F.f8 (h.resolve_left (by decide)), fun h => F.f9 (h.resolve_left (by decide)), fun h => F.f10 (h.resolve_left (by decide)), fun _ => rfl, fun h => F.f12 (h.resolve_left (by decide)), fun h => F.f13 (h.resolve_left (by decide)), fun h => F.f14 (h.resolve_left (by decide)), fun h hn => F.f15 (h.resolve_left (by decide)) (fun x => hn (Or.inr x)), fun h => F.f17 (h.resolve_left (by decide))⟩⟩
              refine StepsFrom.cons rfl (fun L a w' hI hno hdep hcl K hK => ?_) ?_
              · obtain ⟨v7, v48, v49, v50, v51, v52, v53, v54, v55, v56, v57, v58, v59, v60, v61, v62, v63, v64, ha, F⟩ := hI
                have e59 := F.f11 (hdep 11 (by kernel_rfl))
                have n16 : ¬ L 16 := fun x => hno (hcl 16 12 (by kernel_rfl) x)
                have K := F.k0 n16
                subst ha
                simp only [Act.put, List.setIfInBounds_toArray, List.set_cons_zero, List.set_cons_succ, e59]
                go_simp
                refine (next' K.D 11 (by omega)).mono ?_
                rintro e w2 ⟨⟨x, rfl, x0, x1, -⟩, hD, hg2, -⟩
                have x1 := x1 (by omega)
                exact hK.out _ _ ⟨v7, v48, v49, v50, v51, v52, v53, v54, v55, v56, v57, v58, v59, _, v61, v62, v63, v64, by simp only [Act.put, List.setIfInBounds_toArray, List.set_cons_zero, List.set_cons_succ, e59], ⟨fun _ => K.grown hD hg2, fun h => absurd (h.resolve_left (by decide)) n16, fun h => F.s7 (fun x => h (Or.inr x)), fun h => F.f0 (h.resolve_left (by decide)), fun h => F.f1 (h.resolve_left (by decide)), fun h => F.f2 (h.resolve_left (by decide)), fun h => F.f3 (h.resolve_left (by decide)), fun h => F.f4 (h.resolve_left (by decide)), fun h => F.f5 (h.resolve_left (by decide)), fun h => F.f6 (h.resolve_left (by decide)), fun h => F.f7 (h.resolve_left (by decide)), fun h => F.f8 (h.resolve_left (by decide)), fun h => F.f9 (h.resolve_left (by decide)), fun h => F.f10 (h.resolve_left (by decide)), fun h => F.f11 (h.resolve_left (by decide)), fun _ => ⟨x, rfl, x0, x1⟩, fun h => F.f13 (h.resolve_left (by decide)), fun h => F.f14 (h.resolve_left (by decide)), fun h hn => by obtain ⟨k, x, y, z, e, h1, h2, h3⟩ := F.f15 (h.resolve_left (by decide)) (fun x => hn (Or.inr x)); exact ⟨k, x, y, z, e, h1, h2.grown hg2 (fun i hi => by simp at hi; have := K.lt; omega), h3⟩, fun h => F.f17 (h.resolve_left (by decide))⟩⟩
              refine StepsFrom.cons rfl (fun L a w' hI hno hdep hcl K hK => ?_) ?_
              · obtain ⟨v7, v48, v49, v50, v51, v52, v53, v54, v55, v56, v57, v58, v59, v60, v61, v62, v63, v64, ha, F⟩ := hI
                obtain ⟨x, e60, x0, x1⟩ := F.f12 (hdep 12 (by kernel_rfl))
                have ew : IntKind.i64.wrap (1 + x) = 1 + x := IntWalk.i64_in _ (by omega)
                subst ha
                simp only [Act.put, List.setIfInBounds_toArray, List.set_cons_zero, List.set_cons_succ, e60]
                go_simp
                exact hK.out _ _ ⟨v7, v48, v49, v50, v51, v52, v53, v54, v55, v56, v57, v58, v59, v60, .int .i64 (1 + x), v62, v63, v64, by simp only [Act.put, List.setIfInBounds_toArray, List.set_cons_zero, List.set_cons_succ, e60], ⟨fun h => F.k0 (fun x => h (Or.inr x)), fun h => F.k1 (h.resolve_left (by decide)), fun h => F.s7 (fun x => h (Or.inr x)), fun h => F.f0 (h.resolve_left (by decide)), fun h => F.f1 (h.resolve_left (by decide)), fun h => F.f2 (h.resolve_left (by decide)), fun h => F.f3 (h.resolve_left (by decide)), fun h => F.f4 (h.resolve_left (by decide)), fun h => F.f5 (h.resolve_left (by decide)), fun h => F.f6 (h.resolve_left (by decide)), fun h => F.f7 (h.resolve_left (by decide)), fun h => F.f8 (h.resolve_left (by decide)), fun h => F.f9 (h.resolve_left (by decide)), fun h => F.f10 (h.resolve_left (by decide)), fun h => F.f11 (h.resolve_left (by decide)), fun h => F.f12 (h.resolve_left (by decide)), fun _ => ⟨_, rfl⟩, fun h => F.f14 (h.resolve_left (by decide)), fun h hn => F.f15 (h.resolve_left (by decide)) (fun x => hn (Or.inr x)), fun h => F.f17 (h.resolve_left (by decide))⟩⟩
              refine StepsFrom.cons rfl (fun L a w' hI hno hdep hcl K hK => ?_) ?_
              · obtain ⟨v7, v48, v49, v50, v51, v52, v53, v54, v55, v56, v57, v58, v59, v60, v61, v62, v63, v64, ha, F⟩ := hI
                have e49 := F.f1 (hdep 1 (by kernel_rfl))
                obtain ⟨y, e58⟩ := F.f10 (hdep 10 (by kernel_rfl))
                obtain ⟨z, e61⟩ := F.f13 (hdep 13 (by kernel_rfl))
                subst ha
                simp only [Act.put, List.setIfInBounds_toArray, List.set_cons_zero, List.set_cons_succ, e49, e58, e61]
                go_simp
                exact hK.out _ _ ⟨v7, v48, v49, v50, v51, v52, v53, v54, v55, v56, v57, v58, v59, v60, v61, .agg #[.int .i64 ai, .int .i64 y, .int .i64 z], v63, v64, by simp only [Act.put, List.setIfInBounds_toArray, List.set_cons_zero, List.set_cons_succ, e49, e58, e61], ⟨fun h => F.k0 (fun x => h (Or.inr x)), fun h => F.k1 (h.resolve_left (by decide)), fun h => F.s7 (fun x => h (Or.inr x)), fun h => F.f0 (h.resolve_left (by decide)), fun h => F.f1 (h.resolve_left (by decide)), fun h => F.f2 (h.resolve_left (by decide)), fun h => F.f3 (h.resolve_left (by decide)), fun h => F.f4 (h.resolve_left (by decide)), fun h => F.f5 (h.resolve_left (by decide)), fun h => F.f6 (h.resolve_left (by decide)), fun h => F.f7 (h.resolve_left (by decide)), fun h => F.f8 (h.resolve_left (by decide)), fun h => F.f9 (h.resolve_left (by decide)), fun h => F.f10 (h.resolve_left (by decide)), fun h => F.f11 (h.resolve_left (by decide)), fun h => F.f12 (h.resolve_left (by decide)), fun h => F.f13 (h.resolve_left (by decide)), fun _ => ⟨_, _, _, rfl⟩, fun h hn => F.f15 (h.resolve_left (by decide)) (fun x => hn (Or.inr x)), fun h => F.f17 (h.resolve_left (by decide))⟩⟩
              refine StepsFrom.cons rfl (fun L a w' hI hno hdep hcl K hK => ?_) ?_
              · obtain ⟨v7, v48, v49, v50, v51, v52, v53, v54, v55, v56, v57, v58, v59, v60, v61, v62, v63, v64, ha, F⟩ := hI
                obtain ⟨x, y, z, e62⟩ := F.f14 (hdep 14 (by kernel_rfl))
                have n16 : ¬ L 16 := fun x => hno (hcl 16 15 (by kernel_rfl) x)
                have K := F.k0 n16
                have hsz := K.gr.size
                have hob := K.o7.2
                subst ha
                simp only [Act.put, List.setIfInBounds_toArray, List.set_cons_zero, List.set_cons_succ, e62]
                go_simp
                exact hK.out _ _ ⟨v7, v48, v49, v50, v51, v52, v53, v54, v55, v56, v57, v58, v59, v60, v61, v62, _, v64, by simp only [Act.put, List.setIfInBounds_toArray, List.set_cons_zero, List.set_cons_succ, e62], ⟨fun _ => K.alloc _, fun h => absurd (h.resolve_left (by decide)) n16, fun h => F.s7 (fun x => h (Or.inr x)), fun h => F.f0 (h.resolve_left (by decide)), fun h => F.f1 (h.resolve_left (by decide)), fun h => F.f2 (h.resolve_left (by decide)), fun h => F.f3 (h.resolve_left (by decide)), fun h => F.f4 (h.resolve_left (by decide)), fun h => F.f5 (h.resolve_left (by decide)), fun h => F.f6 (h.resolve_left (by decide)), fun h => F.f7 (h.resolve_left (by decide)), fun h => F.f8 (h.resolve_left (by decide)), fun h => F.f9 (h.resolve_left (by decide)), fun h => F.f10 (h.resolve_left (by decide)), fun h => F.f11 (h.resolve_left (by decide)), fun h => F.f12 (h.resolve_left (by decide)), fun h => F.f13 (h.resolve_left (by decide)), fun h => F.f14 (h.resolve_left (by decide)), fun _ _ => ⟨_, x, y, z, rfl, hsz, RowB.new _ _ _, fun h => by have := hob _ h; omega⟩, fun h => F.f17 (h.resolve_left (by decide))⟩⟩
              refine StepsFrom.cons rfl (fun L a w' hI hno hdep hcl K hK => ?_) ?_
              · obtain ⟨v7, v48, v49, v50, v51, v52, v53, v54, v55, v56, v57, v58, v59, v60, v61, v62, v63, v64, ha, F⟩ := hI
                have e48 := F.f0 (hdep 0 (by kernel_rfl))
                obtain ⟨k, x, y, z, e63, hk1, hk2, hk3⟩ := F.f15 (hdep 15 (by kernel_rfl)) hno
                have KT := F.k0 hno
                have hsz := KT.gr.size
                subst ha
                refine step_app rfl (.tmp 48) (.tmp 63) _ rfl w.heap.size w'.heap.size 54 i7 (.agg #[.int .i64 0, .int .i64 0, .int .i64 0]) 3 24 Try.underlying37 hi7 hm0 hm1 hm2 rfl (by decide) enI3_len one_M u ms [(x, y, z)] ?hs KT.o7 ⟨k, 0, none⟩ 1 1 ?hx rfl (news_new hk2) (by decide) (by unfold maxLen; omega) (by omega) hsz ?_
                case hs => simp only [Act.put, List.setIfInBounds_toArray, List.set_cons_zero, List.set_cons_succ, e48]; rfl
                case hx => simp only [Act.put, List.setIfInBounds_toArray, List.set_cons_zero, List.set_cons_succ, e63]; rfl
                intro k2 c2 w3 ho hg hat hlt
                show K (Act.put _ (some 64) _) _
                simp only [Act.put, List.setIfInBounds_toArray, List.set_cons_zero, List.set_cons_succ]
                exact hK.out _ _ ⟨v7, v48, v49, v50, v51, v52, v53, v54, v55, v56, v57, v58, v59, v60, v61, v62, v63, _, by simp only [Act.put, List.setIfInBounds_toArray, List.set_cons_zero, List.set_cons_succ, e48, e63], ⟨fun h => absurd (Or.inl rfl) h, fun _ => ⟨(x, y, z), KT.app7 ho hg hat⟩, fun h => F.s7 (fun x => h (Or.inr x)), fun h => F.f0 (h.resolve_left (by decide)), fun h => F.f1 (h.resolve_left (by decide)), fun h => F.f2 (h.resolve_left (by decide)), fun h => F.f3 (h.resolve_left (by decide)), fun h => F.f4 (h.resolve_left (by decide)), fun h => F.f5 (h.resolve_left (by decide)), fun h => F.f6 (h.resolve_left (by decide)), fun h => F.f7 (h.resolve_left (by decide)), fun h => F.f8 (h.resolve_left (by decide)), fun h => F.f9 (h.resolve_left (by decide)), fun h => F.f10 (h.resolve_left (by decide)), fun h => F.f11 (h.resolve_left (by decide)), fun h => F.f12 (h.resolve_left (by decide)), fun h => F.f13 (h.resolve_left (by decide)), fun h => F.f14 (h.resolve_left (by decide)), fun _ h => absurd (Or.inl rfl) h, fun h => absurd (hcl 17 16 (by kernel_rfl) (h.resolve_left (by decide))) hno⟩⟩
              refine StepsFrom.cons rfl (fun L a w' hI hno hdep hcl K hK => ?_) ?_
              · obtain ⟨v7, v48, v49, v50, v51, v52, v53, v54, v55, v56, v57, v58, v59, v60, v61, v62, v63, v64, ha, F⟩ := hI
                subst ha
                simp only [Act.put, List.setIfInBounds_toArray, List.set_cons_zero, List.set_cons_succ]
                go_simp
                exact hK.out _ _ ⟨_, v48, v49, v50, v51, v52, v53, v54, v55, v56, v57, v58, v59, v60, v61, v62, v63, v64, by simp only [Act.put, List.setIfInBounds_toArray, List.set_cons_zero, List.set_cons_succ], ⟨fun h => F.k0 (fun x => h (Or.inr x)), fun h => F.k1 (h.resolve_left (by decide)), fun h => absurd (Or.inl rfl) h, fun h => F.f0 (h.resolve_left (by decide)), fun h => F.f1 (h.resolve_left (by decide)), fun h => F.f2 (h.resolve_left (by decide)), fun h => F.f3 (h.resolve_left (by decide)), fun h => F.f4 (h.resolve_left (by decide)), fun h => F.f5 (h.resolve_left (by decide)), fun h => F.f6 (h.resolve_left (by decide)), fun h => F.f7 (h.resolve_left (by decide)), fun h => F.f8 (h.resolve_left (by decide)), fun h => F.f9 (h.resolve_left (by decide)), fun h => F.f10 (h.resolve_left (by decide)), fun h => F.f11 (h.resolve_left (by decide)), fun h => F.f12 (h.resolve_left (by decide)), fun h => F.f13 (h.resolve_left (by decide)), fun h => F.f14 (h.resolve_left (by decide)), fun h hn => F.f15 (h.resolve_left (by decide)) (fun x => hn (Or.inr x)), fun _ => rfl⟩⟩
              exact StepsFrom.nil (by decide)
            case fin =>
              rintro L a' w5 ⟨v7, v48, v49, v50, v51, v52, v53, v54, v55, v56, v57, v58, v59, v60, v61, v62, v63, v64, rfl, F⟩ hL
              obtain ⟨m, K⟩ := F.k1 (hL 16 (by decide))
              have e7 := F.f17 (hL 17 (by decide))
              subst e7
              clear F hL
              simp only [Act.put, List.setIfInBounds_toArray, List.set_cons_zero, List.set_cons_succ]
              go_wp2_with fail
              go_roundw
              case rel => exact ⟨_, ms ++ [m], j, rfl, by simp; omega, by omega, by go_num, by simp; omega, K⟩
              case measure => simp [intOf] <;> omega
          · have n1' : decide ((1 : Int) < (n : Int)) = false := decide_eq_false (by omega)
            go_wp2_with fail
            refine (next' K.D 30 (by decide)).mono ?_
            rintro e w3 ⟨⟨t, rfl, t0, t1, -⟩, hD, hg, -⟩
            have K := K.grown hD hg
            clear hD hg
            have hsz := K.gr.size
            by_cases e0 : t = 0
            case pos =>
              subst e0
              go_wp2_with (at_builtin; refine wpL_app rfl _ _ _ rfl w.heap.size _ 54 i7 (.agg #[.int .i64 0, .int .i64 0, .int .i64 0]) 3 24 Try.underlying37 hi7 hm0 hm1 hm2 rfl (by decide) enI3_len one_M u ms [(1, 1, 1)] rfl ((K.alloc _).o7) ⟨w3.heap.size, 0, none⟩ 1 1 rfl rfl (news_new (RowB.new _ _ _)) (by decide) ?c1 ?c2 ?c3 ?_)
              case c1 => unfold maxLen; omega
              case c2 => omega
              case c3 => go_size
              intro k2 c2 w6 ho hg hat hlt6
              have K6 := (K.alloc _).app7 ho hg (hat.imp_right (fun h => by rw [World.size_alloc]; exact h))
              clear ho hg hat K
              go_wp2_with fail
              go_ret2
              exact ⟨_, _, ls, ms ++ [(1, 1, 1)], rfl, K6, by rw [HN.out]; omega, by simp; omega⟩
            by_cases e1 : t = 1
            case pos =>
              subst e1
              go_wp2_with (at_builtin; refine wpL_app rfl _ _ _ rfl w.heap.size _ 54 i7 (.agg #[.int .i64 0, .int .i64 0, .int .i64 0]) 3 24 Try.underlying37 hi7 hm0 hm1 hm2 rfl (by decide) enI3_len one_M u ms [((n : Int), 0, 1)] rfl ((K.alloc _).o7) ⟨w3.heap.size, 0, none⟩ 1 1 rfl rfl (news_new (RowB.new _ _ _)) (by decide) ?c1 ?c2 ?c3 ?_)
              case c1 => unfold maxLen; omega
              case c2 => omega
              case c3 => go_size
              intro k2 c2 w6 ho hg hat hlt6
              have K6 := (K.alloc _).app7 ho hg (hat.imp_right (fun h => by rw [World.size_alloc]; exact h))
              clear ho hg hat K
              go_wp2_with fail
              go_ret2
              exact ⟨_, _, ls, ms ++ [((n : Int), 0, 1)], rfl, K6, by rw [HN.out]; omega, by simp; omega⟩
            by_cases e2 : t = 2
            case pos =>
              subst e2
              go_wp2_with (at_builtin; refine wpL_app rfl _ _ _ rfl w.heap.size _ 54 i7 (.agg #[.int .i64 0, .int .i64 0, .int .i64 0]) 3 24 Try.underlying37 hi7 hm0 hm1 hm2 rfl (by decide) enI3_len one_M u ms [(1, 0, 26)] rfl ((K.alloc _).o7) ⟨w3.heap.size, 0, none⟩ 1 1 rfl rfl (news_new (RowB.new _ _ _)) (by decide) ?c1 ?c2 ?c3 ?_)
              case c1 => unfold maxLen; omega
              case c2 => omega
              case c3 => go_size
              intro k2 c2 w6 ho hg hat hlt6
              have K6 := (K.alloc _).app7 ho hg (hat.imp_right (fun h => by rw [World.size_alloc]; exact h))
              clear ho hg hat K
              go_wp2_with fail
              go_ret2
              exact ⟨_, _, ls, ms ++ [(1, 0, 26)], rfl, K6, by rw [HN.out]; omega, by simp; omega⟩
            have f0 : (t == 0) = false := by simp [e0]
            have f1 : (t == 1) = false := by simp [e1]
            have f2 : (t == 2) = false := by simp [e2]
            clear e0 e1 e2
            go_wp2_with fail
            go_ret2
            exact ⟨_, _, ls, ms, rfl, K, by rw [HN.out]; omega, by omega⟩
        · obtain rfl : j = 0 := by omega
          go_wp2_with fail
          refine (next' K.D 30 (by decide)).mono ?_
          rintro e w3 ⟨⟨t, rfl, t0, t1, -⟩, hD, hg, -⟩
          have K := K.grown hD hg
          clear hD hg
          have hsz := K.gr.size
          by_cases e0 : t = 0
          case pos =>
            subst e0
            go_wp2_with (at_builtin; refine wpL_app rfl _ _ _ rfl w.heap.size _ 54 i7 (.agg #[.int .i64 0, .int .i64 0, .int .i64 0]) 3 24 Try.underlying37 hi7 hm0 hm1 hm2 rfl (by decide) enI3_len one_M u ms [(1, 1, 1)] rfl ((K.alloc _).o7) ⟨w3.heap.size, 0, none⟩ 1 1 rfl rfl (news_new (RowB.new _ _ _)) (by decide) ?c1 ?c2 ?c3 ?_)
            case c1 => unfold maxLen; omega
            case c2 => omega
            case c3 => go_size
            intro k2 c2 w6 ho hg hat hlt6
            have K6 := (K.alloc _).app7 ho hg (hat.imp_right (fun h => by rw [World.size_alloc]; exact h))
            clear ho hg hat K
            go_wp2_with fail
            go_ret2
            exact ⟨_, _, ls, ms ++ [(1, 1, 1)], rfl, K6, by rw [HN.out]; omega, by simp; omega⟩
          by_cases e1 : t = 1
          case pos =>
            subst e1
            go_wp2_with (at_builtin; refine wpL_app rfl _ _ _ rfl w.heap.size _ 54 i7 (.agg #[.int .i64 0, .int .i64 0, .int .i64 0]) 3 24 Try.underlying37 hi7 hm0 hm1 hm2 rfl (by decide) enI3_len one_M u ms [((n : Int), 0, 1)] rfl ((K.alloc _).o7) ⟨w3.heap.size, 0, none⟩ 1 1 rfl rfl (news_new (RowB.new _ _ _)) (by decide) ?c1 ?c2 ?c3 ?_)
            case c1 => unfold maxLen; omega
            case c2 => omega
            case c3 => go_size
            intro k2 c2 w6 ho hg hat hlt6
            have K6 := (K.alloc _).app7 ho hg (hat.imp_right (fun h => by rw [World.size_alloc]; exact h))
            clear ho hg hat K
            go_wp2_with fail
            go_ret2
            exact ⟨_, _, ls, ms ++ [((n : Int), 0, 1)], rfl, K6, by rw [HN.out]; omega, by simp; omega⟩
          by_cases e2 : t = 2
          case pos =>
            subst e2
            go_wp2_with (at_builtin; refine wpL_app rfl _ _ _ rfl w.heap.size _ 54 i7 (.agg #[.int .i64 0, .int .i64 0, .int .i64 0]) 3 24 Try.underlying37 hi7 hm0 hm1 hm2 rfl (by decide) enI3_len one_M u ms [(1, 0, 26)] rfl ((K.alloc _).o7) ⟨w3.heap.size, 0, none⟩ 1 1 rfl rfl (news_new (RowB.new _ _ _)) (by decide) ?c1 ?c2 ?c3 ?_)
            case c1 => unfold maxLen; omega
            case c2 => omega
            case c3 => go_size
            intro k2 c2 w6 ho hg hat hlt6
            have K6 := (K.alloc _).app7 ho hg (hat.imp_right (fun h => by rw [World.size_alloc]; exact h))
            clear ho hg hat K
            go_wp2_with fail
            go_ret2
            exact ⟨_, _, ls, ms ++ [(1, 0, 26)], rfl, K6, by rw [HN.out]; omega, by simp; omega⟩
          have f0 : (t == 0) = false := by simp [e0]
          have f1 : (t == 1) = false := by simp [e1]
          have f2 : (t == 2) = false := by simp [e2]
          clear e0 e1 e2
          go_wp2_with fail
          go_ret2
          exact ⟨_, _, ls, ms, rfl, K, by rw [HN.out]; omega, by omega⟩
end Go.Proofs.Ytjmckpaemmjcmaa.DrawL
