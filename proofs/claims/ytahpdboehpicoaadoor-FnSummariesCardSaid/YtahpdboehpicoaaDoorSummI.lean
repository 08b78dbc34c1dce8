/-
  SummaryOf of the program. Conditions: each theorem's own.
-/
import Derived.Test.YtahpdboehpicoaaDoorSummPlain
import Derived.Deep.DeepCutAuto
set_option linter.unusedVariables false
namespace Go.Proofs.YtahpdboehpicoaaDoor.SummI
open Go.ChangeShapes Go.WideShapes Go.ChangeAt Go.RowKit Base Base2 Ints Own Summ RegInv

theorem wpS {P : Program} {c : Code} {Q : Exit → Act → World → Prop} {a : Act} {W : World} (R : World → Prop) (h : R W) (k : ∀ W', R W' → c.wp P Q a W') : c.wp P Q a W := k W h

structure SiF (w : World) (b7 G X g : Nat) (t l u o p q r s z : Int) (ys : List Int) (L : Nat → Prop) (v66 v67 v68 v69 v70 v71 v72 v73 v74 : Value) (w' : World) : Prop where
  k0 : ¬ L 9 → Sm w w' b7 G t l u o ys
  k1 : L 9 → Sm w w' b7 G t l u o (ys.set g (z + 1))
  rx : RowB w' X 25 [.int .i64 p, .int .i64 q, .int .i64 r, .int .i64 s]
  f0 : L 0 → v66 = .pointer (some ⟨b7, 4, none⟩)
  f1 : L 1 → v67 = .slice (some ⟨G, 0, none⟩) 4 4
  f2 : L 2 → v68 = .pointer (some ⟨X, 2, none⟩)
  f3 : L 3 → v69 = .int .i64 r
  f4 : L 4 → v70 = .int .i64 (g : Int)
  f5 : L 5 → v71 = .pointer (some ⟨G, g, none⟩)
  f6 : L 6 → v72 = .int .i64 z
  f7 : L 7 → v73 = .int .i64 (z + 1)
  f8 : L 8 → v74 = .pointer (some ⟨G, g, none⟩)

set_option maxHeartbeats 8000000 in
set_option maxRecDepth 100000 in
theorem smIm (A : Option Addr) (cp B : Nat) (xs : List V4) (pl : Int) (w : World) (a b c d : Int) (gs : List Int) (co : Int) (hB : B ≤ w.heap.size) (hr : RdS w B 4 enI4 A xs) (h : smR xs pl = ((a, b, c, d, gs), co)) :
    Calls Tryd.prog 10 #[.slice A xs.length cp, .int .i64 pl] w fun e w' => ∃ A' cp', e = .returned (.tuple #[.agg #[.int .i64 a, .int .i64 b, .int .i64 c, .int .i64 d, .slice A' gs.length cp'], .int .i64 co]) ∧ Below w.heap.size w w' ∧ OwnS w' w.heap.size w'.heap.size 2 1 enI (.slice A' gs.length cp') gs := by
  have hml := hr.len
  have H := Lib.hid h
  clear h
  generalize hN : xs.length = N at *
  have HN := Lib.hid hN
  clear hN
  by_cases h3 : 300 < N
  case pos =>
    have h := H.out
    unfold smR at h
    rw [HN.out] at h
    rw [if_pos h3] at h
    simp only [Prod.mk.injEq] at h
    obtain ⟨⟨rfl, rfl, rfl, rfl, rfl⟩, rfl⟩ := h
    have h3' : (300 : Int) < (N : Int) := by omega
    go_enter Tryd.func10, Tryd.ntmps10
    go_wp2_with fail
    refine bodyPost_ret (v := .tuple #[.agg #[.int .i64 0, .int .i64 0, .int .i64 0, .int .i64 0, .slice none 0 0], .int .i64 3]) (by simp [results, Tryd.results10, go_sem]) rfl ?_
    exact ⟨none, 0, rfl, by go_grown, OwnS.nil_ _ _ _ _ _ _⟩
  have h3' : (N : Int) ≤ 300 := by omega
  by_cases h2 : 0 ≤ pl ∧ pl ≤ 1
  case neg =>
    have h := H.out
    unfold smR at h
    rw [HN.out] at h
    rw [if_neg h3, if_pos h2] at h
    simp only [Prod.mk.injEq] at h
    obtain ⟨⟨rfl, rfl, rfl, rfl, rfl⟩, rfl⟩ := h
    go_enter Tryd.func10, Tryd.ntmps10
    go_wp2_with (go_at_call 21; refine (out_impl _ _ _ _ (by assumption)).mono ?_; rintro e w' ⟨rfl, rfl⟩)
    refine bodyPost_ret (v := .tuple #[.agg #[.int .i64 0, .int .i64 0, .int .i64 0, .int .i64 0, .slice none 0 0], .int .i64 2]) (by simp [results, Tryd.results10, go_sem]) rfl ?_
    exact ⟨none, 0, rfl, by go_grown, OwnS.nil_ _ _ _ _ _ _⟩
  have H2 := Lib.hid h2
  go_enter Tryd.func10, Tryd.ntmps10
  go_wp2_with (go_at_call 21; refine (in_impl _ _ _ _ (by assumption)).mono ?_; rintro e w' ⟨rfl, rfl⟩)
  clear h2
  go_loopw [21] (fun s wr => ∃ k : Nat, k ≤ N ∧ s = .int .i64 (k : Int) ∧ Below w.heap.size w wr ∧ Hid (RowB wr w.heap.size 35 [.int .i64 0, .int .i64 0, .int .i64 0, .int .i64 0, .slice none 0 0]) ∧ Hid ((xs.take k).all okV = true)) (fun s _ => N - (intOf s).toNat)
  case atStart => exact ⟨0, Nat.zero_le _, rfl, by go_grown, RowB.new _ _ _, rfl⟩
  case round =>
    obtain ⟨k, hk, rfl, qb, r4, hall⟩ := hrel
    by_cases hlt : k < N
    · obtain ⟨b0, off, p, q, r, s, rfl, hbB, hx, d0, d1, d2, d3⟩ := rdI4_at (hr.below qb hB) (by rw [HN.out]; exact hlt)
      have HX := Lib.hid hx
      clear hx
      have hbw : b0 < wr.heap.size := by have := qb.size; omega
      go_upto_region 8 with (fail)
      refine wpS (fun W' => Below w.heap.size w W' ∧ RowB W' w.heap.size 35 [.int .i64 0, .int .i64 0, .int .i64 0, .int .i64 0, .slice none 0 0] ∧ RowB W' wr.heap.size 25 [.int .i64 p, .int .i64 q, .int .i64 r, .int .i64 s]) ⟨qb.alloc qb.size _, r4.out.alloc _, RowB.new _ _ _⟩ ?_
      clear d0 d1 d2 d3 qb r4
      rintro w3 ⟨qb, r4, rx⟩
      have hwl := rx.lt
      obtain ⟨d0, d1, d2, d3⟩ := rx.c4
      have r4 := Lib.hid r4
      by_cases g1 : 0 ≤ r ∧ r ≤ 1000000
      · by_cases g2 : -1000000 ≤ s ∧ s ≤ 1000000
        · have ho := Lib.hid (all_take HX.out (show okV (p, q, r, s) = true from decide_eq_true ⟨g1, g2⟩) hall.out)
          go_wp2_with (first | (go_at_call 21; refine (in_impl _ _ _ _ (by assumption)).mono ?_; rintro e w' ⟨rfl, rfl⟩) | (go_at_call 21; refine (out_impl _ _ _ _ (by assumption)).mono ?_; rintro e w' ⟨rfl, rfl⟩))
          go_roundw
          case rel => exact ⟨k + 1, by omega, by go_num, qb, r4, ho⟩
          case measure => simp [intOf]; omega
        · have ho := all_no HX.out (show okV (p, q, r, s) = false from decide_eq_false (fun h => g2 h.2))
          have h := H.out
          unfold smR at h
          rw [HN.out] at h
          rw [if_neg h3, if_neg (fun hh => hh H2.out), if_neg (by rw [ho]; decide)] at h
          simp only [Prod.mk.injEq] at h
          obtain ⟨⟨rfl, rfl, rfl, rfl, rfl⟩, rfl⟩ := h
          have z := r4.out.c5
          have hfz := r4.out.frozen
          obtain ⟨z0, z1, z2, z3, z4⟩ := z
          go_wp2_with (first | (go_at_call 21; refine (in_impl _ _ _ _ (by assumption)).mono ?_; rintro e w' ⟨rfl, rfl⟩) | (go_at_call 21; refine (out_impl _ _ _ _ (by assumption)).mono ?_; rintro e w' ⟨rfl, rfl⟩))
          refine bp_gen (fun W5 => RowB W5 w.heap.size 35 [.int .i64 0, .int .i64 0, .int .i64 0, .int .i64 0, .slice none 0 0] ∧ Below w.heap.size w W5) ⟨five r4.out _ _ _ _ _, below_five qb _ _ _ _ _⟩ ?_
          clear z0 z1 z2 z3 z4 hfz
          rintro W5 ⟨ro, q5⟩
          obtain ⟨z0, z1, z2, z3, z4⟩ := ro.c5
          refine bodyPost_ret (v := .tuple #[.agg #[.int .i64 0, .int .i64 0, .int .i64 0, .int .i64 0, .slice none 0 0], .int .i64 5]) (by simp [results, Tryd.results10, go_sem, z0, z1, z2, z3, z4]) rfl ?_
          exact ⟨none, 0, rfl, q5, OwnS.nil_ _ _ _ _ _ _⟩
      · have ho := all_no HX.out (show okV (p, q, r, s) = false from decide_eq_false (fun h => g1 h.1))
        have h := H.out
        unfold smR at h
        rw [HN.out] at h
        rw [if_neg h3, if_neg (fun hh => hh H2.out), if_neg (by rw [ho]; decide)] at h
        simp only [Prod.mk.injEq] at h
        obtain ⟨⟨rfl, rfl, rfl, rfl, rfl⟩, rfl⟩ := h
        have z := r4.out.c5
        have hfz := r4.out.frozen
        obtain ⟨z0, z1, z2, z3, z4⟩ := z
        go_wp2_with (first | (go_at_call 21; refine (in_impl _ _ _ _ (by assumption)).mono ?_; rintro e w' ⟨rfl, rfl⟩) | (go_at_call 21; refine (out_impl _ _ _ _ (by assumption)).mono ?_; rintro e w' ⟨rfl, rfl⟩))
        refine bp_gen (fun W5 => RowB W5 w.heap.size 35 [.int .i64 0, .int .i64 0, .int .i64 0, .int .i64 0, .slice none 0 0] ∧ Below w.heap.size w W5) ⟨five r4.out _ _ _ _ _, below_five qb _ _ _ _ _⟩ ?_
        clear z0 z1 z2 z3 z4 hfz
        rintro W5 ⟨ro, q5⟩
        obtain ⟨z0, z1, z2, z3, z4⟩ := ro.c5
        refine bodyPost_ret (v := .tuple #[.agg #[.int .i64 0, .int .i64 0, .int .i64 0, .int .i64 0, .slice none 0 0], .int .i64 5]) (by simp [results, Tryd.results10, go_sem, z0, z1, z2, z3, z4]) rfl ?_
        exact ⟨none, 0, rfl, q5, OwnS.nil_ _ _ _ _ _ _⟩
    · obtain rfl : k = N := by omega
      have hall : Hid (xs.all okV = true) := by
        have := hall.out
        rw [List.take_of_length_le (by rw [HN.out]; exact Nat.le_refl _)] at this
        exact this
      have HB := Lib.hid (smS_bd (pl := pl) hall.out)
      have hbd_all := hall
      have HRR : Hid (smS xs pl k = (a, b, c, d, gs) ∧ co = 0) := by
        have h := H.out
        unfold smR at h
        rw [HN.out, if_neg h3, if_neg (fun hh => hh H2.out), if_pos hall.out] at h
        simp only [Prod.mk.injEq] at h
        exact ⟨h.1, h.2.symm⟩
      clear H
      have qs := qb.size
      have hrl := r4.out.lt
      have K0 : Sm w ((wr.alloc (.cells #[.int .i64 0, .int .i64 0, .int .i64 0, .int .i64 0] 2)).alloc (.cells #[.int .i64 0, .int .i64 0, .int .i64 0, .int .i64 (-1), .slice (some ⟨wr.heap.size, 0, none⟩) 4 4] 35)) (wr.heap.size + 1) wr.heap.size 0 0 0 (-1) [0, 0, 0, 0] := ⟨by go_grown, (r4.out.alloc _).alloc _, RowB.new' (wr.alloc _) _ _ (by simp), (RowB.new _ _ _).alloc _, by omega, by omega, by omega⟩
      have hmk : ∀ w : World, (Instr.makeSlice 33 (.int .i64 4) (.int .i64 4)).run Tryd.prog w = .ok (.slice (some ⟨w.heap.size, 0, none⟩) 4 4) (w.alloc (.cells #[.int .i64 0, .int .i64 0, .int .i64 0, .int .i64 0] 2)) := fun _ => by kernel_rfl
      go_upto_region 12 with (fail)
      refine wpS (fun W' => Sm w W' (wr.heap.size + 1) wr.heap.size 0 0 0 (-1) [0, 0, 0, 0]) K0 ?_
      clear K0 r4 qb
      obtain ⟨G, hG⟩ : ∃ G, wr.heap.size = G := ⟨_, rfl⟩
      rw [hG]
      clear hG
      rintro w4 K
      obtain ⟨b7, hb7⟩ : ∃ b7, G + 1 = b7 := ⟨_, rfl⟩
      rw [hb7] at K ⊢
      clear hb7
      have K := Lib.hid K
      clear qs hrl
      go_wp2_with fail
      go_loopw [41] (fun s wr => ∃ j : Nat, j ≤ k ∧ s = .int .i64 (j : Int) ∧ Hid (Sm w wr b7 G (smS xs pl j).1 (smS xs pl j).2.1 (smS xs pl j).2.2.1 (smS xs pl j).2.2.2.1 (smS xs pl j).2.2.2.2)) (fun s _ => k - (intOf s).toNat)
      case atStart => exact ⟨0, Nat.zero_le _, rfl, K⟩
      case round =>
        obtain ⟨j, hj, rfl, K1⟩ := hrel
        clear K
        by_cases hjt : j < k
        · obtain ⟨b0, off, p, q, r, s, rfl, hbB, hx, d0, d1, d2, d3⟩ := rdI4_at (hr.below K1.out.bel hB) (by rw [HN.out]; exact hjt)
          have hbd := HB.out j (by rw [HN.out]; omega)
          have HS : Hid (smS xs pl (j + 1) = stp xs pl (smS xs pl j) j) := rfl
          rcases hst : smS xs pl j with ⟨t, l, u, o, ys⟩
          rw [hst] at K1 hbd HS
          have HST := Lib.hid hst
          clear hst
          obtain ⟨⟨t0, t1⟩, ⟨l0, l1⟩, ⟨u0, u1⟩, ⟨o0, o1⟩, hl4, hys⟩ := hbd
          simp only at t0 t1 l0 l1 u0 u1 o0 o1 hl4 hys K1
          have hgx : xs.getD j (0, 0, 0, 0) = (p, q, r, s) := by rw [List.getD_eq_getElem?_getD, hx]; rfl
          have hok := (List.all_eq_true.1 (show xs.all okV = true from by have := hbd_all.out; exact this)) _ (List.mem_of_getElem? hx)
          unfold okV at hok
          have hok := of_decide_eq_true hok
          simp only at hok
          obtain ⟨⟨r0, r1⟩, s0, s1⟩ := hok
          have HSN : Hid (smS xs pl (j + 1) = if q = pl then (t + 1, l + r, u + s, (if o < 0 ∨ lossAt xs o < r then (j : Int) else o), ys.set (grd r).toNat (ys.getD (grd r).toNat 0 + 1)) else (t, l, u, o, ys)) := by
            have := HS.out
            unfold stp at this
            rw [hgx] at this
            exact this
          clear HS hgx hx
          have hbw : b0 < wr.heap.size := by have := K1.out.bel.size; omega
          have hwr : b7 < wr.heap.size := K1.out.r7.lt
          have hwg : G < wr.heap.size := K1.out.rg.lt
          go_upto_region 15 with (fail)
          refine wpS (fun W' => Sm w W' b7 G t l u o ys ∧ RowB W' wr.heap.size 25 [.int .i64 p, .int .i64 q, .int .i64 r, .int .i64 s]) ⟨K1.out.alloc _, RowB.new _ _ _⟩ ?_
          clear d0 d1 d2 d3 K1
          rintro w5 ⟨K, rx⟩
          have qq := K.bel
          obtain ⟨x0, x1, x2, x3⟩ := rx.c4
          have hxl := rx.lt
          by_cases hq : q = pl
          · have eq1 : (q != pl) = false := by simp [hq]
            have HQ := Lib.hid hq
            clear hq
            obtain ⟨y0, y1, y2, y3, y4⟩ := K.r7.c5
            have hf7 := K.r7.frozen
            have hx7 : wr.heap.size ≠ b7 := by omega
            have hxg : wr.heap.size ≠ G := by omega
            go_upto_region 19 with (fail)
            refine wpS (fun W' => Sm w W' b7 G (t + 1) (l + r) (u + s) o ys ∧ RowB W' wr.heap.size 25 [.int .i64 p, .int .i64 q, .int .i64 r, .int .i64 s]) ⟨((K.set7 0 _ (t + 1) l u o rfl).set7 1 _ (t + 1) (l + r) u o rfl).set7 2 _ (t + 1) (l + r) (u + s) o rfl, ((rx.other hx7 _).other hx7 _).other hx7 _⟩ ?_
            clear x0 x1 x2 x3 y0 y1 y2 y3 y4 hf7 K rx
            rintro w7 ⟨K, rx⟩
            obtain ⟨y0, y1, y2, y3, y4⟩ := K.r7.c5
            obtain ⟨x0, x1, x2, x3⟩ := rx.c4
            have hf7 := K.r7.frozen
            have hx7 : wr.heap.size ≠ b7 := by omega
            have hgb := grd_bd r0
            obtain ⟨g, hg⟩ : ∃ g : Nat, grd r = (g : Int) := ⟨(grd r).toNat, by omega⟩
            have hg4 : (g : Int) < 4 := by omega
            have hgl : g < ys.length := by omega
            have HG := Lib.hid hg
            have hcg := K.cellG hgl
            have hfg := K.rg.frozen
            have hz := hys _ (getD_mem hgl)
            obtain ⟨z0, z1⟩ := hz
            have HYS : Hid (ys.getD (grd r).toNat 0 = ys.getD g 0) := by rw [HG.out]; rfl
            generalize hzz : ys.getD g 0 = z at *
            have HZ := Lib.hid hzz
            clear hzz hgb
            have GC := Lib.hid (fun W => grd_impl r W)
            rw [hg] at GC
            clear hg y0 y1 y2 y3 y4 x0 x1 x2 x3 hf7 hcg hfg
            refine region_inv (fun a0 L a w' => ∃ v66 v67 v68 v69 v70 v71 v72 v73 v74 : Value, a = (((((((((a0.put (some 66) v66).put (some 67) v67).put (some 68) v68).put (some 69) v69).put (some 70) v70).put (some 71) v71).put (some 72) v72).put (some 73) v73).put (some 74) v74) ∧ SiF w b7 G wr.heap.size g (t + 1) (l + r) (u + s) o p q r s z ys L v66 v67 v68 v69 v70 v71 v72 v73 v74 w') (by kernel_rfl) (by kernel_rfl) ?h0 ?hst ?fin
            case h0 =>
              exact ⟨_, _, _, _, _, _, _, _, _, by simp only [Act.put, List.setIfInBounds_toArray, List.set_cons_zero, List.set_cons_succ]; exact rfl, ⟨fun _ => K.drew, fun h => (h : False).elim, rx.drew, fun h => (h : False).elim, fun h => (h : False).elim, fun h => (h : False).elim, fun h => (h : False).elim, fun h => (h : False).elim, fun h => (h : False).elim, fun h => (h : False).elim, fun h => (h : False).elim, fun h => (h : False).elim⟩⟩
            case hst =>
              refine StepsFrom.cons rfl (fun L a w' hI hno hdep hcl K hK => ?_) ?_
              · obtain ⟨v66, v67, v68, v69, v70, v71, v72, v73, v74, ha, F⟩ := hI
                subst ha
                simp only [Act.put, List.setIfInBounds_toArray, List.set_cons_zero, List.set_cons_succ]
                go_simp
                exact hK.out _ _ ⟨_, v67, v68, v69, v70, v71, v72, v73, v74, by simp only [Act.put, List.setIfInBounds_toArray, List.set_cons_zero, List.set_cons_succ], ⟨fun h => F.k0 (fun x => h (Or.inr x)), fun h => F.k1 (h.resolve_left (by decide)), F.rx, fun _ => rfl, fun h => F.f1 (h.resolve_left (by decide)), fun h => F.f2 (h.resolve_left (by decide)), fun h => F.f3 (h.resolve_left (by decide)), fun h => F.f4 (h.resolve_left (by decide)), fun h => F.f5 (h.resolve_left (by decide)), fun h => F.f6 (h.resolve_left (by decide)), fun h => F.f7 (h.resolve_left (by decide)), fun h => F.f8 (h.resolve_left (by decide))⟩⟩
              refine StepsFrom.cons rfl (fun L a w' hI hno hdep hcl K hK => ?_) ?_
              · obtain ⟨v66, v67, v68, v69, v70, v71, v72, v73, v74, ha, F⟩ := hI
                have e66 := F.f0 (hdep 0 (by kernel_rfl))
                have n9 : ¬ L 9 := fun x => hno (hcl 9 1 (by kernel_rfl) x)
                have K := F.k0 n9
                have cc := K.r7.c5
                have d4 := cc.2.2.2.2
                clear cc
                subst ha
                simp only [Act.put, List.setIfInBounds_toArray, List.set_cons_zero, List.set_cons_succ, e66]
                go_simp
                exact hK.out _ _ ⟨v66, _, v68, v69, v70, v71, v72, v73, v74, by simp only [Act.put, List.setIfInBounds_toArray, List.set_cons_zero, List.set_cons_succ, e66], ⟨fun h => F.k0 (fun x => h (Or.inr x)), fun h => F.k1 (h.resolve_left (by decide)), F.rx, fun h => F.f0 (h.resolve_left (by decide)), fun _ => rfl, fun h => F.f2 (h.resolve_left (by decide)), fun h => F.f3 (h.resolve_left (by decide)), fun h => F.f4 (h.resolve_left (by decide)), fun h => F.f5 (h.resolve_left (by decide)), fun h => F.f6 (h.resolve_left (by decide)), fun h => F.f7 (h.resolve_left (by decide)), fun h => F.f8 (h.resolve_left (by decide))⟩⟩
              refine StepsFrom.cons rfl (fun L a w' hI hno hdep hcl K hK => ?_) ?_
              · obtain ⟨v66, v67, v68, v69, v70, v71, v72, v73, v74, ha, F⟩ := hI
                subst ha
                simp only [Act.put, List.setIfInBounds_toArray, List.set_cons_zero, List.set_cons_succ]
                go_simp
                exact hK.out _ _ ⟨v66, v67, _, v69, v70, v71, v72, v73, v74, by simp only [Act.put, List.setIfInBounds_toArray, List.set_cons_zero, List.set_cons_succ], ⟨fun h => F.k0 (fun x => h (Or.inr x)), fun h => F.k1 (h.resolve_left (by decide)), F.rx, fun h => F.f0 (h.resolve_left (by decide)), fun h => F.f1 (h.resolve_left (by decide)), fun _ => rfl, fun h => F.f3 (h.resolve_left (by decide)), fun h => F.f4 (h.resolve_left (by decide)), fun h => F.f5 (h.resolve_left (by decide)), fun h => F.f6 (h.resolve_left (by decide)), fun h => F.f7 (h.resolve_left (by decide)), fun h => F.f8 (h.resolve_left (by decide))⟩⟩
              refine StepsFrom.cons rfl (fun L a w' hI hno hdep hcl K hK => ?_) ?_
              · obtain ⟨v66, v67, v68, v69, v70, v71, v72, v73, v74, ha, F⟩ := hI
                have e68 := F.f2 (hdep 2 (by kernel_rfl))
                have cc := F.rx.c4
                have d2 := cc.2.2.1
                clear cc
                subst ha
                simp only [Act.put, List.setIfInBounds_toArray, List.set_cons_zero, List.set_cons_succ, e68]
                go_simp
                exact hK.out _ _ ⟨v66, v67, v68, _, v70, v71, v72, v73, v74, by simp only [Act.put, List.setIfInBounds_toArray, List.set_cons_zero, List.set_cons_succ, e68], ⟨fun h => F.k0 (fun x => h (Or.inr x)), fun h => F.k1 (h.resolve_left (by decide)), F.rx, fun h => F.f0 (h.resolve_left (by decide)), fun h => F.f1 (h.resolve_left (by decide)), fun h => F.f2 (h.resolve_left (by decide)), fun _ => rfl, fun h => F.f4 (h.resolve_left (by decide)), fun h => F.f5 (h.resolve_left (by decide)), fun h => F.f6 (h.resolve_left (by decide)), fun h => F.f7 (h.resolve_left (by decide)), fun h => F.f8 (h.resolve_left (by decide))⟩⟩
              refine StepsFrom.cons rfl (fun L a w' hI hno hdep hcl K hK => ?_) ?_
              · obtain ⟨v66, v67, v68, v69, v70, v71, v72, v73, v74, ha, F⟩ := hI
                have e69 := F.f3 (hdep 3 (by kernel_rfl))
                subst ha
                simp only [Act.put, List.setIfInBounds_toArray, List.set_cons_zero, List.set_cons_succ, e69]
                go_simp
                refine (GC.out w').mono ?_
                rintro e w9 ⟨rfl, rfl⟩
                exact hK.out _ _ ⟨v66, v67, v68, v69, _, v71, v72, v73, v74, by simp only [Act.put, List.setIfInBounds_toArray, List.set_cons_zero, List.set_cons_succ, e69], ⟨fun h => F.k0 (fun x => h (Or.inr x)), fun h => F.k1 (h.resolve_left (by decide)), F.rx, fun h => F.f0 (h.resolve_left (by decide)), fun h => F.f1 (h.resolve_left (by decide)), fun h => F.f2 (h.resolve_left (by decide)), fun h => F.f3 (h.resolve_left (by decide)), fun _ => rfl, fun h => F.f5 (h.resolve_left (by decide)), fun h => F.f6 (h.resolve_left (by decide)), fun h => F.f7 (h.resolve_left (by decide)), fun h => F.f8 (h.resolve_left (by decide))⟩⟩
              refine StepsFrom.cons rfl (fun L a w' hI hno hdep hcl K hK => ?_) ?_
              · obtain ⟨v66, v67, v68, v69, v70, v71, v72, v73, v74, ha, F⟩ := hI
                have e67 := F.f1 (hdep 1 (by kernel_rfl))
                have e70 := F.f4 (hdep 4 (by kernel_rfl))
                subst ha
                simp only [Act.put, List.setIfInBounds_toArray, List.set_cons_zero, List.set_cons_succ, e67, e70]
                go_simp
                exact hK.out _ _ ⟨v66, v67, v68, v69, v70, _, v72, v73, v74, by simp only [Act.put, List.setIfInBounds_toArray, List.set_cons_zero, List.set_cons_succ, e67, e70], ⟨fun h => F.k0 (fun x => h (Or.inr x)), fun h => F.k1 (h.resolve_left (by decide)), F.rx, fun h => F.f0 (h.resolve_left (by decide)), fun h => F.f1 (h.resolve_left (by decide)), fun h => F.f2 (h.resolve_left (by decide)), fun h => F.f3 (h.resolve_left (by decide)), fun h => F.f4 (h.resolve_left (by decide)), fun _ => rfl, fun h => F.f6 (h.resolve_left (by decide)), fun h => F.f7 (h.resolve_left (by decide)), fun h => F.f8 (h.resolve_left (by decide))⟩⟩
              refine StepsFrom.cons rfl (fun L a w' hI hno hdep hcl K hK => ?_) ?_
              · obtain ⟨v66, v67, v68, v69, v70, v71, v72, v73, v74, ha, F⟩ := hI
                have e71 := F.f5 (hdep 5 (by kernel_rfl))
                have n9 : ¬ L 9 := fun x => hno (hcl 9 6 (by kernel_rfl) x)
                have K := F.k0 n9
                have cg := K.cellG hgl
                rw [HZ.out] at cg
                subst ha
                simp only [Act.put, List.setIfInBounds_toArray, List.set_cons_zero, List.set_cons_succ, e71]
                go_simp
                exact hK.out _ _ ⟨v66, v67, v68, v69, v70, v71, _, v73, v74, by simp only [Act.put, List.setIfInBounds_toArray, List.set_cons_zero, List.set_cons_succ, e71], ⟨fun h => F.k0 (fun x => h (Or.inr x)), fun h => F.k1 (h.resolve_left (by decide)), F.rx, fun h => F.f0 (h.resolve_left (by decide)), fun h => F.f1 (h.resolve_left (by decide)), fun h => F.f2 (h.resolve_left (by decide)), fun h => F.f3 (h.resolve_left (by decide)), fun h => F.f4 (h.resolve_left (by decide)), fun h => F.f5 (h.resolve_left (by decide)), fun _ => rfl, fun h => F.f7 (h.resolve_left (by decide)), fun h => F.f8 (h.resolve_left (by decide))⟩⟩
              refine StepsFrom.cons rfl (fun L a w' hI hno hdep hcl K hK => ?_) ?_
              · obtain ⟨v66, v67, v68, v69, v70, v71, v72, v73, v74, ha, F⟩ := hI
                have e72 := F.f6 (hdep 6 (by kernel_rfl))
                have ew : IntKind.i64.wrap (z + 1) = z + 1 := IntWalk.i64_in _ (by omega)
                subst ha
                simp only [Act.put, List.setIfInBounds_toArray, List.set_cons_zero, List.set_cons_succ, e72]
                go_simp
                exact hK.out _ _ ⟨v66, v67, v68, v69, v70, v71, v72, .int .i64 (z + 1), v74, by simp only [Act.put, List.setIfInBounds_toArray, List.set_cons_zero, List.set_cons_succ, e72], ⟨fun h => F.k0 (fun x => h (Or.inr x)), fun h => F.k1 (h.resolve_left (by decide)), F.rx, fun h => F.f0 (h.resolve_left (by decide)), fun h => F.f1 (h.resolve_left (by decide)), fun h => F.f2 (h.resolve_left (by decide)), fun h => F.f3 (h.resolve_left (by decide)), fun h => F.f4 (h.resolve_left (by decide)), fun h => F.f5 (h.resolve_left (by decide)), fun h => F.f6 (h.resolve_left (by decide)), fun _ => rfl, fun h => F.f8 (h.resolve_left (by decide))⟩⟩
              refine StepsFrom.cons rfl (fun L a w' hI hno hdep hcl K hK => ?_) ?_
              · obtain ⟨v66, v67, v68, v69, v70, v71, v72, v73, v74, ha, F⟩ := hI
                have e67 := F.f1 (hdep 1 (by kernel_rfl))
                have e70 := F.f4 (hdep 4 (by kernel_rfl))
                subst ha
                simp only [Act.put, List.setIfInBounds_toArray, List.set_cons_zero, List.set_cons_succ, e67, e70]
                go_simp
                exact hK.out _ _ ⟨v66, v67, v68, v69, v70, v71, v72, v73, _, by simp only [Act.put, List.setIfInBounds_toArray, List.set_cons_zero, List.set_cons_succ, e67, e70], ⟨fun h => F.k0 (fun x => h (Or.inr x)), fun h => F.k1 (h.resolve_left (by decide)), F.rx, fun h => F.f0 (h.resolve_left (by decide)), fun h => F.f1 (h.resolve_left (by decide)), fun h => F.f2 (h.resolve_left (by decide)), fun h => F.f3 (h.resolve_left (by decide)), fun h => F.f4 (h.resolve_left (by decide)), fun h => F.f5 (h.resolve_left (by decide)), fun h => F.f6 (h.resolve_left (by decide)), fun h => F.f7 (h.resolve_left (by decide)), fun _ => rfl⟩⟩
              refine StepsFrom.cons rfl (fun L a w' hI hno hdep hcl K hK => ?_) ?_
              · obtain ⟨v66, v67, v68, v69, v70, v71, v72, v73, v74, ha, F⟩ := hI
                have e73 := F.f7 (hdep 7 (by kernel_rfl))
                have e74 := F.f8 (hdep 8 (by kernel_rfl))
                have K := F.k0 hno
                have cg := K.cellG hgl
                rw [HZ.out] at cg
                have hfg := K.rg.frozen
                have hgx := K.rg.lt
                subst ha
                simp only [Act.put, List.setIfInBounds_toArray, List.set_cons_zero, List.set_cons_succ, e73, e74]
                go_simp
                exact hK.out _ _ ⟨v66, v67, v68, v69, v70, v71, v72, v73, v74, by simp only [Act.put, List.setIfInBounds_toArray, List.set_cons_zero, List.set_cons_succ, e73, e74], ⟨fun h => absurd (Or.inl rfl) h, fun _ => K.setG g (z + 1) hgl, F.rx.other hxg _, fun h => F.f0 (h.resolve_left (by decide)), fun h => F.f1 (h.resolve_left (by decide)), fun h => F.f2 (h.resolve_left (by decide)), fun h => F.f3 (h.resolve_left (by decide)), fun h => F.f4 (h.resolve_left (by decide)), fun h => F.f5 (h.resolve_left (by decide)), fun h => F.f6 (h.resolve_left (by decide)), fun h => F.f7 (h.resolve_left (by decide)), fun h => F.f8 (h.resolve_left (by decide))⟩⟩
              exact StepsFrom.nil (by decide)
            case fin =>
              rintro L a' w9 ⟨v66, v67, v68, v69, v70, v71, v72, v73, v74, rfl, F⟩ hL
              have K := F.k1 (hL 9 (by decide))
              have rx := F.rx
              clear F hL
              simp only [Act.put, List.setIfInBounds_toArray, List.set_cons_zero, List.set_cons_succ]
              obtain ⟨y0, y1, y2, y3, y4⟩ := K.r7.c5
              obtain ⟨x0, x1, x2, x3⟩ := rx.c4
              have hf7 := K.r7.frozen
              by_cases ho : o < 0
              · have HO : Hid ((if o < 0 ∨ lossAt xs o < r then (j : Int) else o) = j) := by rw [if_pos (Or.inl ho)]; rfl
                have HSN2 : Hid (smS xs pl (j + 1) = (t + 1, l + r, u + s, (j : Int), ys.set g (z + 1))) := by rw [HSN.out, if_pos HQ.out, HO.out, HYS.out, HG.out]; rfl
                go_wp2_with fail
                go_quiet (fail)
                go_wp2_with fail
                go_roundw
                case rel => exact ⟨j + 1, by omega, by go_num, by rw [HSN2.out]; exact (K.drewN _).set7 3 _ (t + 1) (l + r) (u + s) (j : Int) rfl⟩
                case measure => simp [intOf]; omega
              · obtain ⟨m, rfl⟩ : ∃ m : Nat, o = m := ⟨o.toNat, by omega⟩
                obtain ⟨b1, off1, p', q', r', s', he, _, hx', c0', c1', c2', c3'⟩ := rdI4_at (hr.below K.bel hB) (i := m) (by rw [HN.out]; omega)
                simp only [Option.some.injEq, Addr.mk.injEq, and_true] at he
                obtain ⟨rfl, rfl⟩ := he
                have hla : lossAt xs ((m : Nat) : Int) = r' := by unfold lossAt; rw [Int.toNat_natCast, List.getD_eq_getElem?_getD, hx']; rfl
                have HLA := Lib.hid hla
                clear hx' hla c0' c1' c3'
                have ho' : decide ((m : Int) < 0) = false := decide_eq_false (by omega)
                have hmk : (m : Int) < (k : Int) := by omega
                by_cases hgt : r' < r
                · have HO : Hid ((if ((m : Nat) : Int) < 0 ∨ lossAt xs (m : Int) < r then (j : Int) else ((m : Nat) : Int)) = j) := by rw [if_pos (Or.inr (by rw [HLA.out]; exact hgt))]; rfl
                  have HSN2 : Hid (smS xs pl (j + 1) = (t + 1, l + r, u + s, (j : Int), ys.set g (z + 1))) := by rw [HSN.out, if_pos HQ.out, HO.out, HYS.out, HG.out]; rfl
                  go_wp2_with fail
                  go_quiet (fail)
                  go_wp2_with fail
                  go_roundw
                  case rel => exact ⟨j + 1, by omega, by go_num, by rw [HSN2.out]; exact (K.drewN _).set7 3 _ (t + 1) (l + r) (u + s) (j : Int) rfl⟩
                  case measure => simp [intOf]; omega
                · have HO : Hid ((if ((m : Nat) : Int) < 0 ∨ lossAt xs (m : Int) < r then (j : Int) else ((m : Nat) : Int)) = (m : Nat)) := by rw [if_neg (by rw [HLA.out]; omega)]; rfl
                  have hgt' : decide (r' < r) = false := decide_eq_false hgt
                  have HSN2 : Hid (smS xs pl (j + 1) = (t + 1, l + r, u + s, (m : Int), ys.set g (z + 1))) := by rw [HSN.out, if_pos HQ.out, HO.out, HYS.out, HG.out]; rfl
                  go_wp2_with fail
                  go_quiet (fail)
                  go_wp2_with fail
                  go_roundw
                  case rel => exact ⟨j + 1, by omega, by go_num, by rw [HSN2.out]; exact K.drewN _⟩
                  case measure => simp [intOf]; omega

          · have eq1 : (q != pl) = true := by simp [hq]
            have HN2 : Hid (smS xs pl (j + 1) = (t, l, u, o, ys)) := by rw [HSN.out, if_neg hq]; rfl
            have K := Lib.hid K
            go_wp2_with fail
            go_roundw
            case rel => exact ⟨j + 1, by omega, by go_num, by rw [HN2.out]; exact K⟩
            case measure => simp [intOf]; omega
        · obtain rfl : j = k := by omega
          obtain ⟨hk1, rfl⟩ := HRR.out
          rw [hk1] at K1
          have h4 := (HB.out j (by rw [HN.out]; exact Nat.le_refl _)).2.2.2.2.1
          rw [hk1] at h4
          simp only at h4 K1
          have K := K1.out
          have hG4 := Lib.hid h4
          clear h4 hk1
          obtain ⟨y0, y1, y2, y3, y4⟩ := K.r7.c5
          obtain ⟨z0, z1, z2, z3, z4⟩ := K.r4.c5
          have hfz := K.r4.frozen
          have hn7 : w.heap.size ≠ b7 := by have := K.l7; omega
          have hng : G ≠ w.heap.size := by have := K.lg; omega
          go_wp2_with fail
          refine bp_gen (fun W5 => RowB W5 w.heap.size 35 [.int .i64 a, .int .i64 b, .int .i64 c, .int .i64 d, .slice (some ⟨G, 0, none⟩) 4 4] ∧ Below w.heap.size w W5 ∧ RowB W5 G 2 (gs.flatMap enI)) ⟨five K.r4 _ _ _ _ _, below_five K.bel _ _ _ _ _, ((((K.rg.other hng _).other hng _).other hng _).other hng _).other hng _⟩ ?_
          clear y0 y1 y2 y3 y4 z0 z1 z2 z3 z4 hfz
          rintro W5 ⟨ro, q5, rg⟩
          obtain ⟨z0, z1, z2, z3, z4⟩ := ro.c5
          refine bodyPost_ret (v := .tuple #[.agg #[.int .i64 a, .int .i64 b, .int .i64 c, .int .i64 d, .slice (some ⟨G, 0, none⟩) 4 4], .int .i64 0]) (by simp [results, Tryd.results10, go_sem, z0, z1, z2, z3, z4]) rfl ?_
          have ow := rg.own (lo := w.heap.size) (hi := W5.heap.size) enI_len (Nat.le_of_lt K.lg) rg.lt (by rw [hG4.out]; decide)
          rw [hG4.out] at ow
          exact ⟨some ⟨G, 0, none⟩, 4, by rw [hG4.out], q5, by rw [hG4.out]; exact ow⟩
end Go.Proofs.YtahpdboehpicoaaDoor.SummI
