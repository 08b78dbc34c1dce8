/-
  The law on ratings: matches are rated one after the other. Conditions: none beyond the given row's.
-/
import Derived.Test.YtjmckpaemmjcmaaDoorRateLaw
import Derived.Test.YtjmckpaemmjcmaaDoorDrawL
set_option linter.unusedVariables false
namespace Go.Proofs.YtjmckpaemmjcmaaDoor.RatingsLaw
open Go.ChangeShapes Go.WideShapes Go.ChangeAt Go.RowKit Base Base2 Ints Own Draw DrawL Rating Chance RMatch RMatch3 RatList RateAll RateAll2 RateAll3 RegInv

theorem grown_below {a b c : World} {row : Option Nat} (h : a.grownBy b row) (hb : Below b.heap.size b c) : a.grownBy c row := grownBy_trans h ⟨hb.os, hb.tape, hb.output, hb.size, fun i hi _ => hb.block i hi⟩
theorem below_row {a b c : World} {g : Nat} (h : Below a.heap.size a b) (hg : b.grownBy c (some g)) (hl : a.heap.size ≤ g) : Below a.heap.size a c := h.grown hg h.size (fun k hk => by simp at hk; omega)
theorem rI0 (v1 x1 v2 x2 L : Int) (w : World) (o1 : okR v1 x1 = true) (o2 : okR v2 x2 = true) (l1 : 1 ≤ L) (l2 : L ≤ 25) (tb : ∀ i : Nat, i < 11 → w.cell? ⟨0, i, none⟩ = some (.int .i64 (tab.getD i 0))) (hz : 0 < w.heap.size) :
    Calls Tryd.prog 19 #[.agg #[.int .i64 v1, .int .i64 x1], .agg #[.int .i64 v2, .int .i64 x2], .int .i64 L] w fun e w' => e = .returned (.tuple #[.agg #[.int .i64 (up v1 (chg L (rp v1 v2 L) x1)), .int .i64 (more x1 L)], .agg #[.int .i64 (down v2 (chg L (rp v1 v2 L) x2)), .int .i64 (more x2 L)], .int .i64 0]) ∧ Below w.heap.size w w' := by
  have h := rI v1 x1 v2 x2 L w tb hz
  have hE : rE v1 x1 v2 x2 L = 0 := by unfold rE; rw [o1, o2]; simp; omega
  simp only [rA, rB, rC, rD, hE, if_true] at h
  exact h
theorem isR_yes (v e : Int) (w : World) (h : okR v e = true) : Calls Tryd.prog 26 #[.agg #[.int .i64 v, .int .i64 e]] w fun r w' => r = .returned (.bool true) ∧ Below w.heap.size w w' := by
  have := isR_impl v e w
  rw [h] at this
  exact this
theorem draw_ {w : World} {cp : Nat} {A : Option Addr} {xs : List Int} (hr : RdS w w.heap.size 1 enB A xs) (hw : ∀ x ∈ xs, (Lit.int .u8 x).wf = true) :
    Calls Tryd.prog 22 #[.slice A xs.length cp] w fun e w' => ∃ v u ls ms, e = .returned (.tuple #[v, u]) ∧ OwnS w' w.heap.size w'.heap.size 33 2 enI2 v ls ∧ OwnS w' w.heap.size w'.heap.size 49 3 enI3 u ms ∧ Below w.heap.size w w' := by
  go_enter Tryd.func22, Tryd.ntmps22
  go_wp2_with fail
  refine (new_ hr hw).mono ?_
  rintro e w1 ⟨rfl, h1⟩
  have h1s := h1.bel.size
  go_wp2_with fail
  refine (list_ h1).mono ?_
  rintro e w2 ⟨v, u, ls, ms, rfl, K, -, -⟩
  go_wp2_with fail
  go_ret2
  exact ⟨_, _, ls, ms, rfl, OwnS.less K.o4 h1s, OwnS.less K.o7 h1s, K.D.bel⟩

structure RfA (w : World) (B0 g n cap i j : Nat) (r a1 a2 b1 b2 u1 u2 u3 u4 : Int) (ys : List (Int × Int)) (rest : List Value) (L : Nat → Prop) (v10 v11 v12 v57 v58 v59 v60 v61 v62 v63 v64 v65 v66 v67 v68 v69 v70 v71 v72 v73 : Value) (w' : World) : Prop where
  gr : w.grownBy w' (some g)
  rb : RowB w' B0 49 [.int .i64 (i : Int), .int .i64 (j : Int), .int .i64 r]
  r0 : RowB w' g 33 (ys.flatMap enI2 ++ rest)
  ap : L 17 → L 18 → v10 ≠ v11
  sz : w.heap.size ≤ B0
  f0 : L 0 → v58 = .slice (some ⟨g, 0, none⟩) n cap
  f1 : L 1 → v59 = .pointer (some ⟨B0, 0, none⟩)
  f2 : L 2 → v60 = .int .i64 (i : Int)
  f3 : L 3 → v61 = .pointer (some ⟨g, i * 2, none⟩)
  f4 : L 4 → v62 = .agg #[.int .i64 a1, .int .i64 a2]
  f5 : L 5 → v63 = .slice (some ⟨g, 0, none⟩) n cap
  f6 : L 6 → v64 = .pointer (some ⟨B0, 1, none⟩)
  f7 : L 7 → v65 = .int .i64 (j : Int)
  f8 : L 8 → v66 = .pointer (some ⟨g, j * 2, none⟩)
  f9 : L 9 → v67 = .agg #[.int .i64 b1, .int .i64 b2]
  f10 : L 10 → v68 = .pointer (some ⟨B0, 2, none⟩)
  f11 : L 11 → v69 = .int .i64 r
  f12 : L 12 → v70 = .tuple #[.agg #[.int .i64 u1, .int .i64 u2], .agg #[.int .i64 u3, .int .i64 u4], .int .i64 0]
  f13 : L 13 → v57 = .tuple #[.agg #[.int .i64 u1, .int .i64 u2], .agg #[.int .i64 u3, .int .i64 u4], .int .i64 0]
  f14 : L 14 → v71 = .agg #[.int .i64 u1, .int .i64 u2]
  f15 : L 15 → v72 = .agg #[.int .i64 u3, .int .i64 u4]
  f16 : L 16 → v73 = .int .i64 0
  f17 : L 17 → ∃ p x y, v10 = .pointer (some ⟨p, 0, none⟩) ∧ B0 < p ∧ RowB w' p 33 [.int .i64 x, .int .i64 y]
  f18 : L 18 → ∃ q x y, v11 = .pointer (some ⟨q, 0, none⟩) ∧ B0 < q ∧ RowB w' q 33 [.int .i64 x, .int .i64 y]
  f19 : L 19 → ∃ p, v10 = .pointer (some ⟨p, 0, none⟩) ∧ B0 < p ∧ RowB w' p 33 [.int .i64 u1, .int .i64 u2]
  f20 : L 20 → ∃ q, v11 = .pointer (some ⟨q, 0, none⟩) ∧ B0 < q ∧ RowB w' q 33 [.int .i64 u3, .int .i64 u4]
  f21 : L 21 → v12 = .int .i64 0

structure RfB (w : World) (p q B0 g n cap i j : Nat) (r a1 a2 b1 b2 u1 u2 u3 u4 : Int) (ys : List (Int × Int)) (rest : List Value) (L : Nat → Prop) (v74 v75 v76 v77 v78 v79 v80 v81 v82 v83 v84 v85 v86 v87 v88 v89 v90 v91 v92 v93 v94 v95 v96 v97 v98 v99 v100 v101 v102 v103 v104 v105 v106 v107 : Value) (w' : World) : Prop where
  gr : w.grownBy w' (some g)
  rb : RowB w' B0 49 [.int .i64 (i : Int), .int .i64 (j : Int), .int .i64 r]
  r0 : RowB w' g 33 (ys.flatMap enI2 ++ rest)
  ra : RowB w' p 33 [.int .i64 u1, .int .i64 u2]
  rc : RowB w' q 33 [.int .i64 u3, .int .i64 u4]
  f0 : L 0 → v74 = .int .i64 0
  f1 : L 1 → v75 = .bool false
  f2 : L 2 → v76 = .bool false
  f3 : L 3 → v77 = .pointer (some ⟨p, 0, none⟩)
  f4 : L 4 → v78 = .int .i64 u1
  f5 : L 5 → v79 = .slice (some ⟨g, 0, none⟩) n cap
  f6 : L 6 → v80 = .pointer (some ⟨B0, 0, none⟩)
  f7 : L 7 → v81 = .int .i64 (i : Int)
  f8 : L 8 → v82 = .pointer (some ⟨g, i * 2, none⟩)
  f9 : L 9 → v83 = .pointer (some ⟨g, i * 2, none⟩)
  f10 : L 10 → v84 = .int .i64 a1
  f11 : L 11 → v85 = .bool false
  f12 : L 12 → v86 = .bool false
  f13 : L 13 → v87 = .bool false
  f14 : L 14 → v88 = .pointer (some ⟨q, 0, none⟩)
  f15 : L 15 → v89 = .int .i64 u3
  f16 : L 16 → v90 = .slice (some ⟨g, 0, none⟩) n cap
  f17 : L 17 → v91 = .pointer (some ⟨B0, 1, none⟩)
  f18 : L 18 → v92 = .int .i64 (j : Int)
  f19 : L 19 → v93 = .pointer (some ⟨g, j * 2, none⟩)
  f20 : L 20 → v94 = .pointer (some ⟨g, j * 2, none⟩)
  f21 : L 21 → v95 = .int .i64 b1
  f22 : L 22 → v96 = .bool false
  f23 : L 23 → v97 = .bool false
  f24 : L 24 → v98 = .bool false
  f25 : L 25 → v99 = .agg #[.int .i64 u1, .int .i64 u2]
  f26 : L 26 → v100 = .bool true
  f27 : L 27 → v101 = .bool false
  f28 : L 28 → v102 = .bool false
  f29 : L 29 → v103 = .bool false
  f30 : L 30 → v104 = .agg #[.int .i64 u3, .int .i64 u4]
  f31 : L 31 → v105 = .bool true
  f32 : L 32 → v106 = .bool false
  f33 : L 33 → v107 = .bool false

set_option maxHeartbeats 8000000 in
set_option maxRecDepth 100000 in
theorem ratings (Ac : Option Addr) (cpc : Nat) (cs : List Int) (W : World) (hr : RdS W W.heap.size 1 enB Ac cs) (hw : ∀ x ∈ cs, (Lit.int .u8 x).wf = true) (tb : ∀ i : Nat, i < 11 → W.cell? ⟨0, i, none⟩ = some (.int .i64 (tab.getD i 0))) (hz : 0 < W.heap.size) :
    Calls Tryd.prog 8 #[.slice Ac cs.length cpc] W fun e w' => e = .returned (.bool true) ∧ Below W.heap.size W w' := by
  have T := Lib.hid (fun (w' : World) (hb : Below W.heap.size W w') (i : Nat) (hi : i < 11) => (hb.cell (p := ⟨0, i, none⟩) hz).trans (tb i hi))
  clear tb
  cases hbig : decide ((4096 : Int) < (cs.length : Int))
  case true =>
    have HB := Lib.hid hbig; clear hbig
    go_enter Tryd.func8, Tryd.ntmps8
    go_wp2_with fail
    refine (DrawR.bigB _ cpc Ac true HB.out _ hr.1).mono ?_
    rintro e w1 ⟨rfl, rfl⟩
    go_wp2_with fail
    go_ret
    exact ⟨rfl, Below.refl _ _⟩
  have HB := Lib.hid hbig; clear hbig
  go_enter Tryd.func8, Tryd.ntmps8
  go_wp2_with fail
  refine (DrawR.bigB _ cpc Ac false HB.out _ hr.1).mono ?_
  rintro e w1 ⟨rfl, rfl⟩
  go_wp2_with fail
  refine (draw_ hr hw).mono ?_
  rintro e w2 ⟨v, u, ls, ms, rfl, o1, o2, q2⟩
  clear hr hw
  obtain ⟨A1, c1, rfl, _⟩ := o1.form enI2_len
  obtain ⟨A2, c2, rfl, _⟩ := o2.form enI3_len
  have z2 := q2.size
  go_wp2_with fail
  refine (raI A1 A2 c1 c2 w2.heap.size w2.heap.size ls ms _ (o1.rd enI2_len) (o2.rd enI3_len) (Nat.le_refl _) (Nat.le_refl _) (T.out _ q2) (by omega)).mono ?_
  rintro e w3 ⟨⟨vo, rfl, oo⟩, hb3⟩
  have o1 := o1.below hb3 (Nat.le_refl _)
  have o2 := o2.below hb3 (Nat.le_refl _)
  have q3 := q2.trans (hb3.mono q2.size)
  have z3 := hb3.size
  clear hb3 q2
  obtain ⟨Ao, co, rfl, _⟩ := oo.form enI2_len
  have CS := rl_spec w2.heap.size w2.heap.size A1 A2 c1 c2 ls ms w3 (o1.rd enI2_len) (o2.rd enI3_len) z3 z3
  cases hok : okRL ls ms
  case false =>
    have HC : raC ls ms = 1 := by unfold raC; rw [hok]; rfl
    have HV : raL ls ms = [] := by unfold raL; rw [hok]; rfl
    rw [hok] at CS
    have CI := Lib.hid (fun w0 a b => rl_impl w2.heap.size w2.heap.size A1 A2 c1 c2 ls ms w0 ((o1.below a z3).rd enI2_len) ((o2.below a z3).rd enI3_len) b b)
    rw [hok] at CI
    rw [HC, HV]
    clear hok HC HV
    go_wp2_with fail
    refine CS.mono ?_
    rintro e w4 ⟨rfl, hb4⟩
    have q4 := q3.trans (hb4.mono q3.size)
    have z4 := hb4.size
    go_wp2_with fail
    refine (CI.out _ hb4 (by omega)).mono ?_
    rintro e w5 ⟨rfl, hb5⟩
    have q5 := q4.trans (hb5.mono q4.size)
    go_wp2_with fail
    go_ret
    exact ⟨rfl, q5⟩
  have HC : raC ls ms = 0 := by unfold raC; rw [hok]; rfl
  have HV : raL ls ms = allR ls ms := by unfold raL; rw [hok]; rfl
  have HOK := Lib.hid (fun k hk => allR_ok hok (k := k) hk)
  have hk := hok
  unfold okRL at hk
  simp only [Bool.and_eq_true] at hk
  have hsz := of_decide_eq_true hk.1
  have HM := Lib.hid hk.2.2
  rw [hok] at CS
  rw [HV] at oo ⊢
  rw [HC]
  clear hk hok HC HV
  go_wp2_with fail
  refine CS.mono ?_
  rintro e w4 ⟨rfl, hb4⟩
  have o1 := o1.below hb4 z3
  have o2 := o2.below hb4 z3
  have oo := oo.below hb4 (Nat.le_refl _)
  have q4 := q3.trans (hb4.mono q3.size)
  have z4 := hb4.size
  clear hb4 q3 CS
  obtain ⟨i0, hi0, hz0, hz1, hz2⟩ := info_parts RateAll.infoR
  have hoL : (allR ls ms).length = ls.length := allR_len ms ls
  obtain ⟨b1, f1, rfl, hb1, _⟩ := (o1.rd enI2_len).2 (by omega)
  have hrd1 := o1.rd enI2_len
  go_wp2_with (at_builtin; refine wpList_append_own _ rfl _ _ _ rfl w4.heap.size 33 i0 (.agg #[.int .i64 0, .int .i64 0]) 2 16 Tryd.underlying41 hi0 hz0 hz1 hz2 rfl (by decide) _ 0 [] rfl ((RowB.new w4 33 []).own (xs := ([] : List (Int × Int))) (en := enI2) enI2_len (Nat.le_refl _) (by simp) (by decide) : OwnS _ w4.heap.size (w4.alloc (.cells #[] 33)).heap.size 33 2 enI2 _ []).1 ⟨b1, f1, none⟩ ls.length c1 (ls.flatMap enI2) rfl (by rw [flatMap_len enI2_len]) (news_rd2 (hrd1.below (show Below w4.heap.size w4 _ from by go_grown) (by omega))) (RateAll.one_R ls) ?c1 ?c2 ?c3 ?_)
  case c1 => unfold maxLen; omega
  case c2 => omega
  case c3 => go_size
  intro vn w7 hown hgr _
  have hown : w7.ownsRow w4.heap.size 33 2 vn ls.length (ls.flatMap enI2) := by simpa using hown
  have on : OwnS w7 w4.heap.size w7.heap.size 33 2 enI2 vn ls := ⟨hown, fun g hg => (hown.lt g hg).2⟩
  have q7 : Below w4.heap.size w4 w7 := ((Below.refl w4.heap.size w4).alloc (Nat.le_refl _) _).grown hgr (by go_size) (fun g hg => by simp [Value.ownBlock] at hg; omega)
  have o2 := o2.below q7 (by omega)
  have oo := oo.below q7 z4
  have z7 := q7.size
  have q7 := q4.trans (q7.mono q4.size)
  clear hown hgr hi0 hz0 hz1 hz2 q4 hrd1
  rcases on.cases_ with ⟨_, hnil⟩ | ⟨g, cap, rest, rfl, hlo, hhi, hR, hnc, hcm, hl⟩
  · rw [hnil] at hsz; simp at hsz
  have hlo' : W.heap.size ≤ g := by omega
  have hR := Lib.hid hR
  have hg3 : w3.heap.size ≤ g := by omega
  have hg2 : w2.heap.size ≤ g := by omega
  clear on
  obtain ⟨n, hn⟩ : ∃ n, ls.length = n := ⟨_, rfl⟩
  obtain ⟨N, hN⟩ : ∃ N, ms.length = N := ⟨_, rfl⟩
  have HNN := Lib.hid hN
  have Hn := Lib.hid hn
  have HO := Lib.hid oo
  have HO2 := Lib.hid (o2.rd enI3_len)
  have hml := (o2.rd enI3_len).len
  clear oo o2
  rw [hn] at hsz hnc hl
  rw [hN] at hsz hml
  have HoL : Hid ((allR ls ms).length = n) := by rw [hoL, hn]; rfl
  rw [hn, hN]
  clear hn hN hoL
  have GB := Lib.hid (fun (w' : World) (h : w7.grownBy w' (some g)) => below_row q7 h hlo')
  go_wp2_with fail
  go_loopw [8] (fun s wr => ∃ k : Nat, k ≤ N ∧ s = .int .i64 (k : Int) ∧ w7.grownBy wr (some g) ∧ Hid (RowB wr g 33 ((allR ls (ms.take k)).flatMap enI2 ++ rest))) (fun s _ => N - (intOf s).toNat)
  case atStart => exact ⟨0, Nat.zero_le _, rfl, grownBy_refl _ _, hR⟩
  case round =>
    clear hR hhi
    obtain ⟨k, hk, rfl, qg, hR⟩ := hrel
    have hgr := hR.out.lt
    by_cases hlt : k < N
    · obtain ⟨b, off, p, q, r, rfl, hbB, hx, d0, d1, d2⟩ := rdI3_at (HO2.out.grown qg (by omega) (fun k hk => by simp at hk; omega)) (by rw [HNN.out]; exact hlt)
      have hm := (List.all_eq_true.1 HM.out) _ (List.mem_of_getElem? hx)
      unfold okM at hm
      have hm := of_decide_eq_true hm
      rw [Hn.out] at hm
      simp only at hm
      obtain ⟨i, rfl⟩ : ∃ i : Nat, p = i := ⟨p.toNat, by omega⟩
      obtain ⟨j, rfl⟩ : ∃ j : Nat, q = j := ⟨q.toNat, by omega⟩
      have hlen : (allR ls (ms.take k)).length = n := by rw [allR_len]; exact Hn.out
      have hS := Lib.hid (allR_succ ls ms k _ hx)
      have hokk := HOK.out k (by rw [HNN.out]; omega)
      have hokn := Lib.hid (HOK.out (k + 1) (by rw [HNN.out]; omega))
      have hka := okR_at hokk (i := i) (by omega)
      have hkb := okR_at hokk (i := j) (by omega)
      have ha := (okR_iff _ _).1 hka
      have hbk := (okR_iff _ _).1 hkb
      have hbw : b < wr.heap.size := by have := qg.size; omega
      have hstep : stepR (allR ls (ms.take k)) ((i : Int), (j : Int), r) = ((allR ls (ms.take k)).set i (up ((allR ls (ms.take k)).getD i (0, 0)).1 (chg r (rp ((allR ls (ms.take k)).getD i (0, 0)).1 ((allR ls (ms.take k)).getD j (0, 0)).1 r) ((allR ls (ms.take k)).getD i (0, 0)).2), more ((allR ls (ms.take k)).getD i (0, 0)).2 r)).set j (down ((allR ls (ms.take k)).getD j (0, 0)).1 (chg r (rp ((allR ls (ms.take k)).getD i (0, 0)).1 ((allR ls (ms.take k)).getD j (0, 0)).1 r) ((allR ls (ms.take k)).getD j (0, 0)).2), more ((allR ls (ms.take k)).getD j (0, 0)).2 r) := rfl
      have HST := Lib.hid (hS.out.trans hstep)
      clear hstep hS hx hokk
      generalize hys : allR ls (ms.take k) = ys at *
      generalize hyn : allR ls (ms.take (k + 1)) = yn at *
      have HYN := Lib.hid hyn
      clear hys hyn
      have hi2 : (i : Int) < (n : Int) := hm.2.1
      have hj2 : (j : Int) < (n : Int) := hm.2.2.2.1
      have hi0 : (0 : Int) ≤ (i : Int) := hm.1
      have hj0 : (0 : Int) ≤ (j : Int) := hm.2.2.1
      have hij : i ≠ j := by omega
      have CM := fun w0 x y => rI0 (ys.getD i (0, 0)).1 (ys.getD i (0, 0)).2 (ys.getD j (0, 0)).1 (ys.getD j (0, 0)).2 r w0 hka hkb (by omega) (by omega) x y
      have hil : i < ys.length := by omega
      have hjl : j < ys.length := by omega
      have HIL := Lib.hid hil
      have HJL := Lib.hid hjl
      have CA := Lib.hid (fun (W : World) (hq : RowB W g 33 (ys.flatMap enI2 ++ rest)) => And.intro (rat_cells hq HIL.out) (rat_cells hq HJL.out))
      generalize hA1 : (ys.getD i (0, 0)).1 = a1 at *
      generalize hA2 : (ys.getD i (0, 0)).2 = a2 at *
      generalize hB1' : (ys.getD j (0, 0)).1 = b1' at *
      generalize hB2' : (ys.getD j (0, 0)).2 = b2' at *
      clear hA1 hA2 hB1' hB2' hlen hil hjl
      have hp := ch_bd2 (a1 - b1') r
      have ca := chg_bd2 (L := r) (p := rp a1 b1' r) (x := a2) hp.1 hp.2 ha.2.2.1
      have cb := chg_bd2 (L := r) (p := rp a1 b1' r) (x := b2') hp.1 hp.2 hbk.2.2.1
      have HU1 : Hid (decide (up a1 (chg r (rp a1 b1' r) a2) < a1) = false) := decide_eq_false (by unfold up; omega)
      have HU3 : Hid (decide (b1' < down b1' (chg r (rp a1 b1' r) b2')) = false) := decide_eq_false (by unfold down; omega)
      have HK1 : Hid (okR (up a1 (chg r (rp a1 b1' r) a2)) (more a2 r) = true) := (okR_iff _ _).2 (by unfold up more; omega)
      have HK2 : Hid (okR (down b1' (chg r (rp a1 b1' r) b2')) (more b2' r) = true) := (okR_iff _ _).2 (by unfold down more; omega)
      clear ha hbk hp ca cb hka hkb
      generalize hu1 : up a1 (chg r (rp a1 b1' r) a2) = u1 at *
      generalize hu2 : more a2 r = u2 at *
      generalize hu3 : down b1' (chg r (rp a1 b1' r) b2') = u3 at *
      generalize hu4 : more b2' r = u4 at *
      clear hu1 hu2 hu3 hu4
      have CM := Lib.hid CM
      have CI := Lib.hid (fun (w0 : World) (x y : Int) (h : okR x y = true) => isR_yes x y w0 h)
      have HJL2 := Lib.hid (show j < (ys.set i (u1, u2)).length from by rw [List.length_set]; exact HJL.out)
      have CB := Lib.hid (fun (W : World) (hq : RowB W g 33 ((ys.set i (u1, u2)).flatMap enI2 ++ rest)) => rat_cells hq HJL2.out)
      go_upto_region 12 with (fail)
      refine RateAll2.wpS (fun W' => Below wr.heap.size wr W' ∧ RowB W' wr.heap.size 49 [.int .i64 (i : Int), .int .i64 (j : Int), .int .i64 r]) ⟨(Below.refl _ _).alloc (Nat.le_refl _) _, RowB.new _ _ _⟩ ?_
      clear d0 d1 d2
      rintro w3' ⟨t3, rb⟩
      have row3 := hR.out.below t3 hgr
      have g3 := grown_below qg t3
      have lb := rb.lt
      have hnb : wr.heap.size ≠ g := by omega
      have hsz9 : w7.heap.size ≤ wr.heap.size := qg.size
      refine region_inv (fun a0 L a w' => ∃ v10 v11 v12 v57 v58 v59 v60 v61 v62 v63 v64 v65 v66 v67 v68 v69 v70 v71 v72 v73 : Value, a = ((((((((((((((((((((a0.put (some 10) v10).put (some 11) v11).put (some 12) v12).put (some 57) v57).put (some 58) v58).put (some 59) v59).put (some 60) v60).put (some 61) v61).put (some 62) v62).put (some 63) v63).put (some 64) v64).put (some 65) v65).put (some 66) v66).put (some 67) v67).put (some 68) v68).put (some 69) v69).put (some 70) v70).put (some 71) v71).put (some 72) v72).put (some 73) v73) ∧ RfA w7 wr.heap.size g n cap i j r a1 a2 b1' b2' u1 u2 u3 u4 ys rest L v10 v11 v12 v57 v58 v59 v60 v61 v62 v63 v64 v65 v66 v67 v68 v69 v70 v71 v72 v73 w') (by kernel_rfl) (by kernel_rfl) ?h0 ?hst ?fin
      case h0 =>
        exact ⟨_, _, _, _, _, _, _, _, _, _, _, _, _, _, _, _, _, _, _, _, by simp only [Act.put, List.setIfInBounds_toArray, List.set_cons_zero, List.set_cons_succ]; exact rfl, ⟨grownBy_drew g3, rb.drew, row3.drew, fun h => (h : False).elim, hsz9, fun h => (h : False).elim, fun h => (h : False).elim, fun h => (h : False).elim, fun h => (h : False).elim, fun h => (h : False).elim, fun h => (h : False).elim, fun h => (h : False).elim, fun h => (h : False).elim, fun h => (h : False).elim, fun h => (h : False).elim, fun h => (h : False).elim, fun h => (h : False).elim, fun h => (h : False).elim, fun h => (h : False).elim, fun h => (h : False).elim, fun h => (h : False).elim, fun h => (h : False).elim, fun h => (h : False).elim, fun h => (h : False).elim, fun h => (h : False).elim, fun h => (h : False).elim, fun h => (h : False).elim⟩⟩
      case hst =>
        refine StepsFrom.cons rfl (fun L a w' hI hno hdep hcl K hK => ?_) ?_
        · obtain ⟨v10, v11, v12, v57, v58, v59, v60, v61, v62, v63, v64, v65, v66, v67, v68, v69, v70, v71, v72, v73, ha, F⟩ := hI
          subst ha
          simp only [Act.put, List.setIfInBounds_toArray, List.set_cons_zero, List.set_cons_succ]
          go_simp
          exact hK.out _ _ ⟨v10, v11, v12, v57, _, v59, v60, v61, v62, v63, v64, v65, v66, v67, v68, v69, v70, v71, v72, v73, by simp only [Act.put, List.setIfInBounds_toArray, List.set_cons_zero, List.set_cons_succ], ⟨F.gr, F.rb, F.r0, fun h1 h2 => F.ap (h1.resolve_left (by decide)) (h2.resolve_left (by decide)), F.sz, fun _ => rfl, fun h => F.f1 (h.resolve_left (by decide)), fun h => F.f2 (h.resolve_left (by decide)), fun h => F.f3 (h.resolve_left (by decide)), fun h => F.f4 (h.resolve_left (by decide)), fun h => F.f5 (h.resolve_left (by decide)), fun h => F.f6 (h.resolve_left (by decide)), fun h => F.f7 (h.resolve_left (by decide)), fun h => F.f8 (h.resolve_left (by decide)), fun h => F.f9 (h.resolve_left (by decide)), fun h => F.f10 (h.resolve_left (by decide)), fun h => F.f11 (h.resolve_left (by decide)), fun h => F.f12 (h.resolve_left (by decide)), fun h => F.f13 (h.resolve_left (by decide)), fun h => F.f14 (h.resolve_left (by decide)), fun h => F.f15 (h.resolve_left (by decide)), fun h => F.f16 (h.resolve_left (by decide)), fun h => F.f17 (h.resolve_left (by decide)), fun h => F.f18 (h.resolve_left (by decide)), fun h => F.f19 (h.resolve_left (by decide)), fun h => F.f20 (h.resolve_left (by decide)), fun h => F.f21 (h.resolve_left (by decide))⟩⟩
        refine StepsFrom.cons rfl (fun L a w' hI hno hdep hcl K hK => ?_) ?_
        · obtain ⟨v10, v11, v12, v57, v58, v59, v60, v61, v62, v63, v64, v65, v66, v67, v68, v69, v70, v71, v72, v73, ha, F⟩ := hI
          subst ha
          simp only [Act.put, List.setIfInBounds_toArray, List.set_cons_zero, List.set_cons_succ]
          go_simp
          exact hK.out _ _ ⟨v10, v11, v12, v57, v58, _, v60, v61, v62, v63, v64, v65, v66, v67, v68, v69, v70, v71, v72, v73, by simp only [Act.put, List.setIfInBounds_toArray, List.set_cons_zero, List.set_cons_succ], ⟨F.gr, F.rb, F.r0, fun h1 h2 => F.ap (h1.resolve_left (by decide)) (h2.resolve_left (by decide)), F.sz, fun h => F.f0 (h.resolve_left (by decide)), fun _ => rfl, fun h => F.f2 (h.resolve_left (by decide)), fun h => F.f3 (h.resolve_left (by decide)), fun h => F.f4 (h.resolve_left (by decide)), fun h => F.f5 (h.resolve_left (by decide)), fun h => F.f6 (h.resolve_left (by decide)), fun h => F.f7 (h.resolve_left (by decide)), fun h => F.f8 (h.resolve_left (by decide)), fun h => F.f9 (h.resolve_left (by decide)), fun h => F.f10 (h.resolve_left (by decide)), fun h => F.f11 (h.resolve_left (by decide)), fun h => F.f12 (h.resolve_left (by decide)), fun h => F.f13 (h.resolve_left (by decide)), fun h => F.f14 (h.resolve_left (by decide)), fun h => F.f15 (h.resolve_left (by decide)), fun h => F.f16 (h.resolve_left (by decide)), fun h => F.f17 (h.resolve_left (by decide)), fun h => F.f18 (h.resolve_left (by decide)), fun h => F.f19 (h.resolve_left (by decide)), fun h => F.f20 (h.resolve_left (by decide)), fun h => F.f21 (h.resolve_left (by decide))⟩⟩
        refine StepsFrom.cons rfl (fun L a w' hI hno hdep hcl K hK => ?_) ?_
        · obtain ⟨v10, v11, v12, v57, v58, v59, v60, v61, v62, v63, v64, v65, v66, v67, v68, v69, v70, v71, v72, v73, ha, F⟩ := hI
          have e59 := F.f1 (hdep 1 (by kernel_rfl))
          have cc := F.rb.c3
          have d0 := cc.1
          have d1 := cc.2.1
          have d2 := cc.2.2
          clear cc
          subst ha
          simp only [Act.put, List.setIfInBounds_toArray, List.set_cons_zero, List.set_cons_succ, e59]
          go_simp
          exact hK.out _ _ ⟨v10, v11, v12, v57, v58, v59, _, v61, v62, v63, v64, v65, v66, v67, v68, v69, v70, v71, v72, v73, by simp only [Act.put, List.setIfInBounds_toArray, List.set_cons_zero, List.set_cons_succ, e59], ⟨F.gr, F.rb, F.r0, fun h1 h2 => F.ap (h1.resolve_left (by decide)) (h2.resolve_left (by decide)), F.sz, fun h => F.f0 (h.resolve_left (by decide)), fun h => F.f1 (h.resolve_left (by decide)), fun _ => rfl, fun h => F.f3 (h.resolve_left (by decide)), fun h => F.f4 (h.resolve_left (by decide)), fun h => F.f5 (h.resolve_left (by decide)), fun h => F.f6 (h.resolve_left (by decide)), fun h => F.f7 (h.resolve_left (by decide)), fun h => F.f8 (h.resolve_left (by decide)), fun h => F.f9 (h.resolve_left (by decide)), fun h => F.f10 (h.resolve_left (by decide)), fun h => F.f11 (h.resolve_left (by decide)), fun h => F.f12 (h.resolve_left (by decide)), fun h => F.f13 (h.resolve_left (by decide)), fun h => F.f14 (h.resolve_left (by decide)), fun h => F.f15 (h.resolve_left (by decide)), fun h => F.f16 (h.resolve_left (by decide)), fun h => F.f17 (h.resolve_left (by decide)), fun h => F.f18 (h.resolve_left (by decide)), fun h => F.f19 (h.resolve_left (by decide)), fun h => F.f20 (h.resolve_left (by decide)), fun h => F.f21 (h.resolve_left (by decide))⟩⟩
        refine StepsFrom.cons rfl (fun L a w' hI hno hdep hcl K hK => ?_) ?_
        · obtain ⟨v10, v11, v12, v57, v58, v59, v60, v61, v62, v63, v64, v65, v66, v67, v68, v69, v70, v71, v72, v73, ha, F⟩ := hI
          have e58 := F.f0 (hdep 0 (by kernel_rfl))
          have e60 := F.f2 (hdep 2 (by kernel_rfl))
          subst ha
          simp only [Act.put, List.setIfInBounds_toArray, List.set_cons_zero, List.set_cons_succ, e58, e60]
          go_simp
          exact hK.out _ _ ⟨v10, v11, v12, v57, v58, v59, v60, _, v62, v63, v64, v65, v66, v67, v68, v69, v70, v71, v72, v73, by simp only [Act.put, List.setIfInBounds_toArray, List.set_cons_zero, List.set_cons_succ, e58, e60], ⟨F.gr, F.rb, F.r0, fun h1 h2 => F.ap (h1.resolve_left (by decide)) (h2.resolve_left (by decide)), F.sz, fun h => F.f0 (h.resolve_left (by decide)), fun h => F.f1 (h.resolve_left (by decide)), fun h => F.f2 (h.resolve_left (by decide)), fun _ => rfl, fun h => F.f4 (h.resolve_left (by decide)), fun h => F.f5 (h.resolve_left (by decide)), fun h => F.f6 (h.resolve_left (by decide)), fun h => F.f7 (h.resolve_left (by decide)), fun h => F.f8 (h.resolve_left (by decide)), fun h => F.f9 (h.resolve_left (by decide)), fun h => F.f10 (h.resolve_left (by decide)), fun h => F.f11 (h.resolve_left (by decide)), fun h => F.f12 (h.resolve_left (by decide)), fun h => F.f13 (h.resolve_left (by decide)), fun h => F.f14 (h.resolve_left (by decide)), fun h => F.f15 (h.resolve_left (by decide)), fun h => F.f16 (h.resolve_left (by decide)), fun h => F.f17 (h.resolve_left (by decide)), fun h => F.f18 (h.resolve_left (by decide)), fun h => F.f19 (h.resolve_left (by decide)), fun h => F.f20 (h.resolve_left (by decide)), fun h => F.f21 (h.resolve_left (by decide))⟩⟩
        refine StepsFrom.cons rfl (fun L a w' hI hno hdep hcl K hK => ?_) ?_
        · obtain ⟨v10, v11, v12, v57, v58, v59, v60, v61, v62, v63, v64, v65, v66, v67, v68, v69, v70, v71, v72, v73, ha, F⟩ := hI
          have e61 := F.f3 (hdep 3 (by kernel_rfl))
          have cc := CA.out _ F.r0
          have d0 := cc.1.1
          have d1 := cc.1.2
          have d2 := cc.2.1
          have d3 := cc.2.2
          clear cc
          subst ha
          simp only [Act.put, List.setIfInBounds_toArray, List.set_cons_zero, List.set_cons_succ, e61]
          go_simp
          exact hK.out _ _ ⟨v10, v11, v12, v57, v58, v59, v60, v61, _, v63, v64, v65, v66, v67, v68, v69, v70, v71, v72, v73, by simp only [Act.put, List.setIfInBounds_toArray, List.set_cons_zero, List.set_cons_succ, e61], ⟨F.gr, F.rb, F.r0, fun h1 h2 => F.ap (h1.resolve_left (by decide)) (h2.resolve_left (by decide)), F.sz, fun h => F.f0 (h.resolve_left (by decide)), fun h => F.f1 (h.resolve_left (by decide)), fun h => F.f2 (h.resolve_left (by decide)), fun h => F.f3 (h.resolve_left (by decide)), fun _ => rfl, fun h => F.f5 (h.resolve_left (by decide)), fun h => F.f6 (h.resolve_left (by decide)), fun h => F.f7 (h.resolve_left (by decide)), fun h => F.f8 (h.resolve_left (by decide)), fun h => F.f9 (h.resolve_left (by decide)), fun h => F.f10 (h.resolve_left (by decide)), fun h => F.f11 (h.resolve_left (by decide)), fun h => F.f12 (h.resolve_left (by decide)), fun h => F.f13 (h.resolve_left (by decide)), fun h => F.f14 (h.resolve_left (by decide)), fun h => F.f15 (h.resolve_left (by decide)), fun h => F.f16 (h.resolve_left (by decide)), fun h => F.f17 (h.resolve_left (by decide)), fun h => F.f18 (h.resolve_left (by decide)), fun h => F.f19 (h.resolve_left (by decide)), fun h => F.f20 (h.resolve_left (by decide)), fun h => F.f21 (h.resolve_left (by decide))⟩⟩
        refine StepsFrom.cons rfl (fun L a w' hI hno hdep hcl K hK => ?_) ?_
        · obtain ⟨v10, v11, v12, v57, v58, v59, v60, v61, v62, v63, v64, v65, v66, v67, v68, v69, v70, v71, v72, v73, ha, F⟩ := hI
          subst ha
          simp only [Act.put, List.setIfInBounds_toArray, List.set_cons_zero, List.set_cons_succ]
          go_simp
          exact hK.out _ _ ⟨v10, v11, v12, v57, v58, v59, v60, v61, v62, _, v64, v65, v66, v67, v68, v69, v70, v71, v72, v73, by simp only [Act.put, List.setIfInBounds_toArray, List.set_cons_zero, List.set_cons_succ], ⟨F.gr, F.rb, F.r0, fun h1 h2 => F.ap (h1.resolve_left (by decide)) (h2.resolve_left (by decide)), F.sz, fun h => F.f0 (h.resolve_left (by decide)), fun h => F.f1 (h.resolve_left (by decide)), fun h => F.f2 (h.resolve_left (by decide)), fun h => F.f3 (h.resolve_left (by decide)), fun h => F.f4 (h.resolve_left (by decide)), fun _ => rfl, fun h => F.f6 (h.resolve_left (by decide)), fun h => F.f7 (h.resolve_left (by decide)), fun h => F.f8 (h.resolve_left (by decide)), fun h => F.f9 (h.resolve_left (by decide)), fun h => F.f10 (h.resolve_left (by decide)), fun h => F.f11 (h.resolve_left (by decide)), fun h => F.f12 (h.resolve_left (by decide)), fun h => F.f13 (h.resolve_left (by decide)), fun h => F.f14 (h.resolve_left (by decide)), fun h => F.f15 (h.resolve_left (by decide)), fun h => F.f16 (h.resolve_left (by decide)), fun h => F.f17 (h.resolve_left (by decide)), fun h => F.f18 (h.resolve_left (by decide)), fun h => F.f19 (h.resolve_left (by decide)), fun h => F.f20 (h.resolve_left (by decide)), fun h => F.f21 (h.resolve_left (by decide))⟩⟩
        refine StepsFrom.cons rfl (fun L a w' hI hno hdep hcl K hK => ?_) ?_
        · obtain ⟨v10, v11, v12, v57, v58, v59, v60, v61, v62, v63, v64, v65, v66, v67, v68, v69, v70, v71, v72, v73, ha, F⟩ := hI
          subst ha
          simp only [Act.put, List.setIfInBounds_toArray, List.set_cons_zero, List.set_cons_succ]
          go_simp
          exact hK.out _ _ ⟨v10, v11, v12, v57, v58, v59, v60, v61, v62, v63, _, v65, v66, v67, v68, v69, v70, v71, v72, v73, by simp only [Act.put, List.setIfInBounds_toArray, List.set_cons_zero, List.set_cons_succ], ⟨F.gr, F.rb, F.r0, fun h1 h2 => F.ap (h1.resolve_left (by decide)) (h2.resolve_left (by decide)), F.sz, fun h => F.f0 (h.resolve_left (by decide)), fun h => F.f1 (h.resolve_left (by decide)), fun h => F.f2 (h.resolve_left (by decide)), fun h => F.f3 (h.resolve_left (by decide)), fun h => F.f4 (h.resolve_left (by decide)), fun h => F.f5 (h.resolve_left (by decide)), fun _ => rfl, fun h => F.f7 (h.resolve_left (by decide)), fun h => F.f8 (h.resolve_left (by decide)), fun h => F.f9 (h.resolve_left (by decide)), fun h => F.f10 (h.resolve_left (by decide)), fun h => F.f11 (h.resolve_left (by decide)), fun h => F.f12 (h.resolve_left (by decide)), fun h => F.f13 (h.resolve_left (by decide)), fun h => F.f14 (h.resolve_left (by decide)), fun h => F.f15 (h.resolve_left (by decide)), fun h => F.f16 (h.resolve_left (by decide)), fun h => F.f17 (h.resolve_left (by decide)), fun h => F.f18 (h.resolve_left (by decide)), fun h => F.f19 (h.resolve_left (by decide)), fun h => F.f20 (h.resolve_left (by decide)), fun h => F.f21 (h.resolve_left (by decide))⟩⟩
        refine StepsFrom.cons rfl (fun L a w' hI hno hdep hcl K hK => ?_) ?_
        · obtain ⟨v10, v11, v12, v57, v58, v59, v60, v61, v62, v63, v64, v65, v66, v67, v68, v69, v70, v71, v72, v73, ha, F⟩ := hI
          have e64 := F.f6 (hdep 6 (by kernel_rfl))
          have cc := F.rb.c3
          have d0 := cc.1
          have d1 := cc.2.1
          have d2 := cc.2.2
          clear cc
          subst ha
          simp only [Act.put, List.setIfInBounds_toArray, List.set_cons_zero, List.set_cons_succ, e64]
          go_simp
          exact hK.out _ _ ⟨v10, v11, v12, v57, v58, v59, v60, v61, v62, v63, v64, _, v66, v67, v68, v69, v70, v71, v72, v73, by simp only [Act.put, List.setIfInBounds_toArray, List.set_cons_zero, List.set_cons_succ, e64], ⟨F.gr, F.rb, F.r0, fun h1 h2 => F.ap (h1.resolve_left (by decide)) (h2.resolve_left (by decide)), F.sz, fun h => F.f0 (h.resolve_left (by decide)), fun h => F.f1 (h.resolve_left (by decide)), fun h => F.f2 (h.resolve_left (by decide)), fun h => F.f3 (h.resolve_left (by decide)), fun h => F.f4 (h.resolve_left (by decide)), fun h => F.f5 (h.resolve_left (by decide)), fun h => F.f6 (h.resolve_left (by decide)), fun _ => rfl, fun h => F.f8 (h.resolve_left (by decide)), fun h => F.f9 (h.resolve_left (by decide)), fun h => F.f10 (h.resolve_left (by decide)), fun h => F.f11 (h.resolve_left (by decide)), fun h => F.f12 (h.resolve_left (by decide)), fun h => F.f13 (h.resolve_left (by decide)), fun h => F.f14 (h.resolve_left (by decide)), fun h => F.f15 (h.resolve_left (by decide)), fun h => F.f16 (h.resolve_left (by decide)), fun h => F.f17 (h.resolve_left (by decide)), fun h => F.f18 (h.resolve_left (by decide)), fun h => F.f19 (h.resolve_left (by decide)), fun h => F.f20 (h.resolve_left (by decide)), fun h => F.f21 (h.resolve_left (by decide))⟩⟩
        refine StepsFrom.cons rfl (fun L a w' hI hno hdep hcl K hK => ?_) ?_
        · obtain ⟨v10, v11, v12, v57, v58, v59, v60, v61, v62, v63, v64, v65, v66, v67, v68, v69, v70, v71, v72, v73, ha, F⟩ := hI
          have e63 := F.f5 (hdep 5 (by kernel_rfl))
          have e65 := F.f7 (hdep 7 (by kernel_rfl))
          subst ha
          simp only [Act.put, List.setIfInBounds_toArray, List.set_cons_zero, List.set_cons_succ, e63, e65]
          go_simp
          exact hK.out _ _ ⟨v10, v11, v12, v57, v58, v59, v60, v61, v62, v63, v64, v65, _, v67, v68, v69, v70, v71, v72, v73, by simp only [Act.put, List.setIfInBounds_toArray, List.set_cons_zero, List.set_cons_succ, e63, e65], ⟨F.gr, F.rb, F.r0, fun h1 h2 => F.ap (h1.resolve_left (by decide)) (h2.resolve_left (by decide)), F.sz, fun h => F.f0 (h.resolve_left (by decide)), fun h => F.f1 (h.resolve_left (by decide)), fun h => F.f2 (h.resolve_left (by decide)), fun h => F.f3 (h.resolve_left (by decide)), fun h => F.f4 (h.resolve_left (by decide)), fun h => F.f5 (h.resolve_left (by decide)), fun h => F.f6 (h.resolve_left (by decide)), fun h => F.f7 (h.resolve_left (by decide)), fun _ => rfl, fun h => F.f9 (h.resolve_left (by decide)), fun h => F.f10 (h.resolve_left (by decide)), fun h => F.f11 (h.resolve_left (by decide)), fun h => F.f12 (h.resolve_left (by decide)), fun h => F.f13 (h.resolve_left (by decide)), fun h => F.f14 (h.resolve_left (by decide)), fun h => F.f15 (h.resolve_left (by decide)), fun h => F.f16 (h.resolve_left (by decide)), fun h => F.f17 (h.resolve_left (by decide)), fun h => F.f18 (h.resolve_left (by decide)), fun h => F.f19 (h.resolve_left (by decide)), fun h => F.f20 (h.resolve_left (by decide)), fun h => F.f21 (h.resolve_left (by decide))⟩⟩
        refine StepsFrom.cons rfl (fun L a w' hI hno hdep hcl K hK => ?_) ?_
        · obtain ⟨v10, v11, v12, v57, v58, v59, v60, v61, v62, v63, v64, v65, v66, v67, v68, v69, v70, v71, v72, v73, ha, F⟩ := hI
          have e66 := F.f8 (hdep 8 (by kernel_rfl))
          have cc := CA.out _ F.r0
          have d0 := cc.1.1
          have d1 := cc.1.2
          have d2 := cc.2.1
          have d3 := cc.2.2
          clear cc
          subst ha
          simp only [Act.put, List.setIfInBounds_toArray, List.set_cons_zero, List.set_cons_succ, e66]
          go_simp
          exact hK.out _ _ ⟨v10, v11, v12, v57, v58, v59, v60, v61, v62, v63, v64, v65, v66, _, v68, v69, v70, v71, v72, v73, by simp only [Act.put, List.setIfInBounds_toArray, List.set_cons_zero, List.set_cons_succ, e66], ⟨F.gr, F.rb, F.r0, fun h1 h2 => F.ap (h1.resolve_left (by decide)) (h2.resolve_left (by decide)), F.sz, fun h => F.f0 (h.resolve_left (by decide)), fun h => F.f1 (h.resolve_left (by decide)), fun h => F.f2 (h.resolve_left (by decide)), fun h => F.f3 (h.resolve_left (by decide)), fun h => F.f4 (h.resolve_left (by decide)), fun h => F.f5 (h.resolve_left (by decide)), fun h => F.f6 (h.resolve_left (by decide)), fun h => F.f7 (h.resolve_left (by decide)), fun h => F.f8 (h.resolve_left (by decide)), fun _ => rfl, fun h => F.f10 (h.resolve_left (by decide)), fun h => F.f11 (h.resolve_left (by decide)), fun h => F.f12 (h.resolve_left (by decide)), fun h => F.f13 (h.resolve_left (by decide)), fun h => F.f14 (h.resolve_left (by decide)), fun h => F.f15 (h.resolve_left (by decide)), fun h => F.f16 (h.resolve_left (by decide)), fun h => F.f17 (h.resolve_left (by decide)), fun h => F.f18 (h.resolve_left (by decide)), fun h => F.f19 (h.resolve_left (by decide)), fun h => F.f20 (h.resolve_left (by decide)), fun h => F.f21 (h.resolve_left (by decide))⟩⟩
        refine StepsFrom.cons rfl (fun L a w' hI hno hdep hcl K hK => ?_) ?_
        · obtain ⟨v10, v11, v12, v57, v58, v59, v60, v61, v62, v63, v64, v65, v66, v67, v68, v69, v70, v71, v72, v73, ha, F⟩ := hI
          subst ha
          simp only [Act.put, List.setIfInBounds_toArray, List.set_cons_zero, List.set_cons_succ]
          go_simp
          exact hK.out _ _ ⟨v10, v11, v12, v57, v58, v59, v60, v61, v62, v63, v64, v65, v66, v67, _, v69, v70, v71, v72, v73, by simp only [Act.put, List.setIfInBounds_toArray, List.set_cons_zero, List.set_cons_succ], ⟨F.gr, F.rb, F.r0, fun h1 h2 => F.ap (h1.resolve_left (by decide)) (h2.resolve_left (by decide)), F.sz, fun h => F.f0 (h.resolve_left (by decide)), fun h => F.f1 (h.resolve_left (by decide)), fun h => F.f2 (h.resolve_left (by decide)), fun h => F.f3 (h.resolve_left (by decide)), fun h => F.f4 (h.resolve_left (by decide)), fun h => F.f5 (h.resolve_left (by decide)), fun h => F.f6 (h.resolve_left (by decide)), fun h => F.f7 (h.resolve_left (by decide)), fun h => F.f8 (h.resolve_left (by decide)), fun h => F.f9 (h.resolve_left (by decide)), fun _ => rfl, fun h => F.f11 (h.resolve_left (by decide)), fun h => F.f12 (h.resolve_left (by decide)), fun h => F.f13 (h.resolve_left (by decide)), fun h => F.f14 (h.resolve_left (by decide)), fun h => F.f15 (h.resolve_left (by decide)), fun h => F.f16 (h.resolve_left (by decide)), fun h => F.f17 (h.resolve_left (by decide)), fun h => F.f18 (h.resolve_left (by decide)), fun h => F.f19 (h.resolve_left (by decide)), fun h => F.f20 (h.resolve_left (by decide)), fun h => F.f21 (h.resolve_left (by decide))⟩⟩
        refine StepsFrom.cons rfl (fun L a w' hI hno hdep hcl K hK => ?_) ?_
        · obtain ⟨v10, v11, v12, v57, v58, v59, v60, v61, v62, v63, v64, v65, v66, v67, v68, v69, v70, v71, v72, v73, ha, F⟩ := hI
          have e68 := F.f10 (hdep 10 (by kernel_rfl))
          have cc := F.rb.c3
          have d0 := cc.1
          have d1 := cc.2.1
          have d2 := cc.2.2
          clear cc
          subst ha
          simp only [Act.put, List.setIfInBounds_toArray, List.set_cons_zero, List.set_cons_succ, e68]
          go_simp
          exact hK.out _ _ ⟨v10, v11, v12, v57, v58, v59, v60, v61, v62, v63, v64, v65, v66, v67, v68, _, v70, v71, v72, v73, by simp only [Act.put, List.setIfInBounds_toArray, List.set_cons_zero, List.set_cons_succ, e68], ⟨F.gr, F.rb, F.r0, fun h1 h2 => F.ap (h1.resolve_left (by decide)) (h2.resolve_left (by decide)), F.sz, fun h => F.f0 (h.resolve_left (by decide)), fun h => F.f1 (h.resolve_left (by decide)), fun h => F.f2 (h.resolve_left (by decide)), fun h => F.f3 (h.resolve_left (by decide)), fun h => F.f4 (h.resolve_left (by decide)), fun h => F.f5 (h.resolve_left (by decide)), fun h => F.f6 (h.resolve_left (by decide)), fun h => F.f7 (h.resolve_left (by decide)), fun h => F.f8 (h.resolve_left (by decide)), fun h => F.f9 (h.resolve_left (by decide)), fun h => F.f10 (h.resolve_left (by decide)), fun _ => rfl, fun h => F.f12 (h.resolve_left (by decide)), fun h => F.f13 (h.resolve_left (by decide)), fun h => F.f14 (h.resolve_left (by decide)), fun h => F.f15 (h.resolve_left (by decide)), fun h => F.f16 (h.resolve_left (by decide)), fun h => F.f17 (h.resolve_left (by decide)), fun h => F.f18 (h.resolve_left (by decide)), fun h => F.f19 (h.resolve_left (by decide)), fun h => F.f20 (h.resolve_left (by decide)), fun h => F.f21 (h.resolve_left (by decide))⟩⟩
        refine StepsFrom.cons rfl (fun L a w' hI hno hdep hcl K hK => ?_) ?_
        · obtain ⟨v10, v11, v12, v57, v58, v59, v60, v61, v62, v63, v64, v65, v66, v67, v68, v69, v70, v71, v72, v73, ha, F⟩ := hI
          have e62 := F.f4 (hdep 4 (by kernel_rfl))
          have e67 := F.f9 (hdep 9 (by kernel_rfl))
          have e69 := F.f11 (hdep 11 (by kernel_rfl))
          have q := F.gr.size
          subst ha
          simp only [Act.put, List.setIfInBounds_toArray, List.set_cons_zero, List.set_cons_succ, e62, e67, e69]
          go_simp
          refine (CM.out w' (T.out w' (GB.out w' F.gr)) (by omega)).mono ?_
          rintro e w4 ⟨rfl, hb4⟩
          exact hK.out _ _ ⟨v10, v11, v12, v57, v58, v59, v60, v61, v62, v63, v64, v65, v66, v67, v68, v69, _, v71, v72, v73, by simp only [Act.put, List.setIfInBounds_toArray, List.set_cons_zero, List.set_cons_succ, e62, e67, e69], ⟨grown_below F.gr hb4, F.rb.below hb4 F.rb.lt, F.r0.below hb4 F.r0.lt, fun h1 h2 => F.ap (h1.resolve_left (by decide)) (h2.resolve_left (by decide)), F.sz, fun h => F.f0 (h.resolve_left (by decide)), fun h => F.f1 (h.resolve_left (by decide)), fun h => F.f2 (h.resolve_left (by decide)), fun h => F.f3 (h.resolve_left (by decide)), fun h => F.f4 (h.resolve_left (by decide)), fun h => F.f5 (h.resolve_left (by decide)), fun h => F.f6 (h.resolve_left (by decide)), fun h => F.f7 (h.resolve_left (by decide)), fun h => F.f8 (h.resolve_left (by decide)), fun h => F.f9 (h.resolve_left (by decide)), fun h => F.f10 (h.resolve_left (by decide)), fun h => F.f11 (h.resolve_left (by decide)), fun _ => rfl, fun h => F.f13 (h.resolve_left (by decide)), fun h => F.f14 (h.resolve_left (by decide)), fun h => F.f15 (h.resolve_left (by decide)), fun h => F.f16 (h.resolve_left (by decide)), fun h => by obtain ⟨z, x, y, e, h1, h2⟩ := F.f17 (h.resolve_left (by decide)); exact ⟨z, x, y, e, h1, h2.below hb4 h2.lt⟩, fun h => by obtain ⟨z, x, y, e, h1, h2⟩ := F.f18 (h.resolve_left (by decide)); exact ⟨z, x, y, e, h1, h2.below hb4 h2.lt⟩, fun h => by obtain ⟨z, e, h1, h2⟩ := F.f19 (h.resolve_left (by decide)); exact ⟨z, e, h1, h2.below hb4 h2.lt⟩, fun h => by obtain ⟨z, e, h1, h2⟩ := F.f20 (h.resolve_left (by decide)); exact ⟨z, e, h1, h2.below hb4 h2.lt⟩, fun h => F.f21 (h.resolve_left (by decide))⟩⟩
        refine StepsFrom.cons rfl (fun L a w' hI hno hdep hcl K hK => ?_) ?_
        · obtain ⟨v10, v11, v12, v57, v58, v59, v60, v61, v62, v63, v64, v65, v66, v67, v68, v69, v70, v71, v72, v73, ha, F⟩ := hI
          have e70 := F.f12 (hdep 12 (by kernel_rfl))
          subst ha
          simp only [Act.put, List.setIfInBounds_toArray, List.set_cons_zero, List.set_cons_succ, e70]
          go_simp
          exact hK.out _ _ ⟨v10, v11, v12, _, v58, v59, v60, v61, v62, v63, v64, v65, v66, v67, v68, v69, v70, v71, v72, v73, by simp only [Act.put, List.setIfInBounds_toArray, List.set_cons_zero, List.set_cons_succ, e70], ⟨F.gr, F.rb, F.r0, fun h1 h2 => F.ap (h1.resolve_left (by decide)) (h2.resolve_left (by decide)), F.sz, fun h => F.f0 (h.resolve_left (by decide)), fun h => F.f1 (h.resolve_left (by decide)), fun h => F.f2 (h.resolve_left (by decide)), fun h => F.f3 (h.resolve_left (by decide)), fun h => F.f4 (h.resolve_left (by decide)), fun h => F.f5 (h.resolve_left (by decide)), fun h => F.f6 (h.resolve_left (by decide)), fun h => F.f7 (h.resolve_left (by decide)), fun h => F.f8 (h.resolve_left (by decide)), fun h => F.f9 (h.resolve_left (by decide)), fun h => F.f10 (h.resolve_left (by decide)), fun h => F.f11 (h.resolve_left (by decide)), fun h => F.f12 (h.resolve_left (by decide)), fun _ => rfl, fun h => F.f14 (h.resolve_left (by decide)), fun h => F.f15 (h.resolve_left (by decide)), fun h => F.f16 (h.resolve_left (by decide)), fun h => F.f17 (h.resolve_left (by decide)), fun h => F.f18 (h.resolve_left (by decide)), fun h => F.f19 (h.resolve_left (by decide)), fun h => F.f20 (h.resolve_left (by decide)), fun h => F.f21 (h.resolve_left (by decide))⟩⟩
        refine StepsFrom.cons rfl (fun L a w' hI hno hdep hcl K hK => ?_) ?_
        · obtain ⟨v10, v11, v12, v57, v58, v59, v60, v61, v62, v63, v64, v65, v66, v67, v68, v69, v70, v71, v72, v73, ha, F⟩ := hI
          have e57 := F.f13 (hdep 13 (by kernel_rfl))
          subst ha
          simp only [Act.put, List.setIfInBounds_toArray, List.set_cons_zero, List.set_cons_succ, e57]
          go_simp
          exact hK.out _ _ ⟨v10, v11, v12, v57, v58, v59, v60, v61, v62, v63, v64, v65, v66, v67, v68, v69, v70, _, v72, v73, by simp only [Act.put, List.setIfInBounds_toArray, List.set_cons_zero, List.set_cons_succ, e57], ⟨F.gr, F.rb, F.r0, fun h1 h2 => F.ap (h1.resolve_left (by decide)) (h2.resolve_left (by decide)), F.sz, fun h => F.f0 (h.resolve_left (by decide)), fun h => F.f1 (h.resolve_left (by decide)), fun h => F.f2 (h.resolve_left (by decide)), fun h => F.f3 (h.resolve_left (by decide)), fun h => F.f4 (h.resolve_left (by decide)), fun h => F.f5 (h.resolve_left (by decide)), fun h => F.f6 (h.resolve_left (by decide)), fun h => F.f7 (h.resolve_left (by decide)), fun h => F.f8 (h.resolve_left (by decide)), fun h => F.f9 (h.resolve_left (by decide)), fun h => F.f10 (h.resolve_left (by decide)), fun h => F.f11 (h.resolve_left (by decide)), fun h => F.f12 (h.resolve_left (by decide)), fun h => F.f13 (h.resolve_left (by decide)), fun _ => rfl, fun h => F.f15 (h.resolve_left (by decide)), fun h => F.f16 (h.resolve_left (by decide)), fun h => F.f17 (h.resolve_left (by decide)), fun h => F.f18 (h.resolve_left (by decide)), fun h => F.f19 (h.resolve_left (by decide)), fun h => F.f20 (h.resolve_left (by decide)), fun h => F.f21 (h.resolve_left (by decide))⟩⟩
        refine StepsFrom.cons rfl (fun L a w' hI hno hdep hcl K hK => ?_) ?_
        · obtain ⟨v10, v11, v12, v57, v58, v59, v60, v61, v62, v63, v64, v65, v66, v67, v68, v69, v70, v71, v72, v73, ha, F⟩ := hI
          have e57 := F.f13 (hdep 13 (by kernel_rfl))
          subst ha
          simp only [Act.put, List.setIfInBounds_toArray, List.set_cons_zero, List.set_cons_succ, e57]
          go_simp
          exact hK.out _ _ ⟨v10, v11, v12, v57, v58, v59, v60, v61, v62, v63, v64, v65, v66, v67, v68, v69, v70, v71, _, v73, by simp only [Act.put, List.setIfInBounds_toArray, List.set_cons_zero, List.set_cons_succ, e57], ⟨F.gr, F.rb, F.r0, fun h1 h2 => F.ap (h1.resolve_left (by decide)) (h2.resolve_left (by decide)), F.sz, fun h => F.f0 (h.resolve_left (by decide)), fun h => F.f1 (h.resolve_left (by decide)), fun h => F.f2 (h.resolve_left (by decide)), fun h => F.f3 (h.resolve_left (by decide)), fun h => F.f4 (h.resolve_left (by decide)), fun h => F.f5 (h.resolve_left (by decide)), fun h => F.f6 (h.resolve_left (by decide)), fun h => F.f7 (h.resolve_left (by decide)), fun h => F.f8 (h.resolve_left (by decide)), fun h => F.f9 (h.resolve_left (by decide)), fun h => F.f10 (h.resolve_left (by decide)), fun h => F.f11 (h.resolve_left (by decide)), fun h => F.f12 (h.resolve_left (by decide)), fun h => F.f13 (h.resolve_left (by decide)), fun h => F.f14 (h.resolve_left (by decide)), fun _ => rfl, fun h => F.f16 (h.resolve_left (by decide)), fun h => F.f17 (h.resolve_left (by decide)), fun h => F.f18 (h.resolve_left (by decide)), fun h => F.f19 (h.resolve_left (by decide)), fun h => F.f20 (h.resolve_left (by decide)), fun h => F.f21 (h.resolve_left (by decide))⟩⟩
        refine StepsFrom.cons rfl (fun L a w' hI hno hdep hcl K hK => ?_) ?_
        · obtain ⟨v10, v11, v12, v57, v58, v59, v60, v61, v62, v63, v64, v65, v66, v67, v68, v69, v70, v71, v72, v73, ha, F⟩ := hI
          have e57 := F.f13 (hdep 13 (by kernel_rfl))
          subst ha
          simp only [Act.put, List.setIfInBounds_toArray, List.set_cons_zero, List.set_cons_succ, e57]
          go_simp
          exact hK.out _ _ ⟨v10, v11, v12, v57, v58, v59, v60, v61, v62, v63, v64, v65, v66, v67, v68, v69, v70, v71, v72, _, by simp only [Act.put, List.setIfInBounds_toArray, List.set_cons_zero, List.set_cons_succ, e57], ⟨F.gr, F.rb, F.r0, fun h1 h2 => F.ap (h1.resolve_left (by decide)) (h2.resolve_left (by decide)), F.sz, fun h => F.f0 (h.resolve_left (by decide)), fun h => F.f1 (h.resolve_left (by decide)), fun h => F.f2 (h.resolve_left (by decide)), fun h => F.f3 (h.resolve_left (by decide)), fun h => F.f4 (h.resolve_left (by decide)), fun h => F.f5 (h.resolve_left (by decide)), fun h => F.f6 (h.resolve_left (by decide)), fun h => F.f7 (h.resolve_left (by decide)), fun h => F.f8 (h.resolve_left (by decide)), fun h => F.f9 (h.resolve_left (by decide)), fun h => F.f10 (h.resolve_left (by decide)), fun h => F.f11 (h.resolve_left (by decide)), fun h => F.f12 (h.resolve_left (by decide)), fun h => F.f13 (h.resolve_left (by decide)), fun h => F.f14 (h.resolve_left (by decide)), fun h => F.f15 (h.resolve_left (by decide)), fun _ => rfl, fun h => F.f17 (h.resolve_left (by decide)), fun h => F.f18 (h.resolve_left (by decide)), fun h => F.f19 (h.resolve_left (by decide)), fun h => F.f20 (h.resolve_left (by decide)), fun h => F.f21 (h.resolve_left (by decide))⟩⟩
        refine StepsFrom.cons rfl (fun L a w' hI hno hdep hcl K hK => ?_) ?_
        · obtain ⟨v10, v11, v12, v57, v58, v59, v60, v61, v62, v63, v64, v65, v66, v67, v68, v69, v70, v71, v72, v73, ha, F⟩ := hI
          have hrl := F.rb.lt
          subst ha
          simp only [Act.put, List.setIfInBounds_toArray, List.set_cons_zero, List.set_cons_succ]
          go_simp
          exact hK.out _ _ ⟨_, v11, v12, v57, v58, v59, v60, v61, v62, v63, v64, v65, v66, v67, v68, v69, v70, v71, v72, v73, by simp only [Act.put, List.setIfInBounds_toArray, List.set_cons_zero, List.set_cons_succ], ⟨grownBy_trans F.gr (World.grownBy_alloc _ _ _), F.rb.alloc _, F.r0.alloc _, fun _ h => by obtain ⟨z, x, y, e, h1, h2⟩ := F.f18 (h.resolve_left (by decide)); have := h2.lt; rw [e]; intro h; simp only [Value.pointer.injEq, Option.some.injEq, Addr.mk.injEq] at h; omega, F.sz, fun h => F.f0 (h.resolve_left (by decide)), fun h => F.f1 (h.resolve_left (by decide)), fun h => F.f2 (h.resolve_left (by decide)), fun h => F.f3 (h.resolve_left (by decide)), fun h => F.f4 (h.resolve_left (by decide)), fun h => F.f5 (h.resolve_left (by decide)), fun h => F.f6 (h.resolve_left (by decide)), fun h => F.f7 (h.resolve_left (by decide)), fun h => F.f8 (h.resolve_left (by decide)), fun h => F.f9 (h.resolve_left (by decide)), fun h => F.f10 (h.resolve_left (by decide)), fun h => F.f11 (h.resolve_left (by decide)), fun h => F.f12 (h.resolve_left (by decide)), fun h => F.f13 (h.resolve_left (by decide)), fun h => F.f14 (h.resolve_left (by decide)), fun h => F.f15 (h.resolve_left (by decide)), fun h => F.f16 (h.resolve_left (by decide)), fun _ => ⟨_, 0, 0, rfl, hrl, RowB.new _ _ _⟩, fun h => by obtain ⟨z, x, y, e, h1, h2⟩ := F.f18 (h.resolve_left (by decide)); exact ⟨z, x, y, e, h1, h2.alloc _⟩, fun h => absurd (hcl 19 17 (by kernel_rfl) (h.resolve_left (by decide))) hno, fun h => by obtain ⟨z, e, h1, h2⟩ := F.f20 (h.resolve_left (by decide)); exact ⟨z, e, h1, h2.alloc _⟩, fun h => F.f21 (h.resolve_left (by decide))⟩⟩
        refine StepsFrom.cons rfl (fun L a w' hI hno hdep hcl K hK => ?_) ?_
        · obtain ⟨v10, v11, v12, v57, v58, v59, v60, v61, v62, v63, v64, v65, v66, v67, v68, v69, v70, v71, v72, v73, ha, F⟩ := hI
          have hrl := F.rb.lt
          subst ha
          simp only [Act.put, List.setIfInBounds_toArray, List.set_cons_zero, List.set_cons_succ]
          go_simp
          exact hK.out _ _ ⟨v10, _, v12, v57, v58, v59, v60, v61, v62, v63, v64, v65, v66, v67, v68, v69, v70, v71, v72, v73, by simp only [Act.put, List.setIfInBounds_toArray, List.set_cons_zero, List.set_cons_succ], ⟨grownBy_trans F.gr (World.grownBy_alloc _ _ _), F.rb.alloc _, F.r0.alloc _, fun h _ => by obtain ⟨z, x, y, e, h1, h2⟩ := F.f17 (h.resolve_left (by decide)); have := h2.lt; rw [e]; intro h; simp only [Value.pointer.injEq, Option.some.injEq, Addr.mk.injEq] at h; omega, F.sz, fun h => F.f0 (h.resolve_left (by decide)), fun h => F.f1 (h.resolve_left (by decide)), fun h => F.f2 (h.resolve_left (by decide)), fun h => F.f3 (h.resolve_left (by decide)), fun h => F.f4 (h.resolve_left (by decide)), fun h => F.f5 (h.resolve_left (by decide)), fun h => F.f6 (h.resolve_left (by decide)), fun h => F.f7 (h.resolve_left (by decide)), fun h => F.f8 (h.resolve_left (by decide)), fun h => F.f9 (h.resolve_left (by decide)), fun h => F.f10 (h.resolve_left (by decide)), fun h => F.f11 (h.resolve_left (by decide)), fun h => F.f12 (h.resolve_left (by decide)), fun h => F.f13 (h.resolve_left (by decide)), fun h => F.f14 (h.resolve_left (by decide)), fun h => F.f15 (h.resolve_left (by decide)), fun h => F.f16 (h.resolve_left (by decide)), fun h => by obtain ⟨z, x, y, e, h1, h2⟩ := F.f17 (h.resolve_left (by decide)); exact ⟨z, x, y, e, h1, h2.alloc _⟩, fun _ => ⟨_, 0, 0, rfl, hrl, RowB.new _ _ _⟩, fun h => by obtain ⟨z, e, h1, h2⟩ := F.f19 (h.resolve_left (by decide)); exact ⟨z, e, h1, h2.alloc _⟩, fun h => absurd (hcl 20 18 (by kernel_rfl) (h.resolve_left (by decide))) hno, fun h => F.f21 (h.resolve_left (by decide))⟩⟩
        refine StepsFrom.cons rfl (fun L a w' hI hno hdep hcl K hK => ?_) ?_
        · obtain ⟨v10, v11, v12, v57, v58, v59, v60, v61, v62, v63, v64, v65, v66, v67, v68, v69, v70, v71, v72, v73, ha, F⟩ := hI
          have e71 := F.f14 (hdep 14 (by kernel_rfl))
          obtain ⟨p, x, y, ep, hp1, hp2⟩ := F.f17 (hdep 17 (by kernel_rfl))
          have NE : ∀ z, v11 = .pointer (some ⟨z, 0, none⟩) → L 18 → z ≠ p := fun z hz hl hp => F.ap (hdep 17 (by kernel_rfl)) hl (by rw [ep, hz, hp])
          have hrl := F.r0.lt
          have hszz := F.sz
          have cc := hp2.c2
          have d0 := cc.1
          have d1 := cc.2
          clear cc
          have hf := hp2.frozen
          have hpg : g ≠ p := by omega
          have hpb : wr.heap.size ≠ p := by omega
          subst ha
          simp only [Act.put, List.setIfInBounds_toArray, List.set_cons_zero, List.set_cons_succ, ep, e71]
          go_simp
          exact hK.out _ _ ⟨v10, v11, v12, v57, v58, v59, v60, v61, v62, v63, v64, v65, v66, v67, v68, v69, v70, v71, v72, v73, by simp only [Act.put, List.setIfInBounds_toArray, List.set_cons_zero, List.set_cons_succ, ep, e71], ⟨grown_new (grown_new F.gr (by omega) _) (by omega) _, (F.rb.other hpb _).other hpb _, (F.r0.other hpg _).other hpg _, fun h1 h2 => F.ap (h1.resolve_left (by decide)) (h2.resolve_left (by decide)), F.sz, fun h => F.f0 (h.resolve_left (by decide)), fun h => F.f1 (h.resolve_left (by decide)), fun h => F.f2 (h.resolve_left (by decide)), fun h => F.f3 (h.resolve_left (by decide)), fun h => F.f4 (h.resolve_left (by decide)), fun h => F.f5 (h.resolve_left (by decide)), fun h => F.f6 (h.resolve_left (by decide)), fun h => F.f7 (h.resolve_left (by decide)), fun h => F.f8 (h.resolve_left (by decide)), fun h => F.f9 (h.resolve_left (by decide)), fun h => F.f10 (h.resolve_left (by decide)), fun h => F.f11 (h.resolve_left (by decide)), fun h => F.f12 (h.resolve_left (by decide)), fun h => F.f13 (h.resolve_left (by decide)), fun h => F.f14 (h.resolve_left (by decide)), fun h => F.f15 (h.resolve_left (by decide)), fun h => F.f16 (h.resolve_left (by decide)), fun _ => ⟨p, _, _, ep, hp1, (hp2.set 0 _).set 1 _⟩, fun h => by obtain ⟨z, x, y, e, h1, h2⟩ := F.f18 (h.resolve_left (by decide)); exact ⟨z, x, y, e, h1, (h2.other (NE _ e (h.resolve_left (by decide))) _).other (NE _ e (h.resolve_left (by decide))) _⟩, fun _ => ⟨p, ep, hp1, (hp2.set 0 _).set 1 _⟩, fun h => by obtain ⟨z, e, h1, h2⟩ := F.f20 (h.resolve_left (by decide)); exact ⟨z, e, h1, (h2.other (NE _ e (hcl 20 18 (by kernel_rfl) (h.resolve_left (by decide)))) _).other (NE _ e (hcl 20 18 (by kernel_rfl) (h.resolve_left (by decide)))) _⟩, fun h => F.f21 (h.resolve_left (by decide))⟩⟩
        refine StepsFrom.cons rfl (fun L a w' hI hno hdep hcl K hK => ?_) ?_
        · obtain ⟨v10, v11, v12, v57, v58, v59, v60, v61, v62, v63, v64, v65, v66, v67, v68, v69, v70, v71, v72, v73, ha, F⟩ := hI
          have e72 := F.f15 (hdep 15 (by kernel_rfl))
          obtain ⟨p, x, y, ep, hp1, hp2⟩ := F.f18 (hdep 18 (by kernel_rfl))
          have NE : ∀ z, v10 = .pointer (some ⟨z, 0, none⟩) → L 17 → z ≠ p := fun z hz hl hp => F.ap hl (hdep 18 (by kernel_rfl)) (by rw [ep, hz, hp])
          have hrl := F.r0.lt
          have hszz := F.sz
          have cc := hp2.c2
          have d0 := cc.1
          have d1 := cc.2
          clear cc
          have hf := hp2.frozen
          have hpg : g ≠ p := by omega
          have hpb : wr.heap.size ≠ p := by omega
          subst ha
          simp only [Act.put, List.setIfInBounds_toArray, List.set_cons_zero, List.set_cons_succ, ep, e72]
          go_simp
          exact hK.out _ _ ⟨v10, v11, v12, v57, v58, v59, v60, v61, v62, v63, v64, v65, v66, v67, v68, v69, v70, v71, v72, v73, by simp only [Act.put, List.setIfInBounds_toArray, List.set_cons_zero, List.set_cons_succ, ep, e72], ⟨grown_new (grown_new F.gr (by omega) _) (by omega) _, (F.rb.other hpb _).other hpb _, (F.r0.other hpg _).other hpg _, fun h1 h2 => F.ap (h1.resolve_left (by decide)) (h2.resolve_left (by decide)), F.sz, fun h => F.f0 (h.resolve_left (by decide)), fun h => F.f1 (h.resolve_left (by decide)), fun h => F.f2 (h.resolve_left (by decide)), fun h => F.f3 (h.resolve_left (by decide)), fun h => F.f4 (h.resolve_left (by decide)), fun h => F.f5 (h.resolve_left (by decide)), fun h => F.f6 (h.resolve_left (by decide)), fun h => F.f7 (h.resolve_left (by decide)), fun h => F.f8 (h.resolve_left (by decide)), fun h => F.f9 (h.resolve_left (by decide)), fun h => F.f10 (h.resolve_left (by decide)), fun h => F.f11 (h.resolve_left (by decide)), fun h => F.f12 (h.resolve_left (by decide)), fun h => F.f13 (h.resolve_left (by decide)), fun h => F.f14 (h.resolve_left (by decide)), fun h => F.f15 (h.resolve_left (by decide)), fun h => F.f16 (h.resolve_left (by decide)), fun h => by obtain ⟨z, x, y, e, h1, h2⟩ := F.f17 (h.resolve_left (by decide)); exact ⟨z, x, y, e, h1, (h2.other (NE _ e (h.resolve_left (by decide))) _).other (NE _ e (h.resolve_left (by decide))) _⟩, fun _ => ⟨p, _, _, ep, hp1, (hp2.set 0 _).set 1 _⟩, fun h => by obtain ⟨z, e, h1, h2⟩ := F.f19 (h.resolve_left (by decide)); exact ⟨z, e, h1, (h2.other (NE _ e (hcl 19 17 (by kernel_rfl) (h.resolve_left (by decide)))) _).other (NE _ e (hcl 19 17 (by kernel_rfl) (h.resolve_left (by decide)))) _⟩, fun _ => ⟨p, ep, hp1, (hp2.set 0 _).set 1 _⟩, fun h => F.f21 (h.resolve_left (by decide))⟩⟩
        refine StepsFrom.cons rfl (fun L a w' hI hno hdep hcl K hK => ?_) ?_
        · obtain ⟨v10, v11, v12, v57, v58, v59, v60, v61, v62, v63, v64, v65, v66, v67, v68, v69, v70, v71, v72, v73, ha, F⟩ := hI
          have e73 := F.f16 (hdep 16 (by kernel_rfl))
          subst ha
          simp only [Act.put, List.setIfInBounds_toArray, List.set_cons_zero, List.set_cons_succ, e73]
          go_simp
          exact hK.out _ _ ⟨v10, v11, _, v57, v58, v59, v60, v61, v62, v63, v64, v65, v66, v67, v68, v69, v70, v71, v72, v73, by simp only [Act.put, List.setIfInBounds_toArray, List.set_cons_zero, List.set_cons_succ, e73], ⟨F.gr, F.rb, F.r0, fun h1 h2 => F.ap (h1.resolve_left (by decide)) (h2.resolve_left (by decide)), F.sz, fun h => F.f0 (h.resolve_left (by decide)), fun h => F.f1 (h.resolve_left (by decide)), fun h => F.f2 (h.resolve_left (by decide)), fun h => F.f3 (h.resolve_left (by decide)), fun h => F.f4 (h.resolve_left (by decide)), fun h => F.f5 (h.resolve_left (by decide)), fun h => F.f6 (h.resolve_left (by decide)), fun h => F.f7 (h.resolve_left (by decide)), fun h => F.f8 (h.resolve_left (by decide)), fun h => F.f9 (h.resolve_left (by decide)), fun h => F.f10 (h.resolve_left (by decide)), fun h => F.f11 (h.resolve_left (by decide)), fun h => F.f12 (h.resolve_left (by decide)), fun h => F.f13 (h.resolve_left (by decide)), fun h => F.f14 (h.resolve_left (by decide)), fun h => F.f15 (h.resolve_left (by decide)), fun h => F.f16 (h.resolve_left (by decide)), fun h => F.f17 (h.resolve_left (by decide)), fun h => F.f18 (h.resolve_left (by decide)), fun h => F.f19 (h.resolve_left (by decide)), fun h => F.f20 (h.resolve_left (by decide)), fun _ => rfl⟩⟩
        exact StepsFrom.nil (by decide)
      case fin =>
          rintro L a' w9 ⟨v10, v11, v12, v57, v58, v59, v60, v61, v62, v63, v64, v65, v66, v67, v68, v69, v70, v71, v72, v73, rfl, F⟩ hL
          obtain ⟨p, e10, hp1, hp2⟩ := F.f19 (hL 19 (by decide))
          obtain ⟨q, e11, hq1, hq2⟩ := F.f20 (hL 20 (by decide))
          have e12 := F.f21 (hL 21 (by decide))
          have hpq : p ≠ q := fun h => F.ap (hL 17 (by decide)) (hL 18 (by decide)) (by rw [e10, e11, h])
          have g9 := F.gr
          have rb9 := F.rb
          have row9 := F.r0
          clear F hL
          subst e10 e11 e12
          simp only [Act.put, List.setIfInBounds_toArray, List.set_cons_zero, List.set_cons_succ]
          go_wp2_with fail
          refine region_inv (fun a0 L a w' => ∃ v74 v75 v76 v77 v78 v79 v80 v81 v82 v83 v84 v85 v86 v87 v88 v89 v90 v91 v92 v93 v94 v95 v96 v97 v98 v99 v100 v101 v102 v103 v104 v105 v106 v107 : Value, a = ((((((((((((((((((((((((((((((((((a0.put (some 74) v74).put (some 75) v75).put (some 76) v76).put (some 77) v77).put (some 78) v78).put (some 79) v79).put (some 80) v80).put (some 81) v81).put (some 82) v82).put (some 83) v83).put (some 84) v84).put (some 85) v85).put (some 86) v86).put (some 87) v87).put (some 88) v88).put (some 89) v89).put (some 90) v90).put (some 91) v91).put (some 92) v92).put (some 93) v93).put (some 94) v94).put (some 95) v95).put (some 96) v96).put (some 97) v97).put (some 98) v98).put (some 99) v99).put (some 100) v100).put (some 101) v101).put (some 102) v102).put (some 103) v103).put (some 104) v104).put (some 105) v105).put (some 106) v106).put (some 107) v107) ∧ RfB w7 p q wr.heap.size g n cap i j r a1 a2 b1' b2' u1 u2 u3 u4 ys rest L v74 v75 v76 v77 v78 v79 v80 v81 v82 v83 v84 v85 v86 v87 v88 v89 v90 v91 v92 v93 v94 v95 v96 v97 v98 v99 v100 v101 v102 v103 v104 v105 v106 v107 w') (by kernel_rfl) (by kernel_rfl) ?h0 ?hst ?fin
          case h0 =>
            exact ⟨_, _, _, _, _, _, _, _, _, _, _, _, _, _, _, _, _, _, _, _, _, _, _, _, _, _, _, _, _, _, _, _, _, _, by simp only [Act.put, List.setIfInBounds_toArray, List.set_cons_zero, List.set_cons_succ]; exact rfl, ⟨grownBy_drew g9, rb9.drew, row9.drew, hp2.drew, hq2.drew, fun h => (h : False).elim, fun h => (h : False).elim, fun h => (h : False).elim, fun h => (h : False).elim, fun h => (h : False).elim, fun h => (h : False).elim, fun h => (h : False).elim, fun h => (h : False).elim, fun h => (h : False).elim, fun h => (h : False).elim, fun h => (h : False).elim, fun h => (h : False).elim, fun h => (h : False).elim, fun h => (h : False).elim, fun h => (h : False).elim, fun h => (h : False).elim, fun h => (h : False).elim, fun h => (h : False).elim, fun h => (h : False).elim, fun h => (h : False).elim, fun h => (h : False).elim, fun h => (h : False).elim, fun h => (h : False).elim, fun h => (h : False).elim, fun h => (h : False).elim, fun h => (h : False).elim, fun h => (h : False).elim, fun h => (h : False).elim, fun h => (h : False).elim, fun h => (h : False).elim, fun h => (h : False).elim, fun h => (h : False).elim, fun h => (h : False).elim, fun h => (h : False).elim⟩⟩
          case hst =>
            refine StepsFrom.cons rfl (fun L a w' hI hno hdep hcl K hK => ?_) ?_
            · obtain ⟨v74, v75, v76, v77, v78, v79, v80, v81, v82, v83, v84, v85, v86, v87, v88, v89, v90, v91, v92, v93, v94, v95, v96, v97, v98, v99, v100, v101, v102, v103, v104, v105, v106, v107, ha, F⟩ := hI
              subst ha
              simp only [Act.put, List.setIfInBounds_toArray, List.set_cons_zero, List.set_cons_succ]
              go_simp
              exact hK.out _ _ ⟨_, v75, v76, v77, v78, v79, v80, v81, v82, v83, v84, v85, v86, v87, v88, v89, v90, v91, v92, v93, v94, v95, v96, v97, v98, v99, v100, v101, v102, v103, v104, v105, v106, v107, by simp only [Act.put, List.setIfInBounds_toArray, List.set_cons_zero, List.set_cons_succ], ⟨F.gr, F.rb, F.r0, F.ra, F.rc, fun _ => rfl, fun h => F.f1 (h.resolve_left (by decide)), fun h => F.f2 (h.resolve_left (by decide)), fun h => F.f3 (h.resolve_left (by decide)), fun h => F.f4 (h.resolve_left (by decide)), fun h => F.f5 (h.resolve_left (by decide)), fun h => F.f6 (h.resolve_left (by decide)), fun h => F.f7 (h.resolve_left (by decide)), fun h => F.f8 (h.resolve_left (by decide)), fun h => F.f9 (h.resolve_left (by decide)), fun h => F.f10 (h.resolve_left (by decide)), fun h => F.f11 (h.resolve_left (by decide)), fun h => F.f12 (h.resolve_left (by decide)), fun h => F.f13 (h.resolve_left (by decide)), fun h => F.f14 (h.resolve_left (by decide)), fun h => F.f15 (h.resolve_left (by decide)), fun h => F.f16 (h.resolve_left (by decide)), fun h => F.f17 (h.resolve_left (by decide)), fun h => F.f18 (h.resolve_left (by decide)), fun h => F.f19 (h.resolve_left (by decide)), fun h => F.f20 (h.resolve_left (by decide)), fun h => F.f21 (h.resolve_left (by decide)), fun h => F.f22 (h.resolve_left (by decide)), fun h => F.f23 (h.resolve_left (by decide)), fun h => F.f24 (h.resolve_left (by decide)), fun h => F.f25 (h.resolve_left (by decide)), fun h => F.f26 (h.resolve_left (by decide)), fun h => F.f27 (h.resolve_left (by decide)), fun h => F.f28 (h.resolve_left (by decide)), fun h => F.f29 (h.resolve_left (by decide)), fun h => F.f30 (h.resolve_left (by decide)), fun h => F.f31 (h.resolve_left (by decide)), fun h => F.f32 (h.resolve_left (by decide)), fun h => F.f33 (h.resolve_left (by decide))⟩⟩
            refine StepsFrom.cons rfl (fun L a w' hI hno hdep hcl K hK => ?_) ?_
            · obtain ⟨v74, v75, v76, v77, v78, v79, v80, v81, v82, v83, v84, v85, v86, v87, v88, v89, v90, v91, v92, v93, v94, v95, v96, v97, v98, v99, v100, v101, v102, v103, v104, v105, v106, v107, ha, F⟩ := hI
              have e74 := F.f0 (hdep 0 (by kernel_rfl))
              subst ha
              simp only [Act.put, List.setIfInBounds_toArray, List.set_cons_zero, List.set_cons_succ, e74]
              go_simp
              exact hK.out _ _ ⟨v74, _, v76, v77, v78, v79, v80, v81, v82, v83, v84, v85, v86, v87, v88, v89, v90, v91, v92, v93, v94, v95, v96, v97, v98, v99, v100, v101, v102, v103, v104, v105, v106, v107, by simp only [Act.put, List.setIfInBounds_toArray, List.set_cons_zero, List.set_cons_succ, e74], ⟨F.gr, F.rb, F.r0, F.ra, F.rc, fun h => F.f0 (h.resolve_left (by decide)), fun _ => rfl, fun h => F.f2 (h.resolve_left (by decide)), fun h => F.f3 (h.resolve_left (by decide)), fun h => F.f4 (h.resolve_left (by decide)), fun h => F.f5 (h.resolve_left (by decide)), fun h => F.f6 (h.resolve_left (by decide)), fun h => F.f7 (h.resolve_left (by decide)), fun h => F.f8 (h.resolve_left (by decide)), fun h => F.f9 (h.resolve_left (by decide)), fun h => F.f10 (h.resolve_left (by decide)), fun h => F.f11 (h.resolve_left (by decide)), fun h => F.f12 (h.resolve_left (by decide)), fun h => F.f13 (h.resolve_left (by decide)), fun h => F.f14 (h.resolve_left (by decide)), fun h => F.f15 (h.resolve_left (by decide)), fun h => F.f16 (h.resolve_left (by decide)), fun h => F.f17 (h.resolve_left (by decide)), fun h => F.f18 (h.resolve_left (by decide)), fun h => F.f19 (h.resolve_left (by decide)), fun h => F.f20 (h.resolve_left (by decide)), fun h => F.f21 (h.resolve_left (by decide)), fun h => F.f22 (h.resolve_left (by decide)), fun h => F.f23 (h.resolve_left (by decide)), fun h => F.f24 (h.resolve_left (by decide)), fun h => F.f25 (h.resolve_left (by decide)), fun h => F.f26 (h.resolve_left (by decide)), fun h => F.f27 (h.resolve_left (by decide)), fun h => F.f28 (h.resolve_left (by decide)), fun h => F.f29 (h.resolve_left (by decide)), fun h => F.f30 (h.resolve_left (by decide)), fun h => F.f31 (h.resolve_left (by decide)), fun h => F.f32 (h.resolve_left (by decide)), fun h => F.f33 (h.resolve_left (by decide))⟩⟩
            refine StepsFrom.cons rfl (fun L a w' hI hno hdep hcl K hK => ?_) ?_
            · obtain ⟨v74, v75, v76, v77, v78, v79, v80, v81, v82, v83, v84, v85, v86, v87, v88, v89, v90, v91, v92, v93, v94, v95, v96, v97, v98, v99, v100, v101, v102, v103, v104, v105, v106, v107, ha, F⟩ := hI
              have e75 := F.f1 (hdep 1 (by kernel_rfl))
              subst ha
              simp only [Act.put, List.setIfInBounds_toArray, List.set_cons_zero, List.set_cons_succ, e75]
              go_simp
              exact hK.out _ _ ⟨v74, v75, _, v77, v78, v79, v80, v81, v82, v83, v84, v85, v86, v87, v88, v89, v90, v91, v92, v93, v94, v95, v96, v97, v98, v99, v100, v101, v102, v103, v104, v105, v106, v107, by simp only [Act.put, List.setIfInBounds_toArray, List.set_cons_zero, List.set_cons_succ, e75], ⟨F.gr, F.rb, F.r0, F.ra, F.rc, fun h => F.f0 (h.resolve_left (by decide)), fun h => F.f1 (h.resolve_left (by decide)), fun _ => rfl, fun h => F.f3 (h.resolve_left (by decide)), fun h => F.f4 (h.resolve_left (by decide)), fun h => F.f5 (h.resolve_left (by decide)), fun h => F.f6 (h.resolve_left (by decide)), fun h => F.f7 (h.resolve_left (by decide)), fun h => F.f8 (h.resolve_left (by decide)), fun h => F.f9 (h.resolve_left (by decide)), fun h => F.f10 (h.resolve_left (by decide)), fun h => F.f11 (h.resolve_left (by decide)), fun h => F.f12 (h.resolve_left (by decide)), fun h => F.f13 (h.resolve_left (by decide)), fun h => F.f14 (h.resolve_left (by decide)), fun h => F.f15 (h.resolve_left (by decide)), fun h => F.f16 (h.resolve_left (by decide)), fun h => F.f17 (h.resolve_left (by decide)), fun h => F.f18 (h.resolve_left (by decide)), fun h => F.f19 (h.resolve_left (by decide)), fun h => F.f20 (h.resolve_left (by decide)), fun h => F.f21 (h.resolve_left (by decide)), fun h => F.f22 (h.resolve_left (by decide)), fun h => F.f23 (h.resolve_left (by decide)), fun h => F.f24 (h.resolve_left (by decide)), fun h => F.f25 (h.resolve_left (by decide)), fun h => F.f26 (h.resolve_left (by decide)), fun h => F.f27 (h.resolve_left (by decide)), fun h => F.f28 (h.resolve_left (by decide)), fun h => F.f29 (h.resolve_left (by decide)), fun h => F.f30 (h.resolve_left (by decide)), fun h => F.f31 (h.resolve_left (by decide)), fun h => F.f32 (h.resolve_left (by decide)), fun h => F.f33 (h.resolve_left (by decide))⟩⟩
            refine StepsFrom.cons rfl (fun L a w' hI hno hdep hcl K hK => ?_) ?_
            · obtain ⟨v74, v75, v76, v77, v78, v79, v80, v81, v82, v83, v84, v85, v86, v87, v88, v89, v90, v91, v92, v93, v94, v95, v96, v97, v98, v99, v100, v101, v102, v103, v104, v105, v106, v107, ha, F⟩ := hI
              have e76 := F.f2 (hdep 2 (by kernel_rfl))
              subst ha
              simp only [Act.put, List.setIfInBounds_toArray, List.set_cons_zero, List.set_cons_succ, e76]
              go_simp
              exact hK.out _ _ ⟨v74, v75, v76, _, v78, v79, v80, v81, v82, v83, v84, v85, v86, v87, v88, v89, v90, v91, v92, v93, v94, v95, v96, v97, v98, v99, v100, v101, v102, v103, v104, v105, v106, v107, by simp only [Act.put, List.setIfInBounds_toArray, List.set_cons_zero, List.set_cons_succ, e76], ⟨F.gr, F.rb, F.r0, F.ra, F.rc, fun h => F.f0 (h.resolve_left (by decide)), fun h => F.f1 (h.resolve_left (by decide)), fun h => F.f2 (h.resolve_left (by decide)), fun _ => rfl, fun h => F.f4 (h.resolve_left (by decide)), fun h => F.f5 (h.resolve_left (by decide)), fun h => F.f6 (h.resolve_left (by decide)), fun h => F.f7 (h.resolve_left (by decide)), fun h => F.f8 (h.resolve_left (by decide)), fun h => F.f9 (h.resolve_left (by decide)), fun h => F.f10 (h.resolve_left (by decide)), fun h => F.f11 (h.resolve_left (by decide)), fun h => F.f12 (h.resolve_left (by decide)), fun h => F.f13 (h.resolve_left (by decide)), fun h => F.f14 (h.resolve_left (by decide)), fun h => F.f15 (h.resolve_left (by decide)), fun h => F.f16 (h.resolve_left (by decide)), fun h => F.f17 (h.resolve_left (by decide)), fun h => F.f18 (h.resolve_left (by decide)), fun h => F.f19 (h.resolve_left (by decide)), fun h => F.f20 (h.resolve_left (by decide)), fun h => F.f21 (h.resolve_left (by decide)), fun h => F.f22 (h.resolve_left (by decide)), fun h => F.f23 (h.resolve_left (by decide)), fun h => F.f24 (h.resolve_left (by decide)), fun h => F.f25 (h.resolve_left (by decide)), fun h => F.f26 (h.resolve_left (by decide)), fun h => F.f27 (h.resolve_left (by decide)), fun h => F.f28 (h.resolve_left (by decide)), fun h => F.f29 (h.resolve_left (by decide)), fun h => F.f30 (h.resolve_left (by decide)), fun h => F.f31 (h.resolve_left (by decide)), fun h => F.f32 (h.resolve_left (by decide)), fun h => F.f33 (h.resolve_left (by decide))⟩⟩
            refine StepsFrom.cons rfl (fun L a w' hI hno hdep hcl K hK => ?_) ?_
            · obtain ⟨v74, v75, v76, v77, v78, v79, v80, v81, v82, v83, v84, v85, v86, v87, v88, v89, v90, v91, v92, v93, v94, v95, v96, v97, v98, v99, v100, v101, v102, v103, v104, v105, v106, v107, ha, F⟩ := hI
              have e76 := F.f2 (hdep 2 (by kernel_rfl))
              have e77 := F.f3 (hdep 3 (by kernel_rfl))
              have cc := F.ra.c2
              have d0 := cc.1
              have d1 := cc.2
              clear cc
              subst ha
              simp only [Act.put, List.setIfInBounds_toArray, List.set_cons_zero, List.set_cons_succ, e76, e77]
              go_simp
              exact hK.out _ _ ⟨v74, v75, v76, v77, _, v79, v80, v81, v82, v83, v84, v85, v86, v87, v88, v89, v90, v91, v92, v93, v94, v95, v96, v97, v98, v99, v100, v101, v102, v103, v104, v105, v106, v107, by simp only [Act.put, List.setIfInBounds_toArray, List.set_cons_zero, List.set_cons_succ, e76, e77], ⟨F.gr, F.rb, F.r0, F.ra, F.rc, fun h => F.f0 (h.resolve_left (by decide)), fun h => F.f1 (h.resolve_left (by decide)), fun h => F.f2 (h.resolve_left (by decide)), fun h => F.f3 (h.resolve_left (by decide)), fun _ => rfl, fun h => F.f5 (h.resolve_left (by decide)), fun h => F.f6 (h.resolve_left (by decide)), fun h => F.f7 (h.resolve_left (by decide)), fun h => F.f8 (h.resolve_left (by decide)), fun h => F.f9 (h.resolve_left (by decide)), fun h => F.f10 (h.resolve_left (by decide)), fun h => F.f11 (h.resolve_left (by decide)), fun h => F.f12 (h.resolve_left (by decide)), fun h => F.f13 (h.resolve_left (by decide)), fun h => F.f14 (h.resolve_left (by decide)), fun h => F.f15 (h.resolve_left (by decide)), fun h => F.f16 (h.resolve_left (by decide)), fun h => F.f17 (h.resolve_left (by decide)), fun h => F.f18 (h.resolve_left (by decide)), fun h => F.f19 (h.resolve_left (by decide)), fun h => F.f20 (h.resolve_left (by decide)), fun h => F.f21 (h.resolve_left (by decide)), fun h => F.f22 (h.resolve_left (by decide)), fun h => F.f23 (h.resolve_left (by decide)), fun h => F.f24 (h.resolve_left (by decide)), fun h => F.f25 (h.resolve_left (by decide)), fun h => F.f26 (h.resolve_left (by decide)), fun h => F.f27 (h.resolve_left (by decide)), fun h => F.f28 (h.resolve_left (by decide)), fun h => F.f29 (h.resolve_left (by decide)), fun h => F.f30 (h.resolve_left (by decide)), fun h => F.f31 (h.resolve_left (by decide)), fun h => F.f32 (h.resolve_left (by decide)), fun h => F.f33 (h.resolve_left (by decide))⟩⟩
            refine StepsFrom.cons rfl (fun L a w' hI hno hdep hcl K hK => ?_) ?_
            · obtain ⟨v74, v75, v76, v77, v78, v79, v80, v81, v82, v83, v84, v85, v86, v87, v88, v89, v90, v91, v92, v93, v94, v95, v96, v97, v98, v99, v100, v101, v102, v103, v104, v105, v106, v107, ha, F⟩ := hI
              have e76 := F.f2 (hdep 2 (by kernel_rfl))
              subst ha
              simp only [Act.put, List.setIfInBounds_toArray, List.set_cons_zero, List.set_cons_succ, e76]
              go_simp
              exact hK.out _ _ ⟨v74, v75, v76, v77, v78, _, v80, v81, v82, v83, v84, v85, v86, v87, v88, v89, v90, v91, v92, v93, v94, v95, v96, v97, v98, v99, v100, v101, v102, v103, v104, v105, v106, v107, by simp only [Act.put, List.setIfInBounds_toArray, List.set_cons_zero, List.set_cons_succ, e76], ⟨F.gr, F.rb, F.r0, F.ra, F.rc, fun h => F.f0 (h.resolve_left (by decide)), fun h => F.f1 (h.resolve_left (by decide)), fun h => F.f2 (h.resolve_left (by decide)), fun h => F.f3 (h.resolve_left (by decide)), fun h => F.f4 (h.resolve_left (by decide)), fun _ => rfl, fun h => F.f6 (h.resolve_left (by decide)), fun h => F.f7 (h.resolve_left (by decide)), fun h => F.f8 (h.resolve_left (by decide)), fun h => F.f9 (h.resolve_left (by decide)), fun h => F.f10 (h.resolve_left (by decide)), fun h => F.f11 (h.resolve_left (by decide)), fun h => F.f12 (h.resolve_left (by decide)), fun h => F.f13 (h.resolve_left (by decide)), fun h => F.f14 (h.resolve_left (by decide)), fun h => F.f15 (h.resolve_left (by decide)), fun h => F.f16 (h.resolve_left (by decide)), fun h => F.f17 (h.resolve_left (by decide)), fun h => F.f18 (h.resolve_left (by decide)), fun h => F.f19 (h.resolve_left (by decide)), fun h => F.f20 (h.resolve_left (by decide)), fun h => F.f21 (h.resolve_left (by decide)), fun h => F.f22 (h.resolve_left (by decide)), fun h => F.f23 (h.resolve_left (by decide)), fun h => F.f24 (h.resolve_left (by decide)), fun h => F.f25 (h.resolve_left (by decide)), fun h => F.f26 (h.resolve_left (by decide)), fun h => F.f27 (h.resolve_left (by decide)), fun h => F.f28 (h.resolve_left (by decide)), fun h => F.f29 (h.resolve_left (by decide)), fun h => F.f30 (h.resolve_left (by decide)), fun h => F.f31 (h.resolve_left (by decide)), fun h => F.f32 (h.resolve_left (by decide)), fun h => F.f33 (h.resolve_left (by decide))⟩⟩
            refine StepsFrom.cons rfl (fun L a w' hI hno hdep hcl K hK => ?_) ?_
            · obtain ⟨v74, v75, v76, v77, v78, v79, v80, v81, v82, v83, v84, v85, v86, v87, v88, v89, v90, v91, v92, v93, v94, v95, v96, v97, v98, v99, v100, v101, v102, v103, v104, v105, v106, v107, ha, F⟩ := hI
              have e76 := F.f2 (hdep 2 (by kernel_rfl))
              subst ha
              simp only [Act.put, List.setIfInBounds_toArray, List.set_cons_zero, List.set_cons_succ, e76]
              go_simp
              exact hK.out _ _ ⟨v74, v75, v76, v77, v78, v79, _, v81, v82, v83, v84, v85, v86, v87, v88, v89, v90, v91, v92, v93, v94, v95, v96, v97, v98, v99, v100, v101, v102, v103, v104, v105, v106, v107, by simp only [Act.put, List.setIfInBounds_toArray, List.set_cons_zero, List.set_cons_succ, e76], ⟨F.gr, F.rb, F.r0, F.ra, F.rc, fun h => F.f0 (h.resolve_left (by decide)), fun h => F.f1 (h.resolve_left (by decide)), fun h => F.f2 (h.resolve_left (by decide)), fun h => F.f3 (h.resolve_left (by decide)), fun h => F.f4 (h.resolve_left (by decide)), fun h => F.f5 (h.resolve_left (by decide)), fun _ => rfl, fun h => F.f7 (h.resolve_left (by decide)), fun h => F.f8 (h.resolve_left (by decide)), fun h => F.f9 (h.resolve_left (by decide)), fun h => F.f10 (h.resolve_left (by decide)), fun h => F.f11 (h.resolve_left (by decide)), fun h => F.f12 (h.resolve_left (by decide)), fun h => F.f13 (h.resolve_left (by decide)), fun h => F.f14 (h.resolve_left (by decide)), fun h => F.f15 (h.resolve_left (by decide)), fun h => F.f16 (h.resolve_left (by decide)), fun h => F.f17 (h.resolve_left (by decide)), fun h => F.f18 (h.resolve_left (by decide)), fun h => F.f19 (h.resolve_left (by decide)), fun h => F.f20 (h.resolve_left (by decide)), fun h => F.f21 (h.resolve_left (by decide)), fun h => F.f22 (h.resolve_left (by decide)), fun h => F.f23 (h.resolve_left (by decide)), fun h => F.f24 (h.resolve_left (by decide)), fun h => F.f25 (h.resolve_left (by decide)), fun h => F.f26 (h.resolve_left (by decide)), fun h => F.f27 (h.resolve_left (by decide)), fun h => F.f28 (h.resolve_left (by decide)), fun h => F.f29 (h.resolve_left (by decide)), fun h => F.f30 (h.resolve_left (by decide)), fun h => F.f31 (h.resolve_left (by decide)), fun h => F.f32 (h.resolve_left (by decide)), fun h => F.f33 (h.resolve_left (by decide))⟩⟩
            refine StepsFrom.cons rfl (fun L a w' hI hno hdep hcl K hK => ?_) ?_
            · obtain ⟨v74, v75, v76, v77, v78, v79, v80, v81, v82, v83, v84, v85, v86, v87, v88, v89, v90, v91, v92, v93, v94, v95, v96, v97, v98, v99, v100, v101, v102, v103, v104, v105, v106, v107, ha, F⟩ := hI
              have e76 := F.f2 (hdep 2 (by kernel_rfl))
              have e80 := F.f6 (hdep 6 (by kernel_rfl))
              have cc := F.rb.c3
              have d0 := cc.1
              have d1 := cc.2.1
              have d2 := cc.2.2
              clear cc
              subst ha
              simp only [Act.put, List.setIfInBounds_toArray, List.set_cons_zero, List.set_cons_succ, e76, e80]
              go_simp
              exact hK.out _ _ ⟨v74, v75, v76, v77, v78, v79, v80, _, v82, v83, v84, v85, v86, v87, v88, v89, v90, v91, v92, v93, v94, v95, v96, v97, v98, v99, v100, v101, v102, v103, v104, v105, v106, v107, by simp only [Act.put, List.setIfInBounds_toArray, List.set_cons_zero, List.set_cons_succ, e76, e80], ⟨F.gr, F.rb, F.r0, F.ra, F.rc, fun h => F.f0 (h.resolve_left (by decide)), fun h => F.f1 (h.resolve_left (by decide)), fun h => F.f2 (h.resolve_left (by decide)), fun h => F.f3 (h.resolve_left (by decide)), fun h => F.f4 (h.resolve_left (by decide)), fun h => F.f5 (h.resolve_left (by decide)), fun h => F.f6 (h.resolve_left (by decide)), fun _ => rfl, fun h => F.f8 (h.resolve_left (by decide)), fun h => F.f9 (h.resolve_left (by decide)), fun h => F.f10 (h.resolve_left (by decide)), fun h => F.f11 (h.resolve_left (by decide)), fun h => F.f12 (h.resolve_left (by decide)), fun h => F.f13 (h.resolve_left (by decide)), fun h => F.f14 (h.resolve_left (by decide)), fun h => F.f15 (h.resolve_left (by decide)), fun h => F.f16 (h.resolve_left (by decide)), fun h => F.f17 (h.resolve_left (by decide)), fun h => F.f18 (h.resolve_left (by decide)), fun h => F.f19 (h.resolve_left (by decide)), fun h => F.f20 (h.resolve_left (by decide)), fun h => F.f21 (h.resolve_left (by decide)), fun h => F.f22 (h.resolve_left (by decide)), fun h => F.f23 (h.resolve_left (by decide)), fun h => F.f24 (h.resolve_left (by decide)), fun h => F.f25 (h.resolve_left (by decide)), fun h => F.f26 (h.resolve_left (by decide)), fun h => F.f27 (h.resolve_left (by decide)), fun h => F.f28 (h.resolve_left (by decide)), fun h => F.f29 (h.resolve_left (by decide)), fun h => F.f30 (h.resolve_left (by decide)), fun h => F.f31 (h.resolve_left (by decide)), fun h => F.f32 (h.resolve_left (by decide)), fun h => F.f33 (h.resolve_left (by decide))⟩⟩
            refine StepsFrom.cons rfl (fun L a w' hI hno hdep hcl K hK => ?_) ?_
            · obtain ⟨v74, v75, v76, v77, v78, v79, v80, v81, v82, v83, v84, v85, v86, v87, v88, v89, v90, v91, v92, v93, v94, v95, v96, v97, v98, v99, v100, v101, v102, v103, v104, v105, v106, v107, ha, F⟩ := hI
              have e76 := F.f2 (hdep 2 (by kernel_rfl))
              have e79 := F.f5 (hdep 5 (by kernel_rfl))
              have e81 := F.f7 (hdep 7 (by kernel_rfl))
              subst ha
              simp only [Act.put, List.setIfInBounds_toArray, List.set_cons_zero, List.set_cons_succ, e76, e79, e81]
              go_simp
              exact hK.out _ _ ⟨v74, v75, v76, v77, v78, v79, v80, v81, _, v83, v84, v85, v86, v87, v88, v89, v90, v91, v92, v93, v94, v95, v96, v97, v98, v99, v100, v101, v102, v103, v104, v105, v106, v107, by simp only [Act.put, List.setIfInBounds_toArray, List.set_cons_zero, List.set_cons_succ, e76, e79, e81], ⟨F.gr, F.rb, F.r0, F.ra, F.rc, fun h => F.f0 (h.resolve_left (by decide)), fun h => F.f1 (h.resolve_left (by decide)), fun h => F.f2 (h.resolve_left (by decide)), fun h => F.f3 (h.resolve_left (by decide)), fun h => F.f4 (h.resolve_left (by decide)), fun h => F.f5 (h.resolve_left (by decide)), fun h => F.f6 (h.resolve_left (by decide)), fun h => F.f7 (h.resolve_left (by decide)), fun _ => rfl, fun h => F.f9 (h.resolve_left (by decide)), fun h => F.f10 (h.resolve_left (by decide)), fun h => F.f11 (h.resolve_left (by decide)), fun h => F.f12 (h.resolve_left (by decide)), fun h => F.f13 (h.resolve_left (by decide)), fun h => F.f14 (h.resolve_left (by decide)), fun h => F.f15 (h.resolve_left (by decide)), fun h => F.f16 (h.resolve_left (by decide)), fun h => F.f17 (h.resolve_left (by decide)), fun h => F.f18 (h.resolve_left (by decide)), fun h => F.f19 (h.resolve_left (by decide)), fun h => F.f20 (h.resolve_left (by decide)), fun h => F.f21 (h.resolve_left (by decide)), fun h => F.f22 (h.resolve_left (by decide)), fun h => F.f23 (h.resolve_left (by decide)), fun h => F.f24 (h.resolve_left (by decide)), fun h => F.f25 (h.resolve_left (by decide)), fun h => F.f26 (h.resolve_left (by decide)), fun h => F.f27 (h.resolve_left (by decide)), fun h => F.f28 (h.resolve_left (by decide)), fun h => F.f29 (h.resolve_left (by decide)), fun h => F.f30 (h.resolve_left (by decide)), fun h => F.f31 (h.resolve_left (by decide)), fun h => F.f32 (h.resolve_left (by decide)), fun h => F.f33 (h.resolve_left (by decide))⟩⟩
            refine StepsFrom.cons rfl (fun L a w' hI hno hdep hcl K hK => ?_) ?_
            · obtain ⟨v74, v75, v76, v77, v78, v79, v80, v81, v82, v83, v84, v85, v86, v87, v88, v89, v90, v91, v92, v93, v94, v95, v96, v97, v98, v99, v100, v101, v102, v103, v104, v105, v106, v107, ha, F⟩ := hI
              have e76 := F.f2 (hdep 2 (by kernel_rfl))
              have e82 := F.f8 (hdep 8 (by kernel_rfl))
              subst ha
              simp only [Act.put, List.setIfInBounds_toArray, List.set_cons_zero, List.set_cons_succ, e76, e82]
              go_simp
              exact hK.out _ _ ⟨v74, v75, v76, v77, v78, v79, v80, v81, v82, _, v84, v85, v86, v87, v88, v89, v90, v91, v92, v93, v94, v95, v96, v97, v98, v99, v100, v101, v102, v103, v104, v105, v106, v107, by simp only [Act.put, List.setIfInBounds_toArray, List.set_cons_zero, List.set_cons_succ, e76, e82], ⟨F.gr, F.rb, F.r0, F.ra, F.rc, fun h => F.f0 (h.resolve_left (by decide)), fun h => F.f1 (h.resolve_left (by decide)), fun h => F.f2 (h.resolve_left (by decide)), fun h => F.f3 (h.resolve_left (by decide)), fun h => F.f4 (h.resolve_left (by decide)), fun h => F.f5 (h.resolve_left (by decide)), fun h => F.f6 (h.resolve_left (by decide)), fun h => F.f7 (h.resolve_left (by decide)), fun h => F.f8 (h.resolve_left (by decide)), fun _ => rfl, fun h => F.f10 (h.resolve_left (by decide)), fun h => F.f11 (h.resolve_left (by decide)), fun h => F.f12 (h.resolve_left (by decide)), fun h => F.f13 (h.resolve_left (by decide)), fun h => F.f14 (h.resolve_left (by decide)), fun h => F.f15 (h.resolve_left (by decide)), fun h => F.f16 (h.resolve_left (by decide)), fun h => F.f17 (h.resolve_left (by decide)), fun h => F.f18 (h.resolve_left (by decide)), fun h => F.f19 (h.resolve_left (by decide)), fun h => F.f20 (h.resolve_left (by decide)), fun h => F.f21 (h.resolve_left (by decide)), fun h => F.f22 (h.resolve_left (by decide)), fun h => F.f23 (h.resolve_left (by decide)), fun h => F.f24 (h.resolve_left (by decide)), fun h => F.f25 (h.resolve_left (by decide)), fun h => F.f26 (h.resolve_left (by decide)), fun h => F.f27 (h.resolve_left (by decide)), fun h => F.f28 (h.resolve_left (by decide)), fun h => F.f29 (h.resolve_left (by decide)), fun h => F.f30 (h.resolve_left (by decide)), fun h => F.f31 (h.resolve_left (by decide)), fun h => F.f32 (h.resolve_left (by decide)), fun h => F.f33 (h.resolve_left (by decide))⟩⟩
            refine StepsFrom.cons rfl (fun L a w' hI hno hdep hcl K hK => ?_) ?_
            · obtain ⟨v74, v75, v76, v77, v78, v79, v80, v81, v82, v83, v84, v85, v86, v87, v88, v89, v90, v91, v92, v93, v94, v95, v96, v97, v98, v99, v100, v101, v102, v103, v104, v105, v106, v107, ha, F⟩ := hI
              have e76 := F.f2 (hdep 2 (by kernel_rfl))
              have e83 := F.f9 (hdep 9 (by kernel_rfl))
              have cc := CA.out _ F.r0
              have d0 := cc.1.1
              have d1 := cc.1.2
              have d2 := cc.2.1
              have d3 := cc.2.2
              clear cc
              subst ha
              simp only [Act.put, List.setIfInBounds_toArray, List.set_cons_zero, List.set_cons_succ, e76, e83]
              go_simp
              exact hK.out _ _ ⟨v74, v75, v76, v77, v78, v79, v80, v81, v82, v83, _, v85, v86, v87, v88, v89, v90, v91, v92, v93, v94, v95, v96, v97, v98, v99, v100, v101, v102, v103, v104, v105, v106, v107, by simp only [Act.put, List.setIfInBounds_toArray, List.set_cons_zero, List.set_cons_succ, e76, e83], ⟨F.gr, F.rb, F.r0, F.ra, F.rc, fun h => F.f0 (h.resolve_left (by decide)), fun h => F.f1 (h.resolve_left (by decide)), fun h => F.f2 (h.resolve_left (by decide)), fun h => F.f3 (h.resolve_left (by decide)), fun h => F.f4 (h.resolve_left (by decide)), fun h => F.f5 (h.resolve_left (by decide)), fun h => F.f6 (h.resolve_left (by decide)), fun h => F.f7 (h.resolve_left (by decide)), fun h => F.f8 (h.resolve_left (by decide)), fun h => F.f9 (h.resolve_left (by decide)), fun _ => rfl, fun h => F.f11 (h.resolve_left (by decide)), fun h => F.f12 (h.resolve_left (by decide)), fun h => F.f13 (h.resolve_left (by decide)), fun h => F.f14 (h.resolve_left (by decide)), fun h => F.f15 (h.resolve_left (by decide)), fun h => F.f16 (h.resolve_left (by decide)), fun h => F.f17 (h.resolve_left (by decide)), fun h => F.f18 (h.resolve_left (by decide)), fun h => F.f19 (h.resolve_left (by decide)), fun h => F.f20 (h.resolve_left (by decide)), fun h => F.f21 (h.resolve_left (by decide)), fun h => F.f22 (h.resolve_left (by decide)), fun h => F.f23 (h.resolve_left (by decide)), fun h => F.f24 (h.resolve_left (by decide)), fun h => F.f25 (h.resolve_left (by decide)), fun h => F.f26 (h.resolve_left (by decide)), fun h => F.f27 (h.resolve_left (by decide)), fun h => F.f28 (h.resolve_left (by decide)), fun h => F.f29 (h.resolve_left (by decide)), fun h => F.f30 (h.resolve_left (by decide)), fun h => F.f31 (h.resolve_left (by decide)), fun h => F.f32 (h.resolve_left (by decide)), fun h => F.f33 (h.resolve_left (by decide))⟩⟩
            refine StepsFrom.cons rfl (fun L a w' hI hno hdep hcl K hK => ?_) ?_
            · obtain ⟨v74, v75, v76, v77, v78, v79, v80, v81, v82, v83, v84, v85, v86, v87, v88, v89, v90, v91, v92, v93, v94, v95, v96, v97, v98, v99, v100, v101, v102, v103, v104, v105, v106, v107, ha, F⟩ := hI
              have e76 := F.f2 (hdep 2 (by kernel_rfl))
              have e78 := F.f4 (hdep 4 (by kernel_rfl))
              have e84 := F.f10 (hdep 10 (by kernel_rfl))
              have hd := HU1.out
              subst ha
              simp only [Act.put, List.setIfInBounds_toArray, List.set_cons_zero, List.set_cons_succ, e76, e78, e84]
              go_simp
              exact hK.out _ _ ⟨v74, v75, v76, v77, v78, v79, v80, v81, v82, v83, v84, _, v86, v87, v88, v89, v90, v91, v92, v93, v94, v95, v96, v97, v98, v99, v100, v101, v102, v103, v104, v105, v106, v107, by simp only [Act.put, List.setIfInBounds_toArray, List.set_cons_zero, List.set_cons_succ, e76, e78, e84], ⟨F.gr, F.rb, F.r0, F.ra, F.rc, fun h => F.f0 (h.resolve_left (by decide)), fun h => F.f1 (h.resolve_left (by decide)), fun h => F.f2 (h.resolve_left (by decide)), fun h => F.f3 (h.resolve_left (by decide)), fun h => F.f4 (h.resolve_left (by decide)), fun h => F.f5 (h.resolve_left (by decide)), fun h => F.f6 (h.resolve_left (by decide)), fun h => F.f7 (h.resolve_left (by decide)), fun h => F.f8 (h.resolve_left (by decide)), fun h => F.f9 (h.resolve_left (by decide)), fun h => F.f10 (h.resolve_left (by decide)), fun _ => rfl, fun h => F.f12 (h.resolve_left (by decide)), fun h => F.f13 (h.resolve_left (by decide)), fun h => F.f14 (h.resolve_left (by decide)), fun h => F.f15 (h.resolve_left (by decide)), fun h => F.f16 (h.resolve_left (by decide)), fun h => F.f17 (h.resolve_left (by decide)), fun h => F.f18 (h.resolve_left (by decide)), fun h => F.f19 (h.resolve_left (by decide)), fun h => F.f20 (h.resolve_left (by decide)), fun h => F.f21 (h.resolve_left (by decide)), fun h => F.f22 (h.resolve_left (by decide)), fun h => F.f23 (h.resolve_left (by decide)), fun h => F.f24 (h.resolve_left (by decide)), fun h => F.f25 (h.resolve_left (by decide)), fun h => F.f26 (h.resolve_left (by decide)), fun h => F.f27 (h.resolve_left (by decide)), fun h => F.f28 (h.resolve_left (by decide)), fun h => F.f29 (h.resolve_left (by decide)), fun h => F.f30 (h.resolve_left (by decide)), fun h => F.f31 (h.resolve_left (by decide)), fun h => F.f32 (h.resolve_left (by decide)), fun h => F.f33 (h.resolve_left (by decide))⟩⟩
            refine StepsFrom.cons rfl (fun L a w' hI hno hdep hcl K hK => ?_) ?_
            · obtain ⟨v74, v75, v76, v77, v78, v79, v80, v81, v82, v83, v84, v85, v86, v87, v88, v89, v90, v91, v92, v93, v94, v95, v96, v97, v98, v99, v100, v101, v102, v103, v104, v105, v106, v107, ha, F⟩ := hI
              have e76 := F.f2 (hdep 2 (by kernel_rfl))
              have e85 := F.f11 (hdep 11 (by kernel_rfl))
              subst ha
              simp only [Act.put, List.setIfInBounds_toArray, List.set_cons_zero, List.set_cons_succ, e76, e85]
              go_simp
              exact hK.out _ _ ⟨v74, v75, v76, v77, v78, v79, v80, v81, v82, v83, v84, v85, _, v87, v88, v89, v90, v91, v92, v93, v94, v95, v96, v97, v98, v99, v100, v101, v102, v103, v104, v105, v106, v107, by simp only [Act.put, List.setIfInBounds_toArray, List.set_cons_zero, List.set_cons_succ, e76, e85], ⟨F.gr, F.rb, F.r0, F.ra, F.rc, fun h => F.f0 (h.resolve_left (by decide)), fun h => F.f1 (h.resolve_left (by decide)), fun h => F.f2 (h.resolve_left (by decide)), fun h => F.f3 (h.resolve_left (by decide)), fun h => F.f4 (h.resolve_left (by decide)), fun h => F.f5 (h.resolve_left (by decide)), fun h => F.f6 (h.resolve_left (by decide)), fun h => F.f7 (h.resolve_left (by decide)), fun h => F.f8 (h.resolve_left (by decide)), fun h => F.f9 (h.resolve_left (by decide)), fun h => F.f10 (h.resolve_left (by decide)), fun h => F.f11 (h.resolve_left (by decide)), fun _ => rfl, fun h => F.f13 (h.resolve_left (by decide)), fun h => F.f14 (h.resolve_left (by decide)), fun h => F.f15 (h.resolve_left (by decide)), fun h => F.f16 (h.resolve_left (by decide)), fun h => F.f17 (h.resolve_left (by decide)), fun h => F.f18 (h.resolve_left (by decide)), fun h => F.f19 (h.resolve_left (by decide)), fun h => F.f20 (h.resolve_left (by decide)), fun h => F.f21 (h.resolve_left (by decide)), fun h => F.f22 (h.resolve_left (by decide)), fun h => F.f23 (h.resolve_left (by decide)), fun h => F.f24 (h.resolve_left (by decide)), fun h => F.f25 (h.resolve_left (by decide)), fun h => F.f26 (h.resolve_left (by decide)), fun h => F.f27 (h.resolve_left (by decide)), fun h => F.f28 (h.resolve_left (by decide)), fun h => F.f29 (h.resolve_left (by decide)), fun h => F.f30 (h.resolve_left (by decide)), fun h => F.f31 (h.resolve_left (by decide)), fun h => F.f32 (h.resolve_left (by decide)), fun h => F.f33 (h.resolve_left (by decide))⟩⟩
            refine StepsFrom.cons rfl (fun L a w' hI hno hdep hcl K hK => ?_) ?_
            · obtain ⟨v74, v75, v76, v77, v78, v79, v80, v81, v82, v83, v84, v85, v86, v87, v88, v89, v90, v91, v92, v93, v94, v95, v96, v97, v98, v99, v100, v101, v102, v103, v104, v105, v106, v107, ha, F⟩ := hI
              have e86 := F.f12 (hdep 12 (by kernel_rfl))
              subst ha
              simp only [Act.put, List.setIfInBounds_toArray, List.set_cons_zero, List.set_cons_succ, e86]
              go_simp
              exact hK.out _ _ ⟨v74, v75, v76, v77, v78, v79, v80, v81, v82, v83, v84, v85, v86, _, v88, v89, v90, v91, v92, v93, v94, v95, v96, v97, v98, v99, v100, v101, v102, v103, v104, v105, v106, v107, by simp only [Act.put, List.setIfInBounds_toArray, List.set_cons_zero, List.set_cons_succ, e86], ⟨F.gr, F.rb, F.r0, F.ra, F.rc, fun h => F.f0 (h.resolve_left (by decide)), fun h => F.f1 (h.resolve_left (by decide)), fun h => F.f2 (h.resolve_left (by decide)), fun h => F.f3 (h.resolve_left (by decide)), fun h => F.f4 (h.resolve_left (by decide)), fun h => F.f5 (h.resolve_left (by decide)), fun h => F.f6 (h.resolve_left (by decide)), fun h => F.f7 (h.resolve_left (by decide)), fun h => F.f8 (h.resolve_left (by decide)), fun h => F.f9 (h.resolve_left (by decide)), fun h => F.f10 (h.resolve_left (by decide)), fun h => F.f11 (h.resolve_left (by decide)), fun h => F.f12 (h.resolve_left (by decide)), fun _ => rfl, fun h => F.f14 (h.resolve_left (by decide)), fun h => F.f15 (h.resolve_left (by decide)), fun h => F.f16 (h.resolve_left (by decide)), fun h => F.f17 (h.resolve_left (by decide)), fun h => F.f18 (h.resolve_left (by decide)), fun h => F.f19 (h.resolve_left (by decide)), fun h => F.f20 (h.resolve_left (by decide)), fun h => F.f21 (h.resolve_left (by decide)), fun h => F.f22 (h.resolve_left (by decide)), fun h => F.f23 (h.resolve_left (by decide)), fun h => F.f24 (h.resolve_left (by decide)), fun h => F.f25 (h.resolve_left (by decide)), fun h => F.f26 (h.resolve_left (by decide)), fun h => F.f27 (h.resolve_left (by decide)), fun h => F.f28 (h.resolve_left (by decide)), fun h => F.f29 (h.resolve_left (by decide)), fun h => F.f30 (h.resolve_left (by decide)), fun h => F.f31 (h.resolve_left (by decide)), fun h => F.f32 (h.resolve_left (by decide)), fun h => F.f33 (h.resolve_left (by decide))⟩⟩
            refine StepsFrom.cons rfl (fun L a w' hI hno hdep hcl K hK => ?_) ?_
            · obtain ⟨v74, v75, v76, v77, v78, v79, v80, v81, v82, v83, v84, v85, v86, v87, v88, v89, v90, v91, v92, v93, v94, v95, v96, v97, v98, v99, v100, v101, v102, v103, v104, v105, v106, v107, ha, F⟩ := hI
              have e87 := F.f13 (hdep 13 (by kernel_rfl))
              subst ha
              simp only [Act.put, List.setIfInBounds_toArray, List.set_cons_zero, List.set_cons_succ, e87]
              go_simp
              exact hK.out _ _ ⟨v74, v75, v76, v77, v78, v79, v80, v81, v82, v83, v84, v85, v86, v87, _, v89, v90, v91, v92, v93, v94, v95, v96, v97, v98, v99, v100, v101, v102, v103, v104, v105, v106, v107, by simp only [Act.put, List.setIfInBounds_toArray, List.set_cons_zero, List.set_cons_succ, e87], ⟨F.gr, F.rb, F.r0, F.ra, F.rc, fun h => F.f0 (h.resolve_left (by decide)), fun h => F.f1 (h.resolve_left (by decide)), fun h => F.f2 (h.resolve_left (by decide)), fun h => F.f3 (h.resolve_left (by decide)), fun h => F.f4 (h.resolve_left (by decide)), fun h => F.f5 (h.resolve_left (by decide)), fun h => F.f6 (h.resolve_left (by decide)), fun h => F.f7 (h.resolve_left (by decide)), fun h => F.f8 (h.resolve_left (by decide)), fun h => F.f9 (h.resolve_left (by decide)), fun h => F.f10 (h.resolve_left (by decide)), fun h => F.f11 (h.resolve_left (by decide)), fun h => F.f12 (h.resolve_left (by decide)), fun h => F.f13 (h.resolve_left (by decide)), fun _ => rfl, fun h => F.f15 (h.resolve_left (by decide)), fun h => F.f16 (h.resolve_left (by decide)), fun h => F.f17 (h.resolve_left (by decide)), fun h => F.f18 (h.resolve_left (by decide)), fun h => F.f19 (h.resolve_left (by decide)), fun h => F.f20 (h.resolve_left (by decide)), fun h => F.f21 (h.resolve_left (by decide)), fun h => F.f22 (h.resolve_left (by decide)), fun h => F.f23 (h.resolve_left (by decide)), fun h => F.f24 (h.resolve_left (by decide)), fun h => F.f25 (h.resolve_left (by decide)), fun h => F.f26 (h.resolve_left (by decide)), fun h => F.f27 (h.resolve_left (by decide)), fun h => F.f28 (h.resolve_left (by decide)), fun h => F.f29 (h.resolve_left (by decide)), fun h => F.f30 (h.resolve_left (by decide)), fun h => F.f31 (h.resolve_left (by decide)), fun h => F.f32 (h.resolve_left (by decide)), fun h => F.f33 (h.resolve_left (by decide))⟩⟩
            refine StepsFrom.cons rfl (fun L a w' hI hno hdep hcl K hK => ?_) ?_
            · obtain ⟨v74, v75, v76, v77, v78, v79, v80, v81, v82, v83, v84, v85, v86, v87, v88, v89, v90, v91, v92, v93, v94, v95, v96, v97, v98, v99, v100, v101, v102, v103, v104, v105, v106, v107, ha, F⟩ := hI
              have e87 := F.f13 (hdep 13 (by kernel_rfl))
              have e88 := F.f14 (hdep 14 (by kernel_rfl))
              have cc := F.rc.c2
              have d0 := cc.1
              have d1 := cc.2
              clear cc
              subst ha
              simp only [Act.put, List.setIfInBounds_toArray, List.set_cons_zero, List.set_cons_succ, e87, e88]
              go_simp
              exact hK.out _ _ ⟨v74, v75, v76, v77, v78, v79, v80, v81, v82, v83, v84, v85, v86, v87, v88, _, v90, v91, v92, v93, v94, v95, v96, v97, v98, v99, v100, v101, v102, v103, v104, v105, v106, v107, by simp only [Act.put, List.setIfInBounds_toArray, List.set_cons_zero, List.set_cons_succ, e87, e88], ⟨F.gr, F.rb, F.r0, F.ra, F.rc, fun h => F.f0 (h.resolve_left (by decide)), fun h => F.f1 (h.resolve_left (by decide)), fun h => F.f2 (h.resolve_left (by decide)), fun h => F.f3 (h.resolve_left (by decide)), fun h => F.f4 (h.resolve_left (by decide)), fun h => F.f5 (h.resolve_left (by decide)), fun h => F.f6 (h.resolve_left (by decide)), fun h => F.f7 (h.resolve_left (by decide)), fun h => F.f8 (h.resolve_left (by decide)), fun h => F.f9 (h.resolve_left (by decide)), fun h => F.f10 (h.resolve_left (by decide)), fun h => F.f11 (h.resolve_left (by decide)), fun h => F.f12 (h.resolve_left (by decide)), fun h => F.f13 (h.resolve_left (by decide)), fun h => F.f14 (h.resolve_left (by decide)), fun _ => rfl, fun h => F.f16 (h.resolve_left (by decide)), fun h => F.f17 (h.resolve_left (by decide)), fun h => F.f18 (h.resolve_left (by decide)), fun h => F.f19 (h.resolve_left (by decide)), fun h => F.f20 (h.resolve_left (by decide)), fun h => F.f21 (h.resolve_left (by decide)), fun h => F.f22 (h.resolve_left (by decide)), fun h => F.f23 (h.resolve_left (by decide)), fun h => F.f24 (h.resolve_left (by decide)), fun h => F.f25 (h.resolve_left (by decide)), fun h => F.f26 (h.resolve_left (by decide)), fun h => F.f27 (h.resolve_left (by decide)), fun h => F.f28 (h.resolve_left (by decide)), fun h => F.f29 (h.resolve_left (by decide)), fun h => F.f30 (h.resolve_left (by decide)), fun h => F.f31 (h.resolve_left (by decide)), fun h => F.f32 (h.resolve_left (by decide)), fun h => F.f33 (h.resolve_left (by decide))⟩⟩
            refine StepsFrom.cons rfl (fun L a w' hI hno hdep hcl K hK => ?_) ?_
            · obtain ⟨v74, v75, v76, v77, v78, v79, v80, v81, v82, v83, v84, v85, v86, v87, v88, v89, v90, v91, v92, v93, v94, v95, v96, v97, v98, v99, v100, v101, v102, v103, v104, v105, v106, v107, ha, F⟩ := hI
              have e87 := F.f13 (hdep 13 (by kernel_rfl))
              subst ha
              simp only [Act.put, List.setIfInBounds_toArray, List.set_cons_zero, List.set_cons_succ, e87]
              go_simp
              exact hK.out _ _ ⟨v74, v75, v76, v77, v78, v79, v80, v81, v82, v83, v84, v85, v86, v87, v88, v89, _, v91, v92, v93, v94, v95, v96, v97, v98, v99, v100, v101, v102, v103, v104, v105, v106, v107, by simp only [Act.put, List.setIfInBounds_toArray, List.set_cons_zero, List.set_cons_succ, e87], ⟨F.gr, F.rb, F.r0, F.ra, F.rc, fun h => F.f0 (h.resolve_left (by decide)), fun h => F.f1 (h.resolve_left (by decide)), fun h => F.f2 (h.resolve_left (by decide)), fun h => F.f3 (h.resolve_left (by decide)), fun h => F.f4 (h.resolve_left (by decide)), fun h => F.f5 (h.resolve_left (by decide)), fun h => F.f6 (h.resolve_left (by decide)), fun h => F.f7 (h.resolve_left (by decide)), fun h => F.f8 (h.resolve_left (by decide)), fun h => F.f9 (h.resolve_left (by decide)), fun h => F.f10 (h.resolve_left (by decide)), fun h => F.f11 (h.resolve_left (by decide)), fun h => F.f12 (h.resolve_left (by decide)), fun h => F.f13 (h.resolve_left (by decide)), fun h => F.f14 (h.resolve_left (by decide)), fun h => F.f15 (h.resolve_left (by decide)), fun _ => rfl, fun h => F.f17 (h.resolve_left (by decide)), fun h => F.f18 (h.resolve_left (by decide)), fun h => F.f19 (h.resolve_left (by decide)), fun h => F.f20 (h.resolve_left (by decide)), fun h => F.f21 (h.resolve_left (by decide)), fun h => F.f22 (h.resolve_left (by decide)), fun h => F.f23 (h.resolve_left (by decide)), fun h => F.f24 (h.resolve_left (by decide)), fun h => F.f25 (h.resolve_left (by decide)), fun h => F.f26 (h.resolve_left (by decide)), fun h => F.f27 (h.resolve_left (by decide)), fun h => F.f28 (h.resolve_left (by decide)), fun h => F.f29 (h.resolve_left (by decide)), fun h => F.f30 (h.resolve_left (by decide)), fun h => F.f31 (h.resolve_left (by decide)), fun h => F.f32 (h.resolve_left (by decide)), fun h => F.f33 (h.resolve_left (by decide))⟩⟩
            refine StepsFrom.cons rfl (fun L a w' hI hno hdep hcl K hK => ?_) ?_
            · obtain ⟨v74, v75, v76, v77, v78, v79, v80, v81, v82, v83, v84, v85, v86, v87, v88, v89, v90, v91, v92, v93, v94, v95, v96, v97, v98, v99, v100, v101, v102, v103, v104, v105, v106, v107, ha, F⟩ := hI
              have e87 := F.f13 (hdep 13 (by kernel_rfl))
              subst ha
              simp only [Act.put, List.setIfInBounds_toArray, List.set_cons_zero, List.set_cons_succ, e87]
              go_simp
              exact hK.out _ _ ⟨v74, v75, v76, v77, v78, v79, v80, v81, v82, v83, v84, v85, v86, v87, v88, v89, v90, _, v92, v93, v94, v95, v96, v97, v98, v99, v100, v101, v102, v103, v104, v105, v106, v107, by simp only [Act.put, List.setIfInBounds_toArray, List.set_cons_zero, List.set_cons_succ, e87], ⟨F.gr, F.rb, F.r0, F.ra, F.rc, fun h => F.f0 (h.resolve_left (by decide)), fun h => F.f1 (h.resolve_left (by decide)), fun h => F.f2 (h.resolve_left (by decide)), fun h => F.f3 (h.resolve_left (by decide)), fun h => F.f4 (h.resolve_left (by decide)), fun h => F.f5 (h.resolve_left (by decide)), fun h => F.f6 (h.resolve_left (by decide)), fun h => F.f7 (h.resolve_left (by decide)), fun h => F.f8 (h.resolve_left (by decide)), fun h => F.f9 (h.resolve_left (by decide)), fun h => F.f10 (h.resolve_left (by decide)), fun h => F.f11 (h.resolve_left (by decide)), fun h => F.f12 (h.resolve_left (by decide)), fun h => F.f13 (h.resolve_left (by decide)), fun h => F.f14 (h.resolve_left (by decide)), fun h => F.f15 (h.resolve_left (by decide)), fun h => F.f16 (h.resolve_left (by decide)), fun _ => rfl, fun h => F.f18 (h.resolve_left (by decide)), fun h => F.f19 (h.resolve_left (by decide)), fun h => F.f20 (h.resolve_left (by decide)), fun h => F.f21 (h.resolve_left (by decide)), fun h => F.f22 (h.resolve_left (by decide)), fun h => F.f23 (h.resolve_left (by decide)), fun h => F.f24 (h.resolve_left (by decide)), fun h => F.f25 (h.resolve_left (by decide)), fun h => F.f26 (h.resolve_left (by decide)), fun h => F.f27 (h.resolve_left (by decide)), fun h => F.f28 (h.resolve_left (by decide)), fun h => F.f29 (h.resolve_left (by decide)), fun h => F.f30 (h.resolve_left (by decide)), fun h => F.f31 (h.resolve_left (by decide)), fun h => F.f32 (h.resolve_left (by decide)), fun h => F.f33 (h.resolve_left (by decide))⟩⟩
            refine StepsFrom.cons rfl (fun L a w' hI hno hdep hcl K hK => ?_) ?_
            · obtain ⟨v74, v75, v76, v77, v78, v79, v80, v81, v82, v83, v84, v85, v86, v87, v88, v89, v90, v91, v92, v93, v94, v95, v96, v97, v98, v99, v100, v101, v102, v103, v104, v105, v106, v107, ha, F⟩ := hI
              have e87 := F.f13 (hdep 13 (by kernel_rfl))
              have e91 := F.f17 (hdep 17 (by kernel_rfl))
              have cc := F.rb.c3
              have d0 := cc.1
              have d1 := cc.2.1
              have d2 := cc.2.2
              clear cc
              subst ha
              simp only [Act.put, List.setIfInBounds_toArray, List.set_cons_zero, List.set_cons_succ, e87, e91]
              go_simp
              exact hK.out _ _ ⟨v74, v75, v76, v77, v78, v79, v80, v81, v82, v83, v84, v85, v86, v87, v88, v89, v90, v91, _, v93, v94, v95, v96, v97, v98, v99, v100, v101, v102, v103, v104, v105, v106, v107, by simp only [Act.put, List.setIfInBounds_toArray, List.set_cons_zero, List.set_cons_succ, e87, e91], ⟨F.gr, F.rb, F.r0, F.ra, F.rc, fun h => F.f0 (h.resolve_left (by decide)), fun h => F.f1 (h.resolve_left (by decide)), fun h => F.f2 (h.resolve_left (by decide)), fun h => F.f3 (h.resolve_left (by decide)), fun h => F.f4 (h.resolve_left (by decide)), fun h => F.f5 (h.resolve_left (by decide)), fun h => F.f6 (h.resolve_left (by decide)), fun h => F.f7 (h.resolve_left (by decide)), fun h => F.f8 (h.resolve_left (by decide)), fun h => F.f9 (h.resolve_left (by decide)), fun h => F.f10 (h.resolve_left (by decide)), fun h => F.f11 (h.resolve_left (by decide)), fun h => F.f12 (h.resolve_left (by decide)), fun h => F.f13 (h.resolve_left (by decide)), fun h => F.f14 (h.resolve_left (by decide)), fun h => F.f15 (h.resolve_left (by decide)), fun h => F.f16 (h.resolve_left (by decide)), fun h => F.f17 (h.resolve_left (by decide)), fun _ => rfl, fun h => F.f19 (h.resolve_left (by decide)), fun h => F.f20 (h.resolve_left (by decide)), fun h => F.f21 (h.resolve_left (by decide)), fun h => F.f22 (h.resolve_left (by decide)), fun h => F.f23 (h.resolve_left (by decide)), fun h => F.f24 (h.resolve_left (by decide)), fun h => F.f25 (h.resolve_left (by decide)), fun h => F.f26 (h.resolve_left (by decide)), fun h => F.f27 (h.resolve_left (by decide)), fun h => F.f28 (h.resolve_left (by decide)), fun h => F.f29 (h.resolve_left (by decide)), fun h => F.f30 (h.resolve_left (by decide)), fun h => F.f31 (h.resolve_left (by decide)), fun h => F.f32 (h.resolve_left (by decide)), fun h => F.f33 (h.resolve_left (by decide))⟩⟩
            refine StepsFrom.cons rfl (fun L a w' hI hno hdep hcl K hK => ?_) ?_
            · obtain ⟨v74, v75, v76, v77, v78, v79, v80, v81, v82, v83, v84, v85, v86, v87, v88, v89, v90, v91, v92, v93, v94, v95, v96, v97, v98, v99, v100, v101, v102, v103, v104, v105, v106, v107, ha, F⟩ := hI
              have e87 := F.f13 (hdep 13 (by kernel_rfl))
              have e90 := F.f16 (hdep 16 (by kernel_rfl))
              have e92 := F.f18 (hdep 18 (by kernel_rfl))
              subst ha
              simp only [Act.put, List.setIfInBounds_toArray, List.set_cons_zero, List.set_cons_succ, e87, e90, e92]
              go_simp
              exact hK.out _ _ ⟨v74, v75, v76, v77, v78, v79, v80, v81, v82, v83, v84, v85, v86, v87, v88, v89, v90, v91, v92, _, v94, v95, v96, v97, v98, v99, v100, v101, v102, v103, v104, v105, v106, v107, by simp only [Act.put, List.setIfInBounds_toArray, List.set_cons_zero, List.set_cons_succ, e87, e90, e92], ⟨F.gr, F.rb, F.r0, F.ra, F.rc, fun h => F.f0 (h.resolve_left (by decide)), fun h => F.f1 (h.resolve_left (by decide)), fun h => F.f2 (h.resolve_left (by decide)), fun h => F.f3 (h.resolve_left (by decide)), fun h => F.f4 (h.resolve_left (by decide)), fun h => F.f5 (h.resolve_left (by decide)), fun h => F.f6 (h.resolve_left (by decide)), fun h => F.f7 (h.resolve_left (by decide)), fun h => F.f8 (h.resolve_left (by decide)), fun h => F.f9 (h.resolve_left (by decide)), fun h => F.f10 (h.resolve_left (by decide)), fun h => F.f11 (h.resolve_left (by decide)), fun h => F.f12 (h.resolve_left (by decide)), fun h => F.f13 (h.resolve_left (by decide)), fun h => F.f14 (h.resolve_left (by decide)), fun h => F.f15 (h.resolve_left (by decide)), fun h => F.f16 (h.resolve_left (by decide)), fun h => F.f17 (h.resolve_left (by decide)), fun h => F.f18 (h.resolve_left (by decide)), fun _ => rfl, fun h => F.f20 (h.resolve_left (by decide)), fun h => F.f21 (h.resolve_left (by decide)), fun h => F.f22 (h.resolve_left (by decide)), fun h => F.f23 (h.resolve_left (by decide)), fun h => F.f24 (h.resolve_left (by decide)), fun h => F.f25 (h.resolve_left (by decide)), fun h => F.f26 (h.resolve_left (by decide)), fun h => F.f27 (h.resolve_left (by decide)), fun h => F.f28 (h.resolve_left (by decide)), fun h => F.f29 (h.resolve_left (by decide)), fun h => F.f30 (h.resolve_left (by decide)), fun h => F.f31 (h.resolve_left (by decide)), fun h => F.f32 (h.resolve_left (by decide)), fun h => F.f33 (h.resolve_left (by decide))⟩⟩
            refine StepsFrom.cons rfl (fun L a w' hI hno hdep hcl K hK => ?_) ?_
            · obtain ⟨v74, v75, v76, v77, v78, v79, v80, v81, v82, v83, v84, v85, v86, v87, v88, v89, v90, v91, v92, v93, v94, v95, v96, v97, v98, v99, v100, v101, v102, v103, v104, v105, v106, v107, ha, F⟩ := hI
              have e87 := F.f13 (hdep 13 (by kernel_rfl))
              have e93 := F.f19 (hdep 19 (by kernel_rfl))
              subst ha
              simp only [Act.put, List.setIfInBounds_toArray, List.set_cons_zero, List.set_cons_succ, e87, e93]
              go_simp
              exact hK.out _ _ ⟨v74, v75, v76, v77, v78, v79, v80, v81, v82, v83, v84, v85, v86, v87, v88, v89, v90, v91, v92, v93, _, v95, v96, v97, v98, v99, v100, v101, v102, v103, v104, v105, v106, v107, by simp only [Act.put, List.setIfInBounds_toArray, List.set_cons_zero, List.set_cons_succ, e87, e93], ⟨F.gr, F.rb, F.r0, F.ra, F.rc, fun h => F.f0 (h.resolve_left (by decide)), fun h => F.f1 (h.resolve_left (by decide)), fun h => F.f2 (h.resolve_left (by decide)), fun h => F.f3 (h.resolve_left (by decide)), fun h => F.f4 (h.resolve_left (by decide)), fun h => F.f5 (h.resolve_left (by decide)), fun h => F.f6 (h.resolve_left (by decide)), fun h => F.f7 (h.resolve_left (by decide)), fun h => F.f8 (h.resolve_left (by decide)), fun h => F.f9 (h.resolve_left (by decide)), fun h => F.f10 (h.resolve_left (by decide)), fun h => F.f11 (h.resolve_left (by decide)), fun h => F.f12 (h.resolve_left (by decide)), fun h => F.f13 (h.resolve_left (by decide)), fun h => F.f14 (h.resolve_left (by decide)), fun h => F.f15 (h.resolve_left (by decide)), fun h => F.f16 (h.resolve_left (by decide)), fun h => F.f17 (h.resolve_left (by decide)), fun h => F.f18 (h.resolve_left (by decide)), fun h => F.f19 (h.resolve_left (by decide)), fun _ => rfl, fun h => F.f21 (h.resolve_left (by decide)), fun h => F.f22 (h.resolve_left (by decide)), fun h => F.f23 (h.resolve_left (by decide)), fun h => F.f24 (h.resolve_left (by decide)), fun h => F.f25 (h.resolve_left (by decide)), fun h => F.f26 (h.resolve_left (by decide)), fun h => F.f27 (h.resolve_left (by decide)), fun h => F.f28 (h.resolve_left (by decide)), fun h => F.f29 (h.resolve_left (by decide)), fun h => F.f30 (h.resolve_left (by decide)), fun h => F.f31 (h.resolve_left (by decide)), fun h => F.f32 (h.resolve_left (by decide)), fun h => F.f33 (h.resolve_left (by decide))⟩⟩
            refine StepsFrom.cons rfl (fun L a w' hI hno hdep hcl K hK => ?_) ?_
            · obtain ⟨v74, v75, v76, v77, v78, v79, v80, v81, v82, v83, v84, v85, v86, v87, v88, v89, v90, v91, v92, v93, v94, v95, v96, v97, v98, v99, v100, v101, v102, v103, v104, v105, v106, v107, ha, F⟩ := hI
              have e87 := F.f13 (hdep 13 (by kernel_rfl))
              have e94 := F.f20 (hdep 20 (by kernel_rfl))
              have cc := CA.out _ F.r0
              have d0 := cc.1.1
              have d1 := cc.1.2
              have d2 := cc.2.1
              have d3 := cc.2.2
              clear cc
              subst ha
              simp only [Act.put, List.setIfInBounds_toArray, List.set_cons_zero, List.set_cons_succ, e87, e94]
              go_simp
              exact hK.out _ _ ⟨v74, v75, v76, v77, v78, v79, v80, v81, v82, v83, v84, v85, v86, v87, v88, v89, v90, v91, v92, v93, v94, _, v96, v97, v98, v99, v100, v101, v102, v103, v104, v105, v106, v107, by simp only [Act.put, List.setIfInBounds_toArray, List.set_cons_zero, List.set_cons_succ, e87, e94], ⟨F.gr, F.rb, F.r0, F.ra, F.rc, fun h => F.f0 (h.resolve_left (by decide)), fun h => F.f1 (h.resolve_left (by decide)), fun h => F.f2 (h.resolve_left (by decide)), fun h => F.f3 (h.resolve_left (by decide)), fun h => F.f4 (h.resolve_left (by decide)), fun h => F.f5 (h.resolve_left (by decide)), fun h => F.f6 (h.resolve_left (by decide)), fun h => F.f7 (h.resolve_left (by decide)), fun h => F.f8 (h.resolve_left (by decide)), fun h => F.f9 (h.resolve_left (by decide)), fun h => F.f10 (h.resolve_left (by decide)), fun h => F.f11 (h.resolve_left (by decide)), fun h => F.f12 (h.resolve_left (by decide)), fun h => F.f13 (h.resolve_left (by decide)), fun h => F.f14 (h.resolve_left (by decide)), fun h => F.f15 (h.resolve_left (by decide)), fun h => F.f16 (h.resolve_left (by decide)), fun h => F.f17 (h.resolve_left (by decide)), fun h => F.f18 (h.resolve_left (by decide)), fun h => F.f19 (h.resolve_left (by decide)), fun h => F.f20 (h.resolve_left (by decide)), fun _ => rfl, fun h => F.f22 (h.resolve_left (by decide)), fun h => F.f23 (h.resolve_left (by decide)), fun h => F.f24 (h.resolve_left (by decide)), fun h => F.f25 (h.resolve_left (by decide)), fun h => F.f26 (h.resolve_left (by decide)), fun h => F.f27 (h.resolve_left (by decide)), fun h => F.f28 (h.resolve_left (by decide)), fun h => F.f29 (h.resolve_left (by decide)), fun h => F.f30 (h.resolve_left (by decide)), fun h => F.f31 (h.resolve_left (by decide)), fun h => F.f32 (h.resolve_left (by decide)), fun h => F.f33 (h.resolve_left (by decide))⟩⟩
            refine StepsFrom.cons rfl (fun L a w' hI hno hdep hcl K hK => ?_) ?_
            · obtain ⟨v74, v75, v76, v77, v78, v79, v80, v81, v82, v83, v84, v85, v86, v87, v88, v89, v90, v91, v92, v93, v94, v95, v96, v97, v98, v99, v100, v101, v102, v103, v104, v105, v106, v107, ha, F⟩ := hI
              have e87 := F.f13 (hdep 13 (by kernel_rfl))
              have e89 := F.f15 (hdep 15 (by kernel_rfl))
              have e95 := F.f21 (hdep 21 (by kernel_rfl))
              have hd := HU3.out
              subst ha
              simp only [Act.put, List.setIfInBounds_toArray, List.set_cons_zero, List.set_cons_succ, e87, e89, e95]
              go_simp
              exact hK.out _ _ ⟨v74, v75, v76, v77, v78, v79, v80, v81, v82, v83, v84, v85, v86, v87, v88, v89, v90, v91, v92, v93, v94, v95, _, v97, v98, v99, v100, v101, v102, v103, v104, v105, v106, v107, by simp only [Act.put, List.setIfInBounds_toArray, List.set_cons_zero, List.set_cons_succ, e87, e89, e95], ⟨F.gr, F.rb, F.r0, F.ra, F.rc, fun h => F.f0 (h.resolve_left (by decide)), fun h => F.f1 (h.resolve_left (by decide)), fun h => F.f2 (h.resolve_left (by decide)), fun h => F.f3 (h.resolve_left (by decide)), fun h => F.f4 (h.resolve_left (by decide)), fun h => F.f5 (h.resolve_left (by decide)), fun h => F.f6 (h.resolve_left (by decide)), fun h => F.f7 (h.resolve_left (by decide)), fun h => F.f8 (h.resolve_left (by decide)), fun h => F.f9 (h.resolve_left (by decide)), fun h => F.f10 (h.resolve_left (by decide)), fun h => F.f11 (h.resolve_left (by decide)), fun h => F.f12 (h.resolve_left (by decide)), fun h => F.f13 (h.resolve_left (by decide)), fun h => F.f14 (h.resolve_left (by decide)), fun h => F.f15 (h.resolve_left (by decide)), fun h => F.f16 (h.resolve_left (by decide)), fun h => F.f17 (h.resolve_left (by decide)), fun h => F.f18 (h.resolve_left (by decide)), fun h => F.f19 (h.resolve_left (by decide)), fun h => F.f20 (h.resolve_left (by decide)), fun h => F.f21 (h.resolve_left (by decide)), fun _ => rfl, fun h => F.f23 (h.resolve_left (by decide)), fun h => F.f24 (h.resolve_left (by decide)), fun h => F.f25 (h.resolve_left (by decide)), fun h => F.f26 (h.resolve_left (by decide)), fun h => F.f27 (h.resolve_left (by decide)), fun h => F.f28 (h.resolve_left (by decide)), fun h => F.f29 (h.resolve_left (by decide)), fun h => F.f30 (h.resolve_left (by decide)), fun h => F.f31 (h.resolve_left (by decide)), fun h => F.f32 (h.resolve_left (by decide)), fun h => F.f33 (h.resolve_left (by decide))⟩⟩
            refine StepsFrom.cons rfl (fun L a w' hI hno hdep hcl K hK => ?_) ?_
            · obtain ⟨v74, v75, v76, v77, v78, v79, v80, v81, v82, v83, v84, v85, v86, v87, v88, v89, v90, v91, v92, v93, v94, v95, v96, v97, v98, v99, v100, v101, v102, v103, v104, v105, v106, v107, ha, F⟩ := hI
              have e87 := F.f13 (hdep 13 (by kernel_rfl))
              have e96 := F.f22 (hdep 22 (by kernel_rfl))
              subst ha
              simp only [Act.put, List.setIfInBounds_toArray, List.set_cons_zero, List.set_cons_succ, e87, e96]
              go_simp
              exact hK.out _ _ ⟨v74, v75, v76, v77, v78, v79, v80, v81, v82, v83, v84, v85, v86, v87, v88, v89, v90, v91, v92, v93, v94, v95, v96, _, v98, v99, v100, v101, v102, v103, v104, v105, v106, v107, by simp only [Act.put, List.setIfInBounds_toArray, List.set_cons_zero, List.set_cons_succ, e87, e96], ⟨F.gr, F.rb, F.r0, F.ra, F.rc, fun h => F.f0 (h.resolve_left (by decide)), fun h => F.f1 (h.resolve_left (by decide)), fun h => F.f2 (h.resolve_left (by decide)), fun h => F.f3 (h.resolve_left (by decide)), fun h => F.f4 (h.resolve_left (by decide)), fun h => F.f5 (h.resolve_left (by decide)), fun h => F.f6 (h.resolve_left (by decide)), fun h => F.f7 (h.resolve_left (by decide)), fun h => F.f8 (h.resolve_left (by decide)), fun h => F.f9 (h.resolve_left (by decide)), fun h => F.f10 (h.resolve_left (by decide)), fun h => F.f11 (h.resolve_left (by decide)), fun h => F.f12 (h.resolve_left (by decide)), fun h => F.f13 (h.resolve_left (by decide)), fun h => F.f14 (h.resolve_left (by decide)), fun h => F.f15 (h.resolve_left (by decide)), fun h => F.f16 (h.resolve_left (by decide)), fun h => F.f17 (h.resolve_left (by decide)), fun h => F.f18 (h.resolve_left (by decide)), fun h => F.f19 (h.resolve_left (by decide)), fun h => F.f20 (h.resolve_left (by decide)), fun h => F.f21 (h.resolve_left (by decide)), fun h => F.f22 (h.resolve_left (by decide)), fun _ => rfl, fun h => F.f24 (h.resolve_left (by decide)), fun h => F.f25 (h.resolve_left (by decide)), fun h => F.f26 (h.resolve_left (by decide)), fun h => F.f27 (h.resolve_left (by decide)), fun h => F.f28 (h.resolve_left (by decide)), fun h => F.f29 (h.resolve_left (by decide)), fun h => F.f30 (h.resolve_left (by decide)), fun h => F.f31 (h.resolve_left (by decide)), fun h => F.f32 (h.resolve_left (by decide)), fun h => F.f33 (h.resolve_left (by decide))⟩⟩
            refine StepsFrom.cons rfl (fun L a w' hI hno hdep hcl K hK => ?_) ?_
            · obtain ⟨v74, v75, v76, v77, v78, v79, v80, v81, v82, v83, v84, v85, v86, v87, v88, v89, v90, v91, v92, v93, v94, v95, v96, v97, v98, v99, v100, v101, v102, v103, v104, v105, v106, v107, ha, F⟩ := hI
              have e97 := F.f23 (hdep 23 (by kernel_rfl))
              subst ha
              simp only [Act.put, List.setIfInBounds_toArray, List.set_cons_zero, List.set_cons_succ, e97]
              go_simp
              exact hK.out _ _ ⟨v74, v75, v76, v77, v78, v79, v80, v81, v82, v83, v84, v85, v86, v87, v88, v89, v90, v91, v92, v93, v94, v95, v96, v97, _, v99, v100, v101, v102, v103, v104, v105, v106, v107, by simp only [Act.put, List.setIfInBounds_toArray, List.set_cons_zero, List.set_cons_succ, e97], ⟨F.gr, F.rb, F.r0, F.ra, F.rc, fun h => F.f0 (h.resolve_left (by decide)), fun h => F.f1 (h.resolve_left (by decide)), fun h => F.f2 (h.resolve_left (by decide)), fun h => F.f3 (h.resolve_left (by decide)), fun h => F.f4 (h.resolve_left (by decide)), fun h => F.f5 (h.resolve_left (by decide)), fun h => F.f6 (h.resolve_left (by decide)), fun h => F.f7 (h.resolve_left (by decide)), fun h => F.f8 (h.resolve_left (by decide)), fun h => F.f9 (h.resolve_left (by decide)), fun h => F.f10 (h.resolve_left (by decide)), fun h => F.f11 (h.resolve_left (by decide)), fun h => F.f12 (h.resolve_left (by decide)), fun h => F.f13 (h.resolve_left (by decide)), fun h => F.f14 (h.resolve_left (by decide)), fun h => F.f15 (h.resolve_left (by decide)), fun h => F.f16 (h.resolve_left (by decide)), fun h => F.f17 (h.resolve_left (by decide)), fun h => F.f18 (h.resolve_left (by decide)), fun h => F.f19 (h.resolve_left (by decide)), fun h => F.f20 (h.resolve_left (by decide)), fun h => F.f21 (h.resolve_left (by decide)), fun h => F.f22 (h.resolve_left (by decide)), fun h => F.f23 (h.resolve_left (by decide)), fun _ => rfl, fun h => F.f25 (h.resolve_left (by decide)), fun h => F.f26 (h.resolve_left (by decide)), fun h => F.f27 (h.resolve_left (by decide)), fun h => F.f28 (h.resolve_left (by decide)), fun h => F.f29 (h.resolve_left (by decide)), fun h => F.f30 (h.resolve_left (by decide)), fun h => F.f31 (h.resolve_left (by decide)), fun h => F.f32 (h.resolve_left (by decide)), fun h => F.f33 (h.resolve_left (by decide))⟩⟩
            refine StepsFrom.cons rfl (fun L a w' hI hno hdep hcl K hK => ?_) ?_
            · obtain ⟨v74, v75, v76, v77, v78, v79, v80, v81, v82, v83, v84, v85, v86, v87, v88, v89, v90, v91, v92, v93, v94, v95, v96, v97, v98, v99, v100, v101, v102, v103, v104, v105, v106, v107, ha, F⟩ := hI
              have e98 := F.f24 (hdep 24 (by kernel_rfl))
              have cc := F.ra.c2
              have d0 := cc.1
              have d1 := cc.2
              clear cc
              subst ha
              simp only [Act.put, List.setIfInBounds_toArray, List.set_cons_zero, List.set_cons_succ, e98]
              go_simp
              exact hK.out _ _ ⟨v74, v75, v76, v77, v78, v79, v80, v81, v82, v83, v84, v85, v86, v87, v88, v89, v90, v91, v92, v93, v94, v95, v96, v97, v98, _, v100, v101, v102, v103, v104, v105, v106, v107, by simp only [Act.put, List.setIfInBounds_toArray, List.set_cons_zero, List.set_cons_succ, e98], ⟨F.gr, F.rb, F.r0, F.ra, F.rc, fun h => F.f0 (h.resolve_left (by decide)), fun h => F.f1 (h.resolve_left (by decide)), fun h => F.f2 (h.resolve_left (by decide)), fun h => F.f3 (h.resolve_left (by decide)), fun h => F.f4 (h.resolve_left (by decide)), fun h => F.f5 (h.resolve_left (by decide)), fun h => F.f6 (h.resolve_left (by decide)), fun h => F.f7 (h.resolve_left (by decide)), fun h => F.f8 (h.resolve_left (by decide)), fun h => F.f9 (h.resolve_left (by decide)), fun h => F.f10 (h.resolve_left (by decide)), fun h => F.f11 (h.resolve_left (by decide)), fun h => F.f12 (h.resolve_left (by decide)), fun h => F.f13 (h.resolve_left (by decide)), fun h => F.f14 (h.resolve_left (by decide)), fun h => F.f15 (h.resolve_left (by decide)), fun h => F.f16 (h.resolve_left (by decide)), fun h => F.f17 (h.resolve_left (by decide)), fun h => F.f18 (h.resolve_left (by decide)), fun h => F.f19 (h.resolve_left (by decide)), fun h => F.f20 (h.resolve_left (by decide)), fun h => F.f21 (h.resolve_left (by decide)), fun h => F.f22 (h.resolve_left (by decide)), fun h => F.f23 (h.resolve_left (by decide)), fun h => F.f24 (h.resolve_left (by decide)), fun _ => rfl, fun h => F.f26 (h.resolve_left (by decide)), fun h => F.f27 (h.resolve_left (by decide)), fun h => F.f28 (h.resolve_left (by decide)), fun h => F.f29 (h.resolve_left (by decide)), fun h => F.f30 (h.resolve_left (by decide)), fun h => F.f31 (h.resolve_left (by decide)), fun h => F.f32 (h.resolve_left (by decide)), fun h => F.f33 (h.resolve_left (by decide))⟩⟩
            refine StepsFrom.cons rfl (fun L a w' hI hno hdep hcl K hK => ?_) ?_
            · obtain ⟨v74, v75, v76, v77, v78, v79, v80, v81, v82, v83, v84, v85, v86, v87, v88, v89, v90, v91, v92, v93, v94, v95, v96, v97, v98, v99, v100, v101, v102, v103, v104, v105, v106, v107, ha, F⟩ := hI
              have e98 := F.f24 (hdep 24 (by kernel_rfl))
              have e99 := F.f25 (hdep 25 (by kernel_rfl))
              subst ha
              simp only [Act.put, List.setIfInBounds_toArray, List.set_cons_zero, List.set_cons_succ, e98, e99]
              go_simp
              refine (CI.out w' u1 u2 HK1.out).mono ?_
              rintro e w4 ⟨rfl, hb4⟩
              exact hK.out _ _ ⟨v74, v75, v76, v77, v78, v79, v80, v81, v82, v83, v84, v85, v86, v87, v88, v89, v90, v91, v92, v93, v94, v95, v96, v97, v98, v99, _, v101, v102, v103, v104, v105, v106, v107, by simp only [Act.put, List.setIfInBounds_toArray, List.set_cons_zero, List.set_cons_succ, e98, e99], ⟨grown_below F.gr hb4, F.rb.below hb4 F.rb.lt, F.r0.below hb4 F.r0.lt, F.ra.below hb4 F.ra.lt, F.rc.below hb4 F.rc.lt, fun h => F.f0 (h.resolve_left (by decide)), fun h => F.f1 (h.resolve_left (by decide)), fun h => F.f2 (h.resolve_left (by decide)), fun h => F.f3 (h.resolve_left (by decide)), fun h => F.f4 (h.resolve_left (by decide)), fun h => F.f5 (h.resolve_left (by decide)), fun h => F.f6 (h.resolve_left (by decide)), fun h => F.f7 (h.resolve_left (by decide)), fun h => F.f8 (h.resolve_left (by decide)), fun h => F.f9 (h.resolve_left (by decide)), fun h => F.f10 (h.resolve_left (by decide)), fun h => F.f11 (h.resolve_left (by decide)), fun h => F.f12 (h.resolve_left (by decide)), fun h => F.f13 (h.resolve_left (by decide)), fun h => F.f14 (h.resolve_left (by decide)), fun h => F.f15 (h.resolve_left (by decide)), fun h => F.f16 (h.resolve_left (by decide)), fun h => F.f17 (h.resolve_left (by decide)), fun h => F.f18 (h.resolve_left (by decide)), fun h => F.f19 (h.resolve_left (by decide)), fun h => F.f20 (h.resolve_left (by decide)), fun h => F.f21 (h.resolve_left (by decide)), fun h => F.f22 (h.resolve_left (by decide)), fun h => F.f23 (h.resolve_left (by decide)), fun h => F.f24 (h.resolve_left (by decide)), fun h => F.f25 (h.resolve_left (by decide)), fun _ => rfl, fun h => F.f27 (h.resolve_left (by decide)), fun h => F.f28 (h.resolve_left (by decide)), fun h => F.f29 (h.resolve_left (by decide)), fun h => F.f30 (h.resolve_left (by decide)), fun h => F.f31 (h.resolve_left (by decide)), fun h => F.f32 (h.resolve_left (by decide)), fun h => F.f33 (h.resolve_left (by decide))⟩⟩
            refine StepsFrom.cons rfl (fun L a w' hI hno hdep hcl K hK => ?_) ?_
            · obtain ⟨v74, v75, v76, v77, v78, v79, v80, v81, v82, v83, v84, v85, v86, v87, v88, v89, v90, v91, v92, v93, v94, v95, v96, v97, v98, v99, v100, v101, v102, v103, v104, v105, v106, v107, ha, F⟩ := hI
              have e98 := F.f24 (hdep 24 (by kernel_rfl))
              have e100 := F.f26 (hdep 26 (by kernel_rfl))
              subst ha
              simp only [Act.put, List.setIfInBounds_toArray, List.set_cons_zero, List.set_cons_succ, e98, e100]
              go_simp
              exact hK.out _ _ ⟨v74, v75, v76, v77, v78, v79, v80, v81, v82, v83, v84, v85, v86, v87, v88, v89, v90, v91, v92, v93, v94, v95, v96, v97, v98, v99, v100, _, v102, v103, v104, v105, v106, v107, by simp only [Act.put, List.setIfInBounds_toArray, List.set_cons_zero, List.set_cons_succ, e98, e100], ⟨F.gr, F.rb, F.r0, F.ra, F.rc, fun h => F.f0 (h.resolve_left (by decide)), fun h => F.f1 (h.resolve_left (by decide)), fun h => F.f2 (h.resolve_left (by decide)), fun h => F.f3 (h.resolve_left (by decide)), fun h => F.f4 (h.resolve_left (by decide)), fun h => F.f5 (h.resolve_left (by decide)), fun h => F.f6 (h.resolve_left (by decide)), fun h => F.f7 (h.resolve_left (by decide)), fun h => F.f8 (h.resolve_left (by decide)), fun h => F.f9 (h.resolve_left (by decide)), fun h => F.f10 (h.resolve_left (by decide)), fun h => F.f11 (h.resolve_left (by decide)), fun h => F.f12 (h.resolve_left (by decide)), fun h => F.f13 (h.resolve_left (by decide)), fun h => F.f14 (h.resolve_left (by decide)), fun h => F.f15 (h.resolve_left (by decide)), fun h => F.f16 (h.resolve_left (by decide)), fun h => F.f17 (h.resolve_left (by decide)), fun h => F.f18 (h.resolve_left (by decide)), fun h => F.f19 (h.resolve_left (by decide)), fun h => F.f20 (h.resolve_left (by decide)), fun h => F.f21 (h.resolve_left (by decide)), fun h => F.f22 (h.resolve_left (by decide)), fun h => F.f23 (h.resolve_left (by decide)), fun h => F.f24 (h.resolve_left (by decide)), fun h => F.f25 (h.resolve_left (by decide)), fun h => F.f26 (h.resolve_left (by decide)), fun _ => rfl, fun h => F.f28 (h.resolve_left (by decide)), fun h => F.f29 (h.resolve_left (by decide)), fun h => F.f30 (h.resolve_left (by decide)), fun h => F.f31 (h.resolve_left (by decide)), fun h => F.f32 (h.resolve_left (by decide)), fun h => F.f33 (h.resolve_left (by decide))⟩⟩
            refine StepsFrom.cons rfl (fun L a w' hI hno hdep hcl K hK => ?_) ?_
            · obtain ⟨v74, v75, v76, v77, v78, v79, v80, v81, v82, v83, v84, v85, v86, v87, v88, v89, v90, v91, v92, v93, v94, v95, v96, v97, v98, v99, v100, v101, v102, v103, v104, v105, v106, v107, ha, F⟩ := hI
              have e98 := F.f24 (hdep 24 (by kernel_rfl))
              have e101 := F.f27 (hdep 27 (by kernel_rfl))
              subst ha
              simp only [Act.put, List.setIfInBounds_toArray, List.set_cons_zero, List.set_cons_succ, e98, e101]
              go_simp
              exact hK.out _ _ ⟨v74, v75, v76, v77, v78, v79, v80, v81, v82, v83, v84, v85, v86, v87, v88, v89, v90, v91, v92, v93, v94, v95, v96, v97, v98, v99, v100, v101, _, v103, v104, v105, v106, v107, by simp only [Act.put, List.setIfInBounds_toArray, List.set_cons_zero, List.set_cons_succ, e98, e101], ⟨F.gr, F.rb, F.r0, F.ra, F.rc, fun h => F.f0 (h.resolve_left (by decide)), fun h => F.f1 (h.resolve_left (by decide)), fun h => F.f2 (h.resolve_left (by decide)), fun h => F.f3 (h.resolve_left (by decide)), fun h => F.f4 (h.resolve_left (by decide)), fun h => F.f5 (h.resolve_left (by decide)), fun h => F.f6 (h.resolve_left (by decide)), fun h => F.f7 (h.resolve_left (by decide)), fun h => F.f8 (h.resolve_left (by decide)), fun h => F.f9 (h.resolve_left (by decide)), fun h => F.f10 (h.resolve_left (by decide)), fun h => F.f11 (h.resolve_left (by decide)), fun h => F.f12 (h.resolve_left (by decide)), fun h => F.f13 (h.resolve_left (by decide)), fun h => F.f14 (h.resolve_left (by decide)), fun h => F.f15 (h.resolve_left (by decide)), fun h => F.f16 (h.resolve_left (by decide)), fun h => F.f17 (h.resolve_left (by decide)), fun h => F.f18 (h.resolve_left (by decide)), fun h => F.f19 (h.resolve_left (by decide)), fun h => F.f20 (h.resolve_left (by decide)), fun h => F.f21 (h.resolve_left (by decide)), fun h => F.f22 (h.resolve_left (by decide)), fun h => F.f23 (h.resolve_left (by decide)), fun h => F.f24 (h.resolve_left (by decide)), fun h => F.f25 (h.resolve_left (by decide)), fun h => F.f26 (h.resolve_left (by decide)), fun h => F.f27 (h.resolve_left (by decide)), fun _ => rfl, fun h => F.f29 (h.resolve_left (by decide)), fun h => F.f30 (h.resolve_left (by decide)), fun h => F.f31 (h.resolve_left (by decide)), fun h => F.f32 (h.resolve_left (by decide)), fun h => F.f33 (h.resolve_left (by decide))⟩⟩
            refine StepsFrom.cons rfl (fun L a w' hI hno hdep hcl K hK => ?_) ?_
            · obtain ⟨v74, v75, v76, v77, v78, v79, v80, v81, v82, v83, v84, v85, v86, v87, v88, v89, v90, v91, v92, v93, v94, v95, v96, v97, v98, v99, v100, v101, v102, v103, v104, v105, v106, v107, ha, F⟩ := hI
              have e102 := F.f28 (hdep 28 (by kernel_rfl))
              subst ha
              simp only [Act.put, List.setIfInBounds_toArray, List.set_cons_zero, List.set_cons_succ, e102]
              go_simp
              exact hK.out _ _ ⟨v74, v75, v76, v77, v78, v79, v80, v81, v82, v83, v84, v85, v86, v87, v88, v89, v90, v91, v92, v93, v94, v95, v96, v97, v98, v99, v100, v101, v102, _, v104, v105, v106, v107, by simp only [Act.put, List.setIfInBounds_toArray, List.set_cons_zero, List.set_cons_succ, e102], ⟨F.gr, F.rb, F.r0, F.ra, F.rc, fun h => F.f0 (h.resolve_left (by decide)), fun h => F.f1 (h.resolve_left (by decide)), fun h => F.f2 (h.resolve_left (by decide)), fun h => F.f3 (h.resolve_left (by decide)), fun h => F.f4 (h.resolve_left (by decide)), fun h => F.f5 (h.resolve_left (by decide)), fun h => F.f6 (h.resolve_left (by decide)), fun h => F.f7 (h.resolve_left (by decide)), fun h => F.f8 (h.resolve_left (by decide)), fun h => F.f9 (h.resolve_left (by decide)), fun h => F.f10 (h.resolve_left (by decide)), fun h => F.f11 (h.resolve_left (by decide)), fun h => F.f12 (h.resolve_left (by decide)), fun h => F.f13 (h.resolve_left (by decide)), fun h => F.f14 (h.resolve_left (by decide)), fun h => F.f15 (h.resolve_left (by decide)), fun h => F.f16 (h.resolve_left (by decide)), fun h => F.f17 (h.resolve_left (by decide)), fun h => F.f18 (h.resolve_left (by decide)), fun h => F.f19 (h.resolve_left (by decide)), fun h => F.f20 (h.resolve_left (by decide)), fun h => F.f21 (h.resolve_left (by decide)), fun h => F.f22 (h.resolve_left (by decide)), fun h => F.f23 (h.resolve_left (by decide)), fun h => F.f24 (h.resolve_left (by decide)), fun h => F.f25 (h.resolve_left (by decide)), fun h => F.f26 (h.resolve_left (by decide)), fun h => F.f27 (h.resolve_left (by decide)), fun h => F.f28 (h.resolve_left (by decide)), fun _ => rfl, fun h => F.f30 (h.resolve_left (by decide)), fun h => F.f31 (h.resolve_left (by decide)), fun h => F.f32 (h.resolve_left (by decide)), fun h => F.f33 (h.resolve_left (by decide))⟩⟩
            refine StepsFrom.cons rfl (fun L a w' hI hno hdep hcl K hK => ?_) ?_
            · obtain ⟨v74, v75, v76, v77, v78, v79, v80, v81, v82, v83, v84, v85, v86, v87, v88, v89, v90, v91, v92, v93, v94, v95, v96, v97, v98, v99, v100, v101, v102, v103, v104, v105, v106, v107, ha, F⟩ := hI
              have e103 := F.f29 (hdep 29 (by kernel_rfl))
              have cc := F.rc.c2
              have d0 := cc.1
              have d1 := cc.2
              clear cc
              subst ha
              simp only [Act.put, List.setIfInBounds_toArray, List.set_cons_zero, List.set_cons_succ, e103]
              go_simp
              exact hK.out _ _ ⟨v74, v75, v76, v77, v78, v79, v80, v81, v82, v83, v84, v85, v86, v87, v88, v89, v90, v91, v92, v93, v94, v95, v96, v97, v98, v99, v100, v101, v102, v103, _, v105, v106, v107, by simp only [Act.put, List.setIfInBounds_toArray, List.set_cons_zero, List.set_cons_succ, e103], ⟨F.gr, F.rb, F.r0, F.ra, F.rc, fun h => F.f0 (h.resolve_left (by decide)), fun h => F.f1 (h.resolve_left (by decide)), fun h => F.f2 (h.resolve_left (by decide)), fun h => F.f3 (h.resolve_left (by decide)), fun h => F.f4 (h.resolve_left (by decide)), fun h => F.f5 (h.resolve_left (by decide)), fun h => F.f6 (h.resolve_left (by decide)), fun h => F.f7 (h.resolve_left (by decide)), fun h => F.f8 (h.resolve_left (by decide)), fun h => F.f9 (h.resolve_left (by decide)), fun h => F.f10 (h.resolve_left (by decide)), fun h => F.f11 (h.resolve_left (by decide)), fun h => F.f12 (h.resolve_left (by decide)), fun h => F.f13 (h.resolve_left (by decide)), fun h => F.f14 (h.resolve_left (by decide)), fun h => F.f15 (h.resolve_left (by decide)), fun h => F.f16 (h.resolve_left (by decide)), fun h => F.f17 (h.resolve_left (by decide)), fun h => F.f18 (h.resolve_left (by decide)), fun h => F.f19 (h.resolve_left (by decide)), fun h => F.f20 (h.resolve_left (by decide)), fun h => F.f21 (h.resolve_left (by decide)), fun h => F.f22 (h.resolve_left (by decide)), fun h => F.f23 (h.resolve_left (by decide)), fun h => F.f24 (h.resolve_left (by decide)), fun h => F.f25 (h.resolve_left (by decide)), fun h => F.f26 (h.resolve_left (by decide)), fun h => F.f27 (h.resolve_left (by decide)), fun h => F.f28 (h.resolve_left (by decide)), fun h => F.f29 (h.resolve_left (by decide)), fun _ => rfl, fun h => F.f31 (h.resolve_left (by decide)), fun h => F.f32 (h.resolve_left (by decide)), fun h => F.f33 (h.resolve_left (by decide))⟩⟩
            refine StepsFrom.cons rfl (fun L a w' hI hno hdep hcl K hK => ?_) ?_
            · obtain ⟨v74, v75, v76, v77, v78, v79, v80, v81, v82, v83, v84, v85, v86, v87, v88, v89, v90, v91, v92, v93, v94, v95, v96, v97, v98, v99, v100, v101, v102, v103, v104, v105, v106, v107, ha, F⟩ := hI
              have e103 := F.f29 (hdep 29 (by kernel_rfl))
              have e104 := F.f30 (hdep 30 (by kernel_rfl))
              subst ha
              simp only [Act.put, List.setIfInBounds_toArray, List.set_cons_zero, List.set_cons_succ, e103, e104]
              go_simp
              refine (CI.out w' u3 u4 HK2.out).mono ?_
              rintro e w4 ⟨rfl, hb4⟩
              exact hK.out _ _ ⟨v74, v75, v76, v77, v78, v79, v80, v81, v82, v83, v84, v85, v86, v87, v88, v89, v90, v91, v92, v93, v94, v95, v96, v97, v98, v99, v100, v101, v102, v103, v104, _, v106, v107, by simp only [Act.put, List.setIfInBounds_toArray, List.set_cons_zero, List.set_cons_succ, e103, e104], ⟨grown_below F.gr hb4, F.rb.below hb4 F.rb.lt, F.r0.below hb4 F.r0.lt, F.ra.below hb4 F.ra.lt, F.rc.below hb4 F.rc.lt, fun h => F.f0 (h.resolve_left (by decide)), fun h => F.f1 (h.resolve_left (by decide)), fun h => F.f2 (h.resolve_left (by decide)), fun h => F.f3 (h.resolve_left (by decide)), fun h => F.f4 (h.resolve_left (by decide)), fun h => F.f5 (h.resolve_left (by decide)), fun h => F.f6 (h.resolve_left (by decide)), fun h => F.f7 (h.resolve_left (by decide)), fun h => F.f8 (h.resolve_left (by decide)), fun h => F.f9 (h.resolve_left (by decide)), fun h => F.f10 (h.resolve_left (by decide)), fun h => F.f11 (h.resolve_left (by decide)), fun h => F.f12 (h.resolve_left (by decide)), fun h => F.f13 (h.resolve_left (by decide)), fun h => F.f14 (h.resolve_left (by decide)), fun h => F.f15 (h.resolve_left (by decide)), fun h => F.f16 (h.resolve_left (by decide)), fun h => F.f17 (h.resolve_left (by decide)), fun h => F.f18 (h.resolve_left (by decide)), fun h => F.f19 (h.resolve_left (by decide)), fun h => F.f20 (h.resolve_left (by decide)), fun h => F.f21 (h.resolve_left (by decide)), fun h => F.f22 (h.resolve_left (by decide)), fun h => F.f23 (h.resolve_left (by decide)), fun h => F.f24 (h.resolve_left (by decide)), fun h => F.f25 (h.resolve_left (by decide)), fun h => F.f26 (h.resolve_left (by decide)), fun h => F.f27 (h.resolve_left (by decide)), fun h => F.f28 (h.resolve_left (by decide)), fun h => F.f29 (h.resolve_left (by decide)), fun h => F.f30 (h.resolve_left (by decide)), fun _ => rfl, fun h => F.f32 (h.resolve_left (by decide)), fun h => F.f33 (h.resolve_left (by decide))⟩⟩
            refine StepsFrom.cons rfl (fun L a w' hI hno hdep hcl K hK => ?_) ?_
            · obtain ⟨v74, v75, v76, v77, v78, v79, v80, v81, v82, v83, v84, v85, v86, v87, v88, v89, v90, v91, v92, v93, v94, v95, v96, v97, v98, v99, v100, v101, v102, v103, v104, v105, v106, v107, ha, F⟩ := hI
              have e103 := F.f29 (hdep 29 (by kernel_rfl))
              have e105 := F.f31 (hdep 31 (by kernel_rfl))
              subst ha
              simp only [Act.put, List.setIfInBounds_toArray, List.set_cons_zero, List.set_cons_succ, e103, e105]
              go_simp
              exact hK.out _ _ ⟨v74, v75, v76, v77, v78, v79, v80, v81, v82, v83, v84, v85, v86, v87, v88, v89, v90, v91, v92, v93, v94, v95, v96, v97, v98, v99, v100, v101, v102, v103, v104, v105, _, v107, by simp only [Act.put, List.setIfInBounds_toArray, List.set_cons_zero, List.set_cons_succ, e103, e105], ⟨F.gr, F.rb, F.r0, F.ra, F.rc, fun h => F.f0 (h.resolve_left (by decide)), fun h => F.f1 (h.resolve_left (by decide)), fun h => F.f2 (h.resolve_left (by decide)), fun h => F.f3 (h.resolve_left (by decide)), fun h => F.f4 (h.resolve_left (by decide)), fun h => F.f5 (h.resolve_left (by decide)), fun h => F.f6 (h.resolve_left (by decide)), fun h => F.f7 (h.resolve_left (by decide)), fun h => F.f8 (h.resolve_left (by decide)), fun h => F.f9 (h.resolve_left (by decide)), fun h => F.f10 (h.resolve_left (by decide)), fun h => F.f11 (h.resolve_left (by decide)), fun h => F.f12 (h.resolve_left (by decide)), fun h => F.f13 (h.resolve_left (by decide)), fun h => F.f14 (h.resolve_left (by decide)), fun h => F.f15 (h.resolve_left (by decide)), fun h => F.f16 (h.resolve_left (by decide)), fun h => F.f17 (h.resolve_left (by decide)), fun h => F.f18 (h.resolve_left (by decide)), fun h => F.f19 (h.resolve_left (by decide)), fun h => F.f20 (h.resolve_left (by decide)), fun h => F.f21 (h.resolve_left (by decide)), fun h => F.f22 (h.resolve_left (by decide)), fun h => F.f23 (h.resolve_left (by decide)), fun h => F.f24 (h.resolve_left (by decide)), fun h => F.f25 (h.resolve_left (by decide)), fun h => F.f26 (h.resolve_left (by decide)), fun h => F.f27 (h.resolve_left (by decide)), fun h => F.f28 (h.resolve_left (by decide)), fun h => F.f29 (h.resolve_left (by decide)), fun h => F.f30 (h.resolve_left (by decide)), fun h => F.f31 (h.resolve_left (by decide)), fun _ => rfl, fun h => F.f33 (h.resolve_left (by decide))⟩⟩
            refine StepsFrom.cons rfl (fun L a w' hI hno hdep hcl K hK => ?_) ?_
            · obtain ⟨v74, v75, v76, v77, v78, v79, v80, v81, v82, v83, v84, v85, v86, v87, v88, v89, v90, v91, v92, v93, v94, v95, v96, v97, v98, v99, v100, v101, v102, v103, v104, v105, v106, v107, ha, F⟩ := hI
              have e103 := F.f29 (hdep 29 (by kernel_rfl))
              have e106 := F.f32 (hdep 32 (by kernel_rfl))
              subst ha
              simp only [Act.put, List.setIfInBounds_toArray, List.set_cons_zero, List.set_cons_succ, e103, e106]
              go_simp
              exact hK.out _ _ ⟨v74, v75, v76, v77, v78, v79, v80, v81, v82, v83, v84, v85, v86, v87, v88, v89, v90, v91, v92, v93, v94, v95, v96, v97, v98, v99, v100, v101, v102, v103, v104, v105, v106, _, by simp only [Act.put, List.setIfInBounds_toArray, List.set_cons_zero, List.set_cons_succ, e103, e106], ⟨F.gr, F.rb, F.r0, F.ra, F.rc, fun h => F.f0 (h.resolve_left (by decide)), fun h => F.f1 (h.resolve_left (by decide)), fun h => F.f2 (h.resolve_left (by decide)), fun h => F.f3 (h.resolve_left (by decide)), fun h => F.f4 (h.resolve_left (by decide)), fun h => F.f5 (h.resolve_left (by decide)), fun h => F.f6 (h.resolve_left (by decide)), fun h => F.f7 (h.resolve_left (by decide)), fun h => F.f8 (h.resolve_left (by decide)), fun h => F.f9 (h.resolve_left (by decide)), fun h => F.f10 (h.resolve_left (by decide)), fun h => F.f11 (h.resolve_left (by decide)), fun h => F.f12 (h.resolve_left (by decide)), fun h => F.f13 (h.resolve_left (by decide)), fun h => F.f14 (h.resolve_left (by decide)), fun h => F.f15 (h.resolve_left (by decide)), fun h => F.f16 (h.resolve_left (by decide)), fun h => F.f17 (h.resolve_left (by decide)), fun h => F.f18 (h.resolve_left (by decide)), fun h => F.f19 (h.resolve_left (by decide)), fun h => F.f20 (h.resolve_left (by decide)), fun h => F.f21 (h.resolve_left (by decide)), fun h => F.f22 (h.resolve_left (by decide)), fun h => F.f23 (h.resolve_left (by decide)), fun h => F.f24 (h.resolve_left (by decide)), fun h => F.f25 (h.resolve_left (by decide)), fun h => F.f26 (h.resolve_left (by decide)), fun h => F.f27 (h.resolve_left (by decide)), fun h => F.f28 (h.resolve_left (by decide)), fun h => F.f29 (h.resolve_left (by decide)), fun h => F.f30 (h.resolve_left (by decide)), fun h => F.f31 (h.resolve_left (by decide)), fun h => F.f32 (h.resolve_left (by decide)), fun _ => rfl⟩⟩
            exact StepsFrom.nil (by decide)
          case fin =>
            rintro L a' w9 ⟨v74, v75, v76, v77, v78, v79, v80, v81, v82, v83, v84, v85, v86, v87, v88, v89, v90, v91, v92, v93, v94, v95, v96, v97, v98, v99, v100, v101, v102, v103, v104, v105, v106, v107, rfl, F⟩ hL
            have e107 := F.f33 (hL 33 (by decide))
            have q9 := F.gr
            have rb9 := F.rb
            have row9 := F.r0
            have hp2 := F.ra
            have hq2 := F.rc
            clear F hL
            subst e107
            simp only [Act.put, List.setIfInBounds_toArray, List.set_cons_zero, List.set_cons_succ]
            have cb := rb9.c3
            have b0 := cb.1
            have b1 := cb.2.1
            have b2 := cb.2.2
            have cp := hp2.c2
            have p0 := cp.1
            have p1 := cp.2
            have cg := CA.out _ row9
            have g0 := cg.1.1
            have g1 := cg.1.2
            have hf := row9.frozen
            have hrl := row9.lt
            have hpg : p ≠ g := by omega
            have hqg : q ≠ g := by omega
            clear cb cp cg
            go_upto_region 16 with (fail)
            refine RateAll2.wpS (fun W' => w7.grownBy W' (some g) ∧ RowB W' wr.heap.size 49 [.int .i64 (i : Int), .int .i64 (j : Int), .int .i64 r] ∧ RowB W' q 33 [.int .i64 u3, .int .i64 u4] ∧ RowB W' g 33 ((ys.set i (u1, u2)).flatMap enI2 ++ rest)) ⟨grownBy_trans (grownBy_trans q9 (grownBy_setCell _ _ _ _)) (grownBy_setCell _ _ _ _), (rb9.other hnb _).other hnb _, (hq2.other hqg _).other hqg _, rat_set row9 i HIL.out u1 u2⟩ ?_
            clear b0 b1 b2 p0 p1 g0 g1 hf hrl q9 rb9 hp2 hq2 row9
            rintro w5 ⟨q5, rb5, rq5, row5⟩
            obtain ⟨b0, b1, b2⟩ := rb5.c3
            obtain ⟨p0, p1⟩ := rq5.c2
            obtain ⟨g0, g1⟩ := CB.out _ row5
            have hf := row5.frozen
            have row9 := Lib.hid (show RowB ((w5.setCell ⟨g, j * 2, none⟩ (.int .i64 u3)).setCell ⟨g, j * 2 + 1, none⟩ (.int .i64 u4)) g 33 (yn.flatMap enI2 ++ rest) from by rw [HST.out]; exact rat_set row5 j HJL2.out u3 u4)
            go_wp2_with fail
            go_roundw
            case rel => exact ⟨k + 1, by omega, by go_num, grownBy_trans (grownBy_trans q5 (grownBy_setCell _ _ _ _)) (grownBy_setCell _ _ _ _), by rw [HYN.out]; exact row9⟩
            case measure => simp [intOf]; omega
    · obtain rfl : k = N := by omega
      have hR : Hid (RowB wr g 33 ((allR ls ms).flatMap enI2 ++ rest)) := by
        have h := hR.out
        rw [List.take_of_length_le (by rw [HNN.out]; exact Nat.le_refl _)] at h
        exact h
      have HO := Lib.hid (HO.out.grown qg (fun k hk => by simp at hk; omega))
      have HRn := Lib.hid (show RdS wr (g + 1) 2 enI2 (some ⟨g, 0, none⟩) (allR ls ms) from by
        have := OwnS.mk_ (lo := g) (hi := g + 1) (cap := cap) enI2_len hR.out (Nat.le_refl _) (by omega) (by rw [HoL.out]; exact hnc) hcm (by rw [HoL.out]; exact hl)
        exact this.rd enI2_len)
      have qW := GB.out _ qg
      clear hR
      obtain ⟨wo, rfl⟩ : ∃ wo : World, wo = wr := ⟨_, rfl⟩
      go_wp2_with fail
      go_loopw [13] (fun s wq => ∃ m : Nat, m ≤ n ∧ s = .int .i64 (m : Int) ∧ Hid (∃ d, wq = wo.drewN d)) (fun s _ => n - (intOf s).toNat)
      case atStart => exact ⟨0, Nat.zero_le _, rfl, 0, rfl⟩
      case round =>
        obtain ⟨m, hm, rfl, hd⟩ := hrel
        by_cases hmt : m < n
        · obtain ⟨b, off, p, q, he, _, hx, d0, d1⟩ := rdI2_at (HO.out.rd enI2_len) (i := m) (by rw [HoL.out]; exact hmt)
          obtain ⟨b', off', p', q', he', _, hx', d0', d1'⟩ := rdI2_at HRn.out (i := m) (by rw [HoL.out]; exact hmt)
          rw [hx] at hx'
          simp only [Option.some.injEq, Prod.mk.injEq] at hx'
          obtain ⟨rfl, rfl⟩ := hx'
          simp only [Option.some.injEq, Addr.mk.injEq, and_true] at he'
          obtain ⟨rfl, rfl⟩ := he'
          have y0 : wr.cell? ⟨b, off + m * 2, none⟩ = some (.int .i64 p) := by obtain ⟨d, rfl⟩ := hd.out; exact d0
          have y1 : wr.cell? ⟨b, off + m * 2 + 1, none⟩ = some (.int .i64 q) := by obtain ⟨d, rfl⟩ := hd.out; exact d1
          have y2 : wr.cell? ⟨g, 0 + m * 2, none⟩ = some (.int .i64 p) := by obtain ⟨d, rfl⟩ := hd.out; exact d0'
          have y3 : wr.cell? ⟨g, 0 + m * 2 + 1, none⟩ = some (.int .i64 q) := by obtain ⟨d, rfl⟩ := hd.out; exact d1'
          rw [Nat.zero_add] at y2 y3
          subst he
          clear hx d0 d1 d0' d1'
          go_wp2_with fail
          go_quiet (fail)
          go_wp2_with fail
          go_roundw
          case rel => exact ⟨m + 1, by omega, by go_num, by obtain ⟨d, rfl⟩ := hd.out; exact ⟨_, World.drewN_drewN _ _ _⟩⟩
          case measure => simp [intOf]; omega
        · obtain rfl : m = n := by omega
          have qE : Below W.heap.size W wr := by obtain ⟨d, rfl⟩ := hd.out; exact below_drewN qW d
          go_wp2_with fail
          go_ret
          exact ⟨rfl, qE⟩
end Go.Proofs.YtjmckpaemmjcmaaDoor.RatingsLaw
