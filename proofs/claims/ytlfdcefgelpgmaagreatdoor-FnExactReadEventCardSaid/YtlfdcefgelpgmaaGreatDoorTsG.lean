/-
  l06Guess of the reference: what it returns. Conditions: each theorem's own.
-/
import Derived.Test.YtlfdcefgelpgmaaGreatDoorTsF
import Derived.Deep.CutRange
import Derived.Laws.DeepStrings4
set_option linter.unusedVariables false
set_option linter.unusedSimpArgs false
namespace Go.Proofs.YtlfdcefgelpgmaaGreatDoor.TsI
open Go.ChangeShapes Go.WideShapes Go.ChangeAt Go.RowKit Base Ints Own JoinN PlP TxP Num Bd1 Bd5 RegF RegG TxI

/-- The step in the second word, where the first word is known. -/
def gSe (f : Int) (e : By) : Stp :=
  if 3 ≤ e.length ∧ e.take 3 = [111, 102, 102] then (f, -1, if 5 < e.length then (valS ((e.take (e.length - 1)).drop 4)).1 else f + 1, false)
  else if 0 < e.length ∧ e.getD (e.length - 1) 0 = 42 then (f, (valS (e.take (e.length - 1))).1 - 1, f - ((valS (e.take (e.length - 1))).1 - 1), true)
  else (f, (valS e).1 - 1, f - ((valS e).1 - 1), false)
theorem gS_two {v : Vr} {t a e : By} (h : spl 47 t = [a, e]) : gS v t = gSe (if a = [98, 97, 114] then v.p else (valS a).1 - 1) e := by
  unfold gS
  rw [h]
  rfl
theorem gS_no {v : Vr} {t : By} (h : (spl 47 t).length ≠ 2) : gS v t = (0, 0, 0, false) := by
  unfold gS
  match hs : spl 47 t with
  | [] => rfl
  | [a] => rfl
  | [a, b] => rw [hs] at h; exact absurd rfl h
  | a :: b :: c :: l => rfl
theorem val_bd (l : By) : 0 ≤ (valS l).1 ∧ (valS l).1 ≤ 1000000000000000 := by
  unfold valS
  split
  · exact ⟨by decide, by decide⟩
  · rename_i h
    split
    · rename_i ha
      have hb := num_bd ha l.length (Nat.le_refl _)
      have hp := pow15 (k := l.length) (by rcases Nat.lt_or_ge 15 l.length with h1 | h1; exact absurd (.inr (.inl h1)) h; exact h1)
      exact ⟨hb.1, Int.le_of_lt (Int.lt_of_lt_of_le hb.2 hp)⟩
    · exact ⟨by decide, by decide⟩
/-- The boxes of l06Guess: a variant, the result, the step under way. -/
structure Bg (w wr : World) (v : Vr) (cs : List Value) : Prop where
  bel : Below w.heap.size w wr
  rv : RowB wr w.heap.size 25 [.int .i64 v.p, .int .i64 v.c, .int .i64 v.h, .int .i64 v.s]
  r0 : RowB wr (w.heap.size + 1) 91 [.int .i64 0, .int .i64 0, .int .i64 0, .bool false]
  rs : RowB wr (w.heap.size + 2) 91 cs
theorem Bg.below {w wr w' : World} {v : Vr} {cs : List Value} (k : Bg w wr v cs) (hb : Below wr.heap.size wr w') : Bg w w' v cs :=
  ⟨k.bel.trans (hb.mono k.bel.size), k.rv.below hb k.rv.lt, k.r0.below hb k.r0.lt, k.rs.below hb k.rs.lt⟩
theorem Bg.set {w wr : World} {v : Vr} {cs : List Value} (k : Bg w wr v cs) (j : Nat) (u : Value) : Bg w (wr.setCell ⟨w.heap.size + 2, j, none⟩ u) v (cs.set j u) :=
  ⟨k.bel.setCell (p := ⟨w.heap.size + 2, j, none⟩) (by show w.heap.size ≤ w.heap.size + 2; omega) u, k.rv.other (p := ⟨w.heap.size + 2, j, none⟩) (by show w.heap.size ≠ w.heap.size + 2; omega) u, k.r0.other (p := ⟨w.heap.size + 2, j, none⟩) (by show w.heap.size + 1 ≠ w.heap.size + 2; omega) u, k.rs.set j u⟩
theorem row2 {w' : World} {g : Nat} {a b : Value} {rest : List Value} {t : TypeId} (h : RowB w' g t ([a, b] ++ rest)) : w'.cell? ⟨g, 0, none⟩ = some a ∧ w'.cell? ⟨g, 1, none⟩ = some b := ⟨h.cell 0, h.cell 1⟩
set_option maxHeartbeats 8000000 in
set_option maxRecDepth 100000 in
theorem guess_s (v : Vr) (hv : okV v = true) (t : By) (hl : t.length ≤ 4194304) (w : World) :
    Calls Tryz.prog 140 #[.agg #[.int .i64 v.p, .int .i64 v.c, .int .i64 v.h, .int .i64 v.s], .string (bs t)] w fun e w' => e = .returned (stpV (gS v t)) ∧ Below w.heap.size w w' := by
  have hp := okV_iff.1 hv
  have hp1 : 0 ≤ v.p ∧ v.p ≤ 24 := by omega
  have CS := Lib.hid (fun w9 => split_s t 47 47 rfl hl w9)
  have HW := Lib.hid (fun x hx => Nat.le_trans (spl_word 47 t x hx) hl)
  obtain ⟨G, hG⟩ : ∃ g, gS v t = g := ⟨_, rfl⟩
  rw [hG]
  have HG := Lib.hid hG
  have HL := Lib.hid hl
  clear hG hv hp hl
  go_enter Tryz.func140, Tryz.ntmps140
  go_upto_region 1 with (fail)
  refine wp_gen (fun W' => Below w.heap.size w W' ∧ W'.heap.size = w.heap.size + 2 ∧ RowB W' w.heap.size 25 [.int .i64 v.p, .int .i64 v.c, .int .i64 v.h, .int .i64 v.s] ∧ RowB W' (w.heap.size + 1) 91 [.int .i64 0, .int .i64 0, .int .i64 0, .bool false]) ⟨by go_grown, by simp, (RowB.new _ _ _).alloc _, RowB.new' _ _ _ (by simp)⟩ ?_
  rintro w1 ⟨hb1, hsz1, rv, r0⟩
  obtain ⟨q0, q1, q2, q3⟩ := rv.c4
  have hlv := rv.lt
  go_upto_region 2 with (fail)
  refine wp_gen (fun W' => Bg w W' v [.int .i64 v.p, .int .i64 0, .int .i64 0, .bool false]) ⟨hb1.alloc hb1.size _, rv.alloc _, r0.alloc _, RowB.new' _ _ _ hsz1.symm⟩ ?_
  clear q0 q1 q2 q3 hlv hb1 hsz1 rv r0
  intro w2 K
  go_wp2_with fail
  refine (CS.out _).mono ?_
  rintro e w3 ⟨sv, rfl, hos, hb⟩
  have hw2 : w.heap.size + 3 ≤ w2.heap.size := K.rs.lt
  have K := K.below hb
  obtain ⟨A, cp, hsv, hrd⟩ := hos.form enBs_len
  obtain ⟨n, hn⟩ : ∃ n, (spl 47 t).length = n := ⟨_, rfl⟩
  rw [hn] at hsv
  subst hsv
  have hnm : n ≤ 4194305 := by have := spl_len 47 t; have := HL.out; omega
  by_cases h2 : n = 2
  case neg =>
    have hGz : G = (0, 0, 0, false) := by rw [← HG.out]; exact gS_no (by rw [hn]; exact h2)
    subst hGz
    have e1 : ((n : Int) != 2) = true := by simp; omega
    have e0 : ((n : Int) == 2) = false := by simp; omega
    obtain ⟨y0, y1, y2, y3⟩ := K.r0.c4
    have hl0 := K.r0.lt
    have fr := K.r0.frozen
    obtain ⟨q0, q1, q2, q3⟩ := K.rv.c4
    have hlv := K.rv.lt
    obtain ⟨x0, x1, x2, x3⟩ := K.rs.c4
    have hls := K.rs.lt
    have frs := K.rs.frozen
    clear hrd hos hn h2 HG hb
    go_wp2_with fail
    refine bp_gen (fun W' => Below w.heap.size w W' ∧ RowB W' (w.heap.size + 1) 91 [.int .i64 0, .int .i64 0, .int .i64 0, .bool false]) ⟨below_four K.bel (by omega) _ _ _ _, four K.r0 _ _ _ _⟩ ?_
    rintro w8 ⟨hb8, r8⟩
    obtain ⟨z0, z1, z2, z3⟩ := r8.c4
    refine bodyPost_ret (v := .agg #[.int .i64 0, .int .i64 0, .int .i64 0, .bool false]) (by simp [results, Tryz.results140, go_sem, z0, z1, z2, z3]) rfl ?_
    exact ⟨rfl, hb8⟩
  obtain ⟨a, e, hws⟩ : ∃ a e, spl 47 t = [a, e] := list2 (by rw [hn]; exact h2)
  subst h2
  have hal := HW.out a (by rw [hws]; simp)
  have hel := HW.out e (by rw [hws]; simp)
  have hGe := gS_two (v := v) hws
  rw [HG.out] at hGe
  rcases hos.cases_ with ⟨_, h⟩ | ⟨g, cap, rest, hsv, hg1, hg2, hrow, hc1, hc2, hc3⟩
  · rw [hws] at h; cases h
  rw [hws] at hsv hrow
  simp only [Value.slice.injEq] at hsv
  obtain ⟨rfl, -, rfl⟩ := hsv
  have hg : w.heap.size + 3 ≤ g := by omega
  have rw_ : RowB w3 g 9 ([.string (bs a), .string (bs e)] ++ rest) := hrow
  have HGE := Lib.hid hGe
  obtain ⟨bq, hbq⟩ : ∃ b, ((bs a).toList == [98, 97, 114]) = b := ⟨_, rfl⟩
  have hlb : if bq = true then a = [98, 97, 114] else ¬ a = [98, 97, 114] := by rw [← hbq, ByteArray.toList_eq, bs_data]; by_cases h : a = [98, 97, 114] <;> simp [h]
  have HLB := Lib.hid hlb
  have CA := Lib.hid (fun w9 => val_s a hal w9)
  have bA := val_bd a
  obtain ⟨⟨na, oa⟩, hna⟩ : ∃ z, valS a = z := ⟨_, rfl⟩
  rw [hna] at CA hGe bA
  simp only at CA hGe bA
  have HGE := Lib.hid hGe
  clear hrd hos hn hws hGe hrow hg1 hg2 hc1 hc2 hc3 HG hb hnm CS HW hlb hna hal
  obtain ⟨y0, y1, y2, y3⟩ := K.r0.c4
  have hl0 := K.r0.lt
  have fr := K.r0.frozen
  obtain ⟨q0, q1, q2, q3⟩ := K.rv.c4
  have hlv := K.rv.lt
  obtain ⟨x0, x1, x2, x3⟩ := K.rs.c4
  have hls := K.rs.lt
  have frs := K.rs.frozen
  obtain ⟨c0, c1⟩ := row2 rw_
  have hlw := rw_.lt
  go_upto_if 26 with fail
  clear hbq
  go_cut [7, 8] from 23 (fun s7 s8 wx => ∃ f, Bg w wx v [.int .i64 f, .int .i64 0, .int .i64 0, .bool false] ∧ RowB wx g 9 ([.string (bs a), .string (bs e)] ++ rest) ∧ Hid (G = gSe f e) ∧ -1 ≤ f ∧ f ≤ 1000000000000000)
  case first =>
    cases bq
    case true =>
      have hlb : a = [98, 97, 114] := HLB.out
      have hg1 : Hid (G = gSe v.p e) := by show _ = _; rw [HGE.out, if_pos hlb]
      clear hlb
      go_wp2_with fail
      go_meet
      exact ⟨v.p, K, rw_, hg1, by omega, by omega⟩
    case false =>
      have hlb : ¬ a = [98, 97, 114] := HLB.out
      have hg1 : Hid (G = gSe (na - 1) e) := by show _ = _; rw [HGE.out, if_neg hlb]
      clear hlb
      go_wp2_with fail
      refine (CA.out _).mono ?_
      rintro e_ w4 ⟨rfl, hb⟩
      have K := K.below hb
      have rw_ := rw_.below hb rw_.lt
      clear y0 y1 y2 y3 hl0 fr q0 q1 q2 q3 hlv x0 x1 x2 x3 hls frs c0 c1 hlw
      obtain ⟨y0, y1, y2, y3⟩ := K.r0.c4
      have hl0 := K.r0.lt
      have fr := K.r0.frozen
      obtain ⟨q0, q1, q2, q3⟩ := K.rv.c4
      have hlv := K.rv.lt
      obtain ⟨x0, x1, x2, x3⟩ := K.rs.c4
      have hls := K.rs.lt
      have frs := K.rs.frozen
      obtain ⟨c0, c1⟩ := row2 rw_
      have hlw := rw_.lt
      go_wp2_with fail
      go_meet
      exact ⟨na - 1, K.set 0 _, rw_.other (p := ⟨w.heap.size + 2, 0, none⟩) (by show g ≠ w.heap.size + 2; omega) _, hg1, by omega, by omega⟩
  case rest =>
    obtain ⟨f, K, rw_, HG, hf0, hf1⟩ := hcut
    clear y0 y1 y2 y3 hl0 fr q0 q1 q2 q3 hlv x0 x1 x2 x3 hls frs c0 c1 hlw
    clear HGE CA bA HLB
    have hG0 := HG.out
    unfold gSe at hG0
    have HG := Lib.hid hG0
    clear hG0
    obtain ⟨s, hs⟩ : ∃ s, bs e = s := ⟨_, rfl⟩
    have hsd : s.data.toList = e := by rw [← hs]; rfl
    have hsz : s.size = e.length := by rw [← hs]; exact bs_size e
    have HEX := Lib.hid (fun a b => show s.extract a b = bs ((e.drop a).take (b - a)) from by rw [Lib.extract_eq, hsd]; rfl)
    obtain ⟨m, hm⟩ : ∃ m, e.length = m := ⟨_, rfl⟩
    rw [hm] at hsz hel
    have HSD := Lib.hid hsd
    have HSZ := Lib.hid hsz
    have HM := Lib.hid hm
    have HS := Lib.hid hs
    have hlw := rw_.lt
    obtain ⟨c0, c1⟩ := row2 rw_
    rw [hs] at c1
    have hsm : s.size ≤ 4194304 := by omega
    obtain ⟨q, hq⟩ : ∃ q, s.size - 1 = q := ⟨_, rfl⟩
    have HQS := Lib.hid hq
    clear hq
    clear hsd hs hm rw_ hsz
    obtain ⟨y0, y1, y2, y3⟩ := K.r0.c4
    have hl0 := K.r0.lt
    have fr := K.r0.frozen
    obtain ⟨q0, q1, q2, q3⟩ := K.rv.c4
    have hlv := K.rv.lt
    obtain ⟨x0, x1, x2, x3⟩ := K.rs.c4
    have hls := K.rs.lt
    have frs := K.rs.frozen
    by_cases hoff : 3 ≤ m ∧ e.take 3 = [111, 102, 102]
    · have d1 : decide ((3 : Int) ≤ (s.size : Int)) = true := decide_eq_true (by have := HSZ.out; omega)
      have d1' : 3 ≤ s.size := by have := HSZ.out; omega
      have hx3 : s.extract 0 3 = bs [111, 102, 102] := by rw [HEX.out]; have := hoff.2; rw [List.drop_zero]; rw [this]
      have e0 : ((bs [111, 102, 102]).toList == [111, 102, 102]) = true := by rw [ByteArray.toList_eq, bs_data]; rfl
      have HG1 : Hid (G = (f, -1, if 5 < m then (valS ((e.take (m - 1)).drop 4)).1 else f + 1, false)) := by show _ = _; rw [HG.out, HM.out, if_pos hoff]
      clear HG hoff
      have HG := HG1
      clear HG1
      go_upto_region 11 with (fail)
      refine wp_gen (fun W' => Bg w W' v [.int .i64 f, .int .i64 (-1), .int .i64 0, .bool false]) (K.set 1 _) ?_
      clear y0 y1 y2 y3 hl0 fr q0 q1 q2 q3 hlv x0 x1 x2 x3 hls frs
      clear K
      intro w5 K
      obtain ⟨y0, y1, y2, y3⟩ := K.r0.c4
      have hl0 := K.r0.lt
      have fr := K.r0.frozen
      obtain ⟨q0, q1, q2, q3⟩ := K.rv.c4
      have hlv := K.rv.lt
      obtain ⟨x0, x1, x2, x3⟩ := K.rs.c4
      have hls := K.rs.lt
      have frs := K.rs.frozen
      clear c0 c1 hlw hx3 e0 d1
      go_upto_region 12 with (fail)
      refine wp_gen (fun W' => Bg w W' v [.int .i64 f, .int .i64 (-1), .int .i64 (f + 1), .bool false]) (K.set 2 _) ?_
      clear y0 y1 y2 y3 hl0 fr q0 q1 q2 q3 hlv x0 x1 x2 x3 hls frs
      clear K
      intro w5 K
      obtain ⟨y0, y1, y2, y3⟩ := K.r0.c4
      have hl0 := K.r0.lt
      have fr := K.r0.frozen
      obtain ⟨q0, q1, q2, q3⟩ := K.rv.c4
      have hlv := K.rv.lt
      obtain ⟨x0, x1, x2, x3⟩ := K.rs.c4
      have hls := K.rs.lt
      have frs := K.rs.frozen
      by_cases h5 : 5 < m
      · have d5 : decide ((5 : Int) < (s.size : Int)) = true := decide_eq_true (by have := HSZ.out; omega)
        have hx4 : s.extract 4 q = bs ((e.take (m - 1)).drop 4) := by rw [HEX.out, ← HQS.out, HSZ.out, List.drop_take]
        have hpl : ((e.take (m - 1)).drop 4).length ≤ 4194304 := by rw [List.length_drop, List.length_take, HM.out]; omega
        obtain ⟨p, hp⟩ : ∃ p, (e.take (m - 1)).drop 4 = p := ⟨_, rfl⟩
        rw [hp] at hx4 hpl HG
        have CP := Lib.hid (fun w9 => val_s p hpl w9)
        obtain ⟨⟨np, op⟩, hnp⟩ : ∃ z, valS p = z := ⟨_, rfl⟩
        rw [hnp] at CP HG
        simp only at CP HG
        have hs1 : 5 < s.size := by have := HSZ.out; omega
        have hsub : ((s.size : Int) - 1) = (q : Int) := by have := HQS.out; omega
        have hq4 : 4 ≤ q := by have := HQS.out; omega
        have hqs : q ≤ s.size := by have := HQS.out; omega
        have HH5 := Lib.hid h5
        clear hp hpl hnp h5
        go_wp2_with fail
        refine (CP.out _).mono ?_
        rintro e_ w6 ⟨rfl, hb⟩
        have K := K.below hb
        clear y0 y1 y2 y3 hl0 fr q0 q1 q2 q3 hlv x0 x1 x2 x3 hls frs
        clear hb CP hx4 d5
        obtain ⟨y0, y1, y2, y3⟩ := K.r0.c4
        have hl0 := K.r0.lt
        have fr := K.r0.frozen
        obtain ⟨q0, q1, q2, q3⟩ := K.rv.c4
        have hlv := K.rv.lt
        obtain ⟨x0, x1, x2, x3⟩ := K.rs.c4
        have hls := K.rs.lt
        have frs := K.rs.frozen
        go_upto_region 15 with (fail)
        refine wp_gen (fun W' => Bg w W' v [.int .i64 f, .int .i64 (-1), .int .i64 np, .bool false]) (K.set 2 _) ?_
        clear y0 y1 y2 y3 hl0 fr q0 q1 q2 q3 hlv x0 x1 x2 x3 hls frs
        clear K
        intro w5 K
        obtain ⟨y0, y1, y2, y3⟩ := K.r0.c4
        have hl0 := K.r0.lt
        have fr := K.r0.frozen
        obtain ⟨q0, q1, q2, q3⟩ := K.rv.c4
        have hlv := K.rv.lt
        obtain ⟨x0, x1, x2, x3⟩ := K.rs.c4
        have hls := K.rs.lt
        have frs := K.rs.frozen
        have hGn : G = (f, -1, np, false) := by rw [HG.out, if_pos HH5.out]
        subst hGn
        clear HG
        go_wp2_with fail
        refine bp_gen (fun W' => Below w.heap.size w W' ∧ RowB W' (w.heap.size + 1) 91 [.int .i64 f, .int .i64 (-1), .int .i64 np, .bool false]) ⟨below_four K.bel (by omega) _ _ _ _, four K.r0 _ _ _ _⟩ ?_
        rintro w8 ⟨hb8, r8⟩
        obtain ⟨z0, z1, z2, z3⟩ := r8.c4
        refine bodyPost_ret (v := .agg #[.int .i64 f, .int .i64 (-1), .int .i64 np, .bool false]) (by simp [results, Tryz.results140, go_sem, z0, z1, z2, z3]) rfl ?_
        exact ⟨rfl, hb8⟩
      · have d5 : decide ((5 : Int) < (s.size : Int)) = false := decide_eq_false (by have := HSZ.out; omega)
        have HH5 := Lib.hid h5
        clear h5
        have hGn : G = (f, -1, f + 1, false) := by rw [HG.out, if_neg HH5.out]
        subst hGn
        clear HG
        go_wp2_with fail
        refine bp_gen (fun W' => Below w.heap.size w W' ∧ RowB W' (w.heap.size + 1) 91 [.int .i64 f, .int .i64 (-1), .int .i64 (f + 1), .bool false]) ⟨below_four K.bel (by omega) _ _ _ _, four K.r0 _ _ _ _⟩ ?_
        rintro w8 ⟨hb8, r8⟩
        obtain ⟨z0, z1, z2, z3⟩ := r8.c4
        refine bodyPost_ret (v := .agg #[.int .i64 f, .int .i64 (-1), .int .i64 (f + 1), .bool false]) (by simp [results, Tryz.results140, go_sem, z0, z1, z2, z3]) rfl ?_
        exact ⟨rfl, hb8⟩
    have HG1 : Hid (G = if 0 < m ∧ e.getD (m - 1) 0 = 42 then (f, (valS (e.take (m - 1))).1 - 1, f - ((valS (e.take (m - 1))).1 - 1), true) else (f, (valS e).1 - 1, f - ((valS e).1 - 1), false)) := by show _ = _; rw [HG.out, HM.out, if_neg hoff]
    clear HG
    have HG := HG1
    clear HG1
    by_cases h3 : 3 ≤ m
    · have d1 : decide ((3 : Int) ≤ (s.size : Int)) = true := decide_eq_true (by have := HSZ.out; omega)
      have d1' : 3 ≤ s.size := by have := HSZ.out; omega
      obtain ⟨p3, hp3⟩ : ∃ p, e.take 3 = p := ⟨_, rfl⟩
      have hx3 : s.extract 0 3 = bs p3 := by rw [HEX.out, List.drop_zero, hp3]
      have e0 : ((bs p3).toList == [111, 102, 102]) = false := by rw [ByteArray.toList_eq, bs_data]; exact beq_eq_false_iff_ne.2 (fun h => hoff ⟨h3, hp3.trans h⟩)
      clear hoff hp3
      by_cases h0 : 0 < m
      · have hs0 : 0 < s.size := by have := HSZ.out; omega
        have hi : q < s.size := by have := HQS.out; omega
        have d0 : decide ((0 : Int) < (s.size : Int)) = true := decide_eq_true (by omega)
        have hsub : ((s.size : Int) - 1) = (q : Int) := by have := HQS.out; omega
        have hqs : q ≤ s.size := by omega
        obtain ⟨x, hxx⟩ : ∃ x, (s[q]'hi) = x := ⟨_, rfl⟩
        have hx := Lib.data_getElem? s q hi
        rw [hxx, HSD.out] at hx
        obtain ⟨z, hz⟩ : ∃ z : Nat, x.toNat = z := ⟨_, rfl⟩
        have hzd : (s[q]'hi).toNat = z := by rw [hxx, hz]
        have hgd : e.getD (m - 1) 0 = x := by rw [List.getD_eq_getElem?_getD, ← HSZ.out, HQS.out, hx]; rfl
        rw [hgd] at HG
        have HZ := Lib.hid hz
        clear hxx hx hz hgd
        by_cases h42 : z = 42
        · have e42 : ((z : Int) == 42) = true := by simp [h42]
          have hx5 : s.extract 0 q = bs (e.take (m - 1)) := by rw [HEX.out, ← HQS.out, HSZ.out, List.drop_zero, Nat.sub_zero]
          have hpl : (e.take (m - 1)).length ≤ 4194304 := by rw [List.length_take, HM.out]; omega
          have hx42 : x = 42 := UInt8.toNat_inj.1 (by rw [HZ.out, h42]; rfl)
          have HG1 : Hid (G = (f, (valS (e.take (m - 1))).1 - 1, f - ((valS (e.take (m - 1))).1 - 1), true)) := by show _ = _; rw [HG.out, if_pos ⟨h0, hx42⟩]
          clear HG
          have HG := HG1
          clear HG1
          obtain ⟨p, hp⟩ : ∃ p, e.take (m - 1) = p := ⟨_, rfl⟩
          rw [hp] at hx5 hpl HG
          have CP := Lib.hid (fun w9 => val_s p hpl w9)
          have bP := val_bd p
          obtain ⟨⟨np, op⟩, hnp⟩ : ∃ z, valS p = z := ⟨_, rfl⟩
          rw [hnp] at CP bP HG
          simp only at CP bP HG
          clear hnp
          clear hp hpl hx42 h42
          go_upto_region 18 with (fail)
          refine wp_gen (fun W' => Bg w W' v [.int .i64 f, .int .i64 0, .int .i64 0, .bool true]) (K.set 3 _) ?_
          clear y0 y1 y2 y3 hl0 fr q0 q1 q2 q3 hlv x0 x1 x2 x3 hls frs
          clear K
          intro w5 K
          obtain ⟨y0, y1, y2, y3⟩ := K.r0.c4
          have hl0 := K.r0.lt
          have fr := K.r0.frozen
          obtain ⟨q0, q1, q2, q3⟩ := K.rv.c4
          have hlv := K.rv.lt
          obtain ⟨x0, x1, x2, x3⟩ := K.rs.c4
          have hls := K.rs.lt
          have frs := K.rs.frozen
          go_wp2_with fail
          refine (CP.out _).mono ?_
          rintro e_ w6 ⟨rfl, hb⟩
          have K := K.below hb
          clear y0 y1 y2 y3 hl0 fr q0 q1 q2 q3 hlv x0 x1 x2 x3 hls frs
          clear hb CP
          obtain ⟨y0, y1, y2, y3⟩ := K.r0.c4
          have hl0 := K.r0.lt
          have fr := K.r0.frozen
          obtain ⟨q0, q1, q2, q3⟩ := K.rv.c4
          have hlv := K.rv.lt
          obtain ⟨x0, x1, x2, x3⟩ := K.rs.c4
          have hls := K.rs.lt
          have frs := K.rs.frozen
          go_upto_region 21 with (fail)
          refine wp_gen (fun W' => Bg w W' v [.int .i64 f, .int .i64 (np - 1), .int .i64 0, .bool true]) (K.set 1 _) ?_
          clear y0 y1 y2 y3 hl0 fr q0 q1 q2 q3 hlv x0 x1 x2 x3 hls frs
          clear K
          intro w5 K
          obtain ⟨y0, y1, y2, y3⟩ := K.r0.c4
          have hl0 := K.r0.lt
          have fr := K.r0.frozen
          obtain ⟨q0, q1, q2, q3⟩ := K.rv.c4
          have hlv := K.rv.lt
          obtain ⟨x0, x1, x2, x3⟩ := K.rs.c4
          have hls := K.rs.lt
          have frs := K.rs.frozen
          go_upto_region 22 with (fail)
          refine wp_gen (fun W' => Bg w W' v [.int .i64 f, .int .i64 (np - 1), .int .i64 (f - (np - 1)), .bool true]) (K.set 2 _) ?_
          clear y0 y1 y2 y3 hl0 fr q0 q1 q2 q3 hlv x0 x1 x2 x3 hls frs
          clear K
          intro w5 K
          obtain ⟨y0, y1, y2, y3⟩ := K.r0.c4
          have hl0 := K.r0.lt
          have fr := K.r0.frozen
          obtain ⟨q0, q1, q2, q3⟩ := K.rv.c4
          have hlv := K.rv.lt
          obtain ⟨x0, x1, x2, x3⟩ := K.rs.c4
          have hls := K.rs.lt
          have frs := K.rs.frozen
          have hGn : G = (f, np - 1, f - (np - 1), true) := HG.out
          subst hGn
          clear HG
          go_wp2_with fail
          refine bp_gen (fun W' => Below w.heap.size w W' ∧ RowB W' (w.heap.size + 1) 91 [.int .i64 f, .int .i64 (np - 1), .int .i64 (f - (np - 1)), .bool true]) ⟨below_four K.bel (by omega) _ _ _ _, four K.r0 _ _ _ _⟩ ?_
          rintro w8 ⟨hb8, r8⟩
          obtain ⟨z0, z1, z2, z3⟩ := r8.c4
          refine bodyPost_ret (v := .agg #[.int .i64 f, .int .i64 (np - 1), .int .i64 (f - (np - 1)), .bool true]) (by simp [results, Tryz.results140, go_sem, z0, z1, z2, z3]) rfl ?_
          exact ⟨rfl, hb8⟩
        · have e42 : ((z : Int) == 42) = false := by simp; omega
          have hx42 : x ≠ 42 := fun h => h42 (by rw [← HZ.out, h]; rfl)
          have HG1 : Hid (G = (f, (valS e).1 - 1, f - ((valS e).1 - 1), false)) := by show _ = _; rw [HG.out, if_neg (fun h => hx42 h.2)]
          clear HG
          have HG := HG1
          clear HG1
          have hpl : e.length ≤ 4194304 := by rw [HM.out]; exact hel
          have CP := Lib.hid (fun w9 => val_s e hpl w9)
          have bP := val_bd e
          obtain ⟨⟨np, op⟩, hnp⟩ : ∃ z, valS e = z := ⟨_, rfl⟩
          rw [hnp] at CP bP HG
          simp only at CP bP HG
          clear hnp
          rw [HS.out] at CP
          clear hpl hx42 h42
          go_wp2_with fail
          refine (CP.out _).mono ?_
          rintro e_ w6 ⟨rfl, hb⟩
          have K := K.below hb
          clear y0 y1 y2 y3 hl0 fr q0 q1 q2 q3 hlv x0 x1 x2 x3 hls frs
          clear hb CP
          obtain ⟨y0, y1, y2, y3⟩ := K.r0.c4
          have hl0 := K.r0.lt
          have fr := K.r0.frozen
          obtain ⟨q0, q1, q2, q3⟩ := K.rv.c4
          have hlv := K.rv.lt
          obtain ⟨x0, x1, x2, x3⟩ := K.rs.c4
          have hls := K.rs.lt
          have frs := K.rs.frozen
          go_upto_region 21 with (fail)
          refine wp_gen (fun W' => Bg w W' v [.int .i64 f, .int .i64 (np - 1), .int .i64 0, .bool false]) (K.set 1 _) ?_
          clear y0 y1 y2 y3 hl0 fr q0 q1 q2 q3 hlv x0 x1 x2 x3 hls frs
          clear K
          intro w5 K
          obtain ⟨y0, y1, y2, y3⟩ := K.r0.c4
          have hl0 := K.r0.lt
          have fr := K.r0.frozen
          obtain ⟨q0, q1, q2, q3⟩ := K.rv.c4
          have hlv := K.rv.lt
          obtain ⟨x0, x1, x2, x3⟩ := K.rs.c4
          have hls := K.rs.lt
          have frs := K.rs.frozen
          go_upto_region 22 with (fail)
          refine wp_gen (fun W' => Bg w W' v [.int .i64 f, .int .i64 (np - 1), .int .i64 (f - (np - 1)), .bool false]) (K.set 2 _) ?_
          clear y0 y1 y2 y3 hl0 fr q0 q1 q2 q3 hlv x0 x1 x2 x3 hls frs
          clear K
          intro w5 K
          obtain ⟨y0, y1, y2, y3⟩ := K.r0.c4
          have hl0 := K.r0.lt
          have fr := K.r0.frozen
          obtain ⟨q0, q1, q2, q3⟩ := K.rv.c4
          have hlv := K.rv.lt
          obtain ⟨x0, x1, x2, x3⟩ := K.rs.c4
          have hls := K.rs.lt
          have frs := K.rs.frozen
          have hGn : G = (f, np - 1, f - (np - 1), false) := HG.out
          subst hGn
          clear HG
          go_wp2_with fail
          refine bp_gen (fun W' => Below w.heap.size w W' ∧ RowB W' (w.heap.size + 1) 91 [.int .i64 f, .int .i64 (np - 1), .int .i64 (f - (np - 1)), .bool false]) ⟨below_four K.bel (by omega) _ _ _ _, four K.r0 _ _ _ _⟩ ?_
          rintro w8 ⟨hb8, r8⟩
          obtain ⟨z0, z1, z2, z3⟩ := r8.c4
          refine bodyPost_ret (v := .agg #[.int .i64 f, .int .i64 (np - 1), .int .i64 (f - (np - 1)), .bool false]) (by simp [results, Tryz.results140, go_sem, z0, z1, z2, z3]) rfl ?_
          exact ⟨rfl, hb8⟩
      · exact absurd h3 (by omega)
    · have d1 : decide ((3 : Int) ≤ (s.size : Int)) = false := decide_eq_false (by have := HSZ.out; omega)
      have d1' : ¬ 3 ≤ s.size := by have := HSZ.out; omega
      clear hoff
      by_cases h0 : 0 < m
      · have hs0 : 0 < s.size := by have := HSZ.out; omega
        have hi : q < s.size := by have := HQS.out; omega
        have d0 : decide ((0 : Int) < (s.size : Int)) = true := decide_eq_true (by omega)
        have hsub : ((s.size : Int) - 1) = (q : Int) := by have := HQS.out; omega
        have hqs : q ≤ s.size := by omega
        obtain ⟨x, hxx⟩ : ∃ x, (s[q]'hi) = x := ⟨_, rfl⟩
        have hx := Lib.data_getElem? s q hi
        rw [hxx, HSD.out] at hx
        obtain ⟨z, hz⟩ : ∃ z : Nat, x.toNat = z := ⟨_, rfl⟩
        have hzd : (s[q]'hi).toNat = z := by rw [hxx, hz]
        have hgd : e.getD (m - 1) 0 = x := by rw [List.getD_eq_getElem?_getD, ← HSZ.out, HQS.out, hx]; rfl
        rw [hgd] at HG
        have HZ := Lib.hid hz
        clear hxx hx hz hgd
        by_cases h42 : z = 42
        · have e42 : ((z : Int) == 42) = true := by simp [h42]
          have hx5 : s.extract 0 q = bs (e.take (m - 1)) := by rw [HEX.out, ← HQS.out, HSZ.out, List.drop_zero, Nat.sub_zero]
          have hpl : (e.take (m - 1)).length ≤ 4194304 := by rw [List.length_take, HM.out]; omega
          have hx42 : x = 42 := UInt8.toNat_inj.1 (by rw [HZ.out, h42]; rfl)
          have HG1 : Hid (G = (f, (valS (e.take (m - 1))).1 - 1, f - ((valS (e.take (m - 1))).1 - 1), true)) := by show _ = _; rw [HG.out, if_pos ⟨h0, hx42⟩]
          clear HG
          have HG := HG1
          clear HG1
          obtain ⟨p, hp⟩ : ∃ p, e.take (m - 1) = p := ⟨_, rfl⟩
          rw [hp] at hx5 hpl HG
          have CP := Lib.hid (fun w9 => val_s p hpl w9)
          have bP := val_bd p
          obtain ⟨⟨np, op⟩, hnp⟩ : ∃ z, valS p = z := ⟨_, rfl⟩
          rw [hnp] at CP bP HG
          simp only at CP bP HG
          clear hnp
          clear hp hpl hx42 h42
          go_upto_region 18 with (fail)
          refine wp_gen (fun W' => Bg w W' v [.int .i64 f, .int .i64 0, .int .i64 0, .bool true]) (K.set 3 _) ?_
          clear y0 y1 y2 y3 hl0 fr q0 q1 q2 q3 hlv x0 x1 x2 x3 hls frs
          clear K
          intro w5 K
          obtain ⟨y0, y1, y2, y3⟩ := K.r0.c4
          have hl0 := K.r0.lt
          have fr := K.r0.frozen
          obtain ⟨q0, q1, q2, q3⟩ := K.rv.c4
          have hlv := K.rv.lt
          obtain ⟨x0, x1, x2, x3⟩ := K.rs.c4
          have hls := K.rs.lt
          have frs := K.rs.frozen
          go_wp2_with fail
          refine (CP.out _).mono ?_
          rintro e_ w6 ⟨rfl, hb⟩
          have K := K.below hb
          clear y0 y1 y2 y3 hl0 fr q0 q1 q2 q3 hlv x0 x1 x2 x3 hls frs
          clear hb CP
          obtain ⟨y0, y1, y2, y3⟩ := K.r0.c4
          have hl0 := K.r0.lt
          have fr := K.r0.frozen
          obtain ⟨q0, q1, q2, q3⟩ := K.rv.c4
          have hlv := K.rv.lt
          obtain ⟨x0, x1, x2, x3⟩ := K.rs.c4
          have hls := K.rs.lt
          have frs := K.rs.frozen
          go_upto_region 21 with (fail)
          refine wp_gen (fun W' => Bg w W' v [.int .i64 f, .int .i64 (np - 1), .int .i64 0, .bool true]) (K.set 1 _) ?_
          clear y0 y1 y2 y3 hl0 fr q0 q1 q2 q3 hlv x0 x1 x2 x3 hls frs
          clear K
          intro w5 K
          obtain ⟨y0, y1, y2, y3⟩ := K.r0.c4
          have hl0 := K.r0.lt
          have fr := K.r0.frozen
          obtain ⟨q0, q1, q2, q3⟩ := K.rv.c4
          have hlv := K.rv.lt
          obtain ⟨x0, x1, x2, x3⟩ := K.rs.c4
          have hls := K.rs.lt
          have frs := K.rs.frozen
          go_upto_region 22 with (fail)
          refine wp_gen (fun W' => Bg w W' v [.int .i64 f, .int .i64 (np - 1), .int .i64 (f - (np - 1)), .bool true]) (K.set 2 _) ?_
          clear y0 y1 y2 y3 hl0 fr q0 q1 q2 q3 hlv x0 x1 x2 x3 hls frs
          clear K
          intro w5 K
          obtain ⟨y0, y1, y2, y3⟩ := K.r0.c4
          have hl0 := K.r0.lt
          have fr := K.r0.frozen
          obtain ⟨q0, q1, q2, q3⟩ := K.rv.c4
          have hlv := K.rv.lt
          obtain ⟨x0, x1, x2, x3⟩ := K.rs.c4
          have hls := K.rs.lt
          have frs := K.rs.frozen
          have hGn : G = (f, np - 1, f - (np - 1), true) := HG.out
          subst hGn
          clear HG
          go_wp2_with fail
          refine bp_gen (fun W' => Below w.heap.size w W' ∧ RowB W' (w.heap.size + 1) 91 [.int .i64 f, .int .i64 (np - 1), .int .i64 (f - (np - 1)), .bool true]) ⟨below_four K.bel (by omega) _ _ _ _, four K.r0 _ _ _ _⟩ ?_
          rintro w8 ⟨hb8, r8⟩
          obtain ⟨z0, z1, z2, z3⟩ := r8.c4
          refine bodyPost_ret (v := .agg #[.int .i64 f, .int .i64 (np - 1), .int .i64 (f - (np - 1)), .bool true]) (by simp [results, Tryz.results140, go_sem, z0, z1, z2, z3]) rfl ?_
          exact ⟨rfl, hb8⟩
        · have e42 : ((z : Int) == 42) = false := by simp; omega
          have hx42 : x ≠ 42 := fun h => h42 (by rw [← HZ.out, h]; rfl)
          have HG1 : Hid (G = (f, (valS e).1 - 1, f - ((valS e).1 - 1), false)) := by show _ = _; rw [HG.out, if_neg (fun h => hx42 h.2)]
          clear HG
          have HG := HG1
          clear HG1
          have hpl : e.length ≤ 4194304 := by rw [HM.out]; exact hel
          have CP := Lib.hid (fun w9 => val_s e hpl w9)
          have bP := val_bd e
          obtain ⟨⟨np, op⟩, hnp⟩ : ∃ z, valS e = z := ⟨_, rfl⟩
          rw [hnp] at CP bP HG
          simp only at CP bP HG
          clear hnp
          rw [HS.out] at CP
          clear hpl hx42 h42
          go_wp2_with fail
          refine (CP.out _).mono ?_
          rintro e_ w6 ⟨rfl, hb⟩
          have K := K.below hb
          clear y0 y1 y2 y3 hl0 fr q0 q1 q2 q3 hlv x0 x1 x2 x3 hls frs
          clear hb CP
          obtain ⟨y0, y1, y2, y3⟩ := K.r0.c4
          have hl0 := K.r0.lt
          have fr := K.r0.frozen
          obtain ⟨q0, q1, q2, q3⟩ := K.rv.c4
          have hlv := K.rv.lt
          obtain ⟨x0, x1, x2, x3⟩ := K.rs.c4
          have hls := K.rs.lt
          have frs := K.rs.frozen
          go_upto_region 21 with (fail)
          refine wp_gen (fun W' => Bg w W' v [.int .i64 f, .int .i64 (np - 1), .int .i64 0, .bool false]) (K.set 1 _) ?_
          clear y0 y1 y2 y3 hl0 fr q0 q1 q2 q3 hlv x0 x1 x2 x3 hls frs
          clear K
          intro w5 K
          obtain ⟨y0, y1, y2, y3⟩ := K.r0.c4
          have hl0 := K.r0.lt
          have fr := K.r0.frozen
          obtain ⟨q0, q1, q2, q3⟩ := K.rv.c4
          have hlv := K.rv.lt
          obtain ⟨x0, x1, x2, x3⟩ := K.rs.c4
          have hls := K.rs.lt
          have frs := K.rs.frozen
          go_upto_region 22 with (fail)
          refine wp_gen (fun W' => Bg w W' v [.int .i64 f, .int .i64 (np - 1), .int .i64 (f - (np - 1)), .bool false]) (K.set 2 _) ?_
          clear y0 y1 y2 y3 hl0 fr q0 q1 q2 q3 hlv x0 x1 x2 x3 hls frs
          clear K
          intro w5 K
          obtain ⟨y0, y1, y2, y3⟩ := K.r0.c4
          have hl0 := K.r0.lt
          have fr := K.r0.frozen
          obtain ⟨q0, q1, q2, q3⟩ := K.rv.c4
          have hlv := K.rv.lt
          obtain ⟨x0, x1, x2, x3⟩ := K.rs.c4
          have hls := K.rs.lt
          have frs := K.rs.frozen
          have hGn : G = (f, np - 1, f - (np - 1), false) := HG.out
          subst hGn
          clear HG
          go_wp2_with fail
          refine bp_gen (fun W' => Below w.heap.size w W' ∧ RowB W' (w.heap.size + 1) 91 [.int .i64 f, .int .i64 (np - 1), .int .i64 (f - (np - 1)), .bool false]) ⟨below_four K.bel (by omega) _ _ _ _, four K.r0 _ _ _ _⟩ ?_
          rintro w8 ⟨hb8, r8⟩
          obtain ⟨z0, z1, z2, z3⟩ := r8.c4
          refine bodyPost_ret (v := .agg #[.int .i64 f, .int .i64 (np - 1), .int .i64 (f - (np - 1)), .bool false]) (by simp [results, Tryz.results140, go_sem, z0, z1, z2, z3]) rfl ?_
          exact ⟨rfl, hb8⟩
      · have d0 : decide ((0 : Int) < (s.size : Int)) = false := decide_eq_false (by have := HSZ.out; omega)
        have d0n : ¬ 0 < s.size := by have := HSZ.out; omega
        have HG1 : Hid (G = (f, (valS e).1 - 1, f - ((valS e).1 - 1), false)) := by show _ = _; rw [HG.out, if_neg (fun h => h0 h.1)]
        clear HG
        have HG := HG1
        clear HG1
        have hpl : e.length ≤ 4194304 := by rw [HM.out]; exact hel
        have CP := Lib.hid (fun w9 => val_s e hpl w9)
        have bP := val_bd e
        obtain ⟨⟨np, op⟩, hnp⟩ : ∃ z, valS e = z := ⟨_, rfl⟩
        rw [hnp] at CP bP HG
        simp only at CP bP HG
        clear hnp
        rw [HS.out] at CP
        clear hpl h0
        go_wp2_with fail
        refine (CP.out _).mono ?_
        rintro e_ w6 ⟨rfl, hb⟩
        have K := K.below hb
        clear y0 y1 y2 y3 hl0 fr q0 q1 q2 q3 hlv x0 x1 x2 x3 hls frs
        clear hb CP
        obtain ⟨y0, y1, y2, y3⟩ := K.r0.c4
        have hl0 := K.r0.lt
        have fr := K.r0.frozen
        obtain ⟨q0, q1, q2, q3⟩ := K.rv.c4
        have hlv := K.rv.lt
        obtain ⟨x0, x1, x2, x3⟩ := K.rs.c4
        have hls := K.rs.lt
        have frs := K.rs.frozen
        go_upto_region 21 with (fail)
        refine wp_gen (fun W' => Bg w W' v [.int .i64 f, .int .i64 (np - 1), .int .i64 0, .bool false]) (K.set 1 _) ?_
        clear y0 y1 y2 y3 hl0 fr q0 q1 q2 q3 hlv x0 x1 x2 x3 hls frs
        clear K
        intro w5 K
        obtain ⟨y0, y1, y2, y3⟩ := K.r0.c4
        have hl0 := K.r0.lt
        have fr := K.r0.frozen
        obtain ⟨q0, q1, q2, q3⟩ := K.rv.c4
        have hlv := K.rv.lt
        obtain ⟨x0, x1, x2, x3⟩ := K.rs.c4
        have hls := K.rs.lt
        have frs := K.rs.frozen
        go_upto_region 22 with (fail)
        refine wp_gen (fun W' => Bg w W' v [.int .i64 f, .int .i64 (np - 1), .int .i64 (f - (np - 1)), .bool false]) (K.set 2 _) ?_
        clear y0 y1 y2 y3 hl0 fr q0 q1 q2 q3 hlv x0 x1 x2 x3 hls frs
        clear K
        intro w5 K
        obtain ⟨y0, y1, y2, y3⟩ := K.r0.c4
        have hl0 := K.r0.lt
        have fr := K.r0.frozen
        obtain ⟨q0, q1, q2, q3⟩ := K.rv.c4
        have hlv := K.rv.lt
        obtain ⟨x0, x1, x2, x3⟩ := K.rs.c4
        have hls := K.rs.lt
        have frs := K.rs.frozen
        have hGn : G = (f, np - 1, f - (np - 1), false) := HG.out
        subst hGn
        clear HG
        go_wp2_with fail
        refine bp_gen (fun W' => Below w.heap.size w W' ∧ RowB W' (w.heap.size + 1) 91 [.int .i64 f, .int .i64 (np - 1), .int .i64 (f - (np - 1)), .bool false]) ⟨below_four K.bel (by omega) _ _ _ _, four K.r0 _ _ _ _⟩ ?_
        rintro w8 ⟨hb8, r8⟩
        obtain ⟨z0, z1, z2, z3⟩ := r8.c4
        refine bodyPost_ret (v := .agg #[.int .i64 f, .int .i64 (np - 1), .int .i64 (f - (np - 1)), .bool false]) (by simp [results, Tryz.results140, go_sem, z0, z1, z2, z3]) rfl ?_
        exact ⟨rfl, hb8⟩
end Go.Proofs.YtlfdcefgelpgmaaGreatDoor.TsI
