/-
  impl.EventText: what it returns. Conditions: each theorem's own.
-/
import Derived.Test.YtlfdcefgelpgmaaGreatDoorTxQ
set_option linter.unusedVariables false
set_option linter.unusedSimpArgs false
namespace Go.Proofs.YtlfdcefgelpgmaaGreatDoor.TxI
open Go.ChangeShapes Go.WideShapes Go.ChangeAt Go.RowKit Base Ints Own JoinN PlP TxP Num Bd1 Bd5 RegF RegG

/-- The boxes of a variant and an event. -/
structure Bve (w wr : World) (v : Vr) (cs : List Value) : Prop where
  bel : Below w.heap.size w wr
  rv : RowB wr w.heap.size 25 [.int .i64 v.p, .int .i64 v.c, .int .i64 v.h, .int .i64 v.s]
  re : RowB wr (w.heap.size + 1) 28 cs
theorem Bve.below {w wr w' : World} {v : Vr} {cs : List Value} (k : Bve w wr v cs) (hb : Below wr.heap.size wr w') : Bve w w' v cs :=
  ⟨k.bel.trans (hb.mono k.bel.size), k.rv.below hb k.rv.lt, k.re.below hb k.re.lt⟩
set_option maxHeartbeats 4000000 in
set_option maxRecDepth 100000 in
theorem event_i (v : Vr) (k a b : Int) (ss : List Stp) (r : Int) (A : Option Addr) (cp B : Nat) (w : World) (hB : B ≤ w.heap.size) (hr : RdS w B 4 enSt A ss) (E : Env w) :
    Calls Tryz.prog 7 #[.agg #[.int .i64 v.p, .int .i64 v.c, .int .i64 v.h, .int .i64 v.s], .agg #[.int .i64 k, .int .i64 a, .int .i64 b, .slice A ss.length cp, .int .i64 r]] w fun e w' => e = .returned (.string (bs (if okV v = true then evnT v ⟨k, a, b, ss, r⟩ else []))) ∧ Below w.heap.size w w' := by
  obtain ⟨ok, hok⟩ : ∃ o, okV v = o := ⟨_, rfl⟩
  have CV := Lib.hid (fun w9 => var_i v ok hok w9)
  obtain ⟨R, hR⟩ : ∃ x, (if okV v = true then evnT v ⟨k, a, b, ss, r⟩ else []) = x := ⟨_, rfl⟩
  rw [hR]
  have HRD := Lib.hid hr
  obtain ⟨n, hn⟩ : ∃ n, ss.length = n := ⟨_, rfl⟩
  have hln := hr.len
  rw [hn] at hln ⊢
  have HN := Lib.hid hn
  have HR := Lib.hid hR
  have HO := Lib.hid hok
  clear hR hok hr hn
  go_enter Tryz.func7, Tryz.ntmps7
  go_upto_region 1 with (fail)
  refine wp_gen (fun W' => Bve w W' v [.int .i64 k, .int .i64 a, .int .i64 b, .slice A n cp, .int .i64 r]) ⟨by go_grown, (RowB.new _ _ _).alloc _, RowB.new' _ _ _ (by simp)⟩ ?_
  intro w1 K
  obtain ⟨q0, q1, q2, q3⟩ := K.rv.c4
  have hlv := K.rv.lt
  go_wp2_with fail
  refine (CV.out _).mono ?_
  rintro e w2 ⟨rfl, hb⟩
  have K := K.below hb
  clear q0 q1 q2 q3 hlv hb CV
  cases ok
  case false =>
    obtain rfl : R = [] := by rw [← HR.out, HO.out]; rfl
    go_wp2_with fail
    go_ret
    exact ⟨rfl, K.bel⟩
  have HE : Hid (R = evnT v ⟨k, a, b, ss, r⟩) := by show _ = _; rw [← HR.out, HO.out]; rfl
  clear HR
  obtain ⟨q0, q1, q2, q3⟩ := K.rv.c4
  obtain ⟨y0, y1, y2, y3, y4⟩ := K.re.c5
  have hlv := K.rv.lt
  have hle := K.re.lt
  have hbl : blankP ⟨k, a, b, ss, r⟩ = if k = 1 then decide (n = 0 ∧ r = 0) else if k = 2 then decide (r = 0) else if k = 3 then decide (a = 0 ∧ b = 0 ∧ n = 0) else false := by unfold blankP; rw [HN.out]
  have hev : evnT v ⟨k, a, b, ss, r⟩ = if (if k = 1 then decide (n = 0 ∧ r = 0) else if k = 2 then decide (r = 0) else if k = 3 then decide (a = 0 ∧ b = 0 ∧ n = 0) else false) = false then [] else
      if k = 1 then (if (1 ≤ a ∧ a ≤ v.s) ∧ 1 ≤ b ∧ b ≤ v.s then opW ++ [32] ++ Lib.itoa a ++ [32] ++ Lib.itoa b else [])
      else if k = 3 then (if 1 ≤ r ∧ r ≤ 3 then reW ++ [32] ++ Lib.itoa r else []) else if trnT v a b ss = [] then [] else tuW ++ [32] ++ trnT v a b ss := by rw [← hbl]; rfl
  have HE2 := Lib.hid (HE.out.trans hev)
  clear HE hbl hev
  obtain ⟨c1, h1⟩ : ∃ c, decide (1 ≤ a ∧ a ≤ v.s) = c := ⟨_, rfl⟩
  obtain ⟨c2, h2⟩ : ∃ c, decide (1 ≤ b ∧ b ≤ v.s) = c := ⟨_, rfl⟩
  obtain ⟨c3, h3⟩ : ∃ c, decide (1 ≤ r ∧ r ≤ 3) = c := ⟨_, rfl⟩
  have C1 := Lib.hid (fun w => in_i a 1 v.s c1 h1 w)
  have C2 := Lib.hid (fun w => in_i b 1 v.s c2 h2 w)
  have C3 := Lib.hid (fun w => in_i r 1 3 c3 h3 w)
  have HC1 := Lib.hid h1
  have HC2 := Lib.hid h2
  have HC3 := Lib.hid h3
  clear h1 h2 h3
  by_cases k1 : k = 1
  · subst k1
    have HE3 : Hid (R = if decide (n = 0 ∧ r = 0) = false then [] else if (1 ≤ a ∧ a ≤ v.s) ∧ 1 ≤ b ∧ b ≤ v.s then opW ++ [32] ++ Lib.itoa a ++ [32] ++ Lib.itoa b else []) := HE2.out
    clear HE2
    by_cases n0 : n = 0
    case neg =>
      have d0 : ((n : Int) == 0) = false := by simp; omega
      obtain rfl : R = [] := by rw [HE3.out, decide_eq_false (fun h => n0 h.1)]; rfl
      clear n0 HE3
      go_wp2_with fail
      go_ret
      exact ⟨rfl, K.bel⟩
    have d0 : ((n : Int) == 0) = true := by simp [n0]
    by_cases r0 : r = 0
    case neg =>
      have d1 : (r == 0) = false := by simp [r0]
      obtain rfl : R = [] := by rw [HE3.out, decide_eq_false (fun h => r0 h.2)]; rfl
      clear n0 r0 HE3
      go_wp2_with fail
      go_ret
      exact ⟨rfl, K.bel⟩
    have d1 : (r == 0) = true := by simp [r0]
    have HE4 : Hid (R = if (1 ≤ a ∧ a ≤ v.s) ∧ 1 ≤ b ∧ b ≤ v.s then opW ++ [32] ++ Lib.itoa a ++ [32] ++ Lib.itoa b else []) := by show _ = _; rw [HE3.out, decide_eq_true ⟨n0, r0⟩]; rfl
    clear n0 r0 HE3
    go_wp2_with fail
    refine (C1.out _).mono ?_
    rintro e w3 ⟨rfl, rfl⟩
    cases c1
    case false =>
      obtain rfl : R = [] := by rw [HE4.out, if_neg (fun h => of_decide_eq_false HC1.out h.1)]
      clear HE4
      go_wp2_with fail
      go_ret
      exact ⟨rfl, K.bel⟩
    go_wp2_with fail
    refine (C2.out _).mono ?_
    rintro e w3 ⟨rfl, rfl⟩
    cases c2
    case false =>
      obtain rfl : R = [] := by rw [HE4.out, if_neg (fun h => of_decide_eq_false HC2.out h.2)]
      clear HE4
      go_wp2_with fail
      go_ret
      exact ⟨rfl, K.bel⟩
    have ha := of_decide_eq_true HC1.out
    have hb := of_decide_eq_true HC2.out
    have hp := okV_iff.1 HO.out
    have CA := Lib.hid (fun (w9 : World) (E9 : Env w9) => decimalZ a (by omega) (by omega) w9 E9.tab)
    have CB := Lib.hid (fun (w9 : World) (E9 : Env w9) => decimalZ b (by omega) (by omega) w9 E9.tab)
    have z1 := ito_len (n := a) (by omega) (by omega)
    have z2 := ito_len (n := b) (by omega) (by omega)
    obtain ⟨xa, hxa⟩ : ∃ z : ByteArray, (⟨(Lib.itoa a).toArray⟩ : ByteArray) = z := ⟨_, rfl⟩
    obtain ⟨xb, hxb⟩ : ∃ z : ByteArray, (⟨(Lib.itoa b).toArray⟩ : ByteArray) = z := ⟨_, rfl⟩
    rw [hxa] at CA
    rw [hxb] at CB
    have s1 : xa.size ≤ 2 := by rw [← hxa]; exact Nat.le_trans (Nat.le_of_eq (bs_size _)) z1.2
    have s2 : xb.size ≤ 2 := by rw [← hxb]; exact Nat.le_trans (Nat.le_of_eq (bs_size _)) z2.2
    have HI : Hid ((((⟨#[111, 112, 101, 110, 105, 110, 103, 32]⟩ : ByteArray) ++ xa) ++ (⟨#[32]⟩ : ByteArray)) ++ xb = bs R) := by
      show _ = _
      rw [HE4.out, if_pos ⟨ha, hb⟩, ← hxa, ← hxb]
      have g1 : (⟨#[111, 112, 101, 110, 105, 110, 103, 32]⟩ : ByteArray) = bs (opW ++ [32]) := rfl
      have g2 : (⟨#[32]⟩ : ByteArray) = bs [32] := rfl
      have g3 : ∀ n, (⟨(Lib.itoa n).toArray⟩ : ByteArray) = bs (Lib.itoa n) := fun _ => rfl
      simp only [g1, g2, g3, bs_cat]
    obtain ⟨T1, hT1⟩ : ∃ z, (⟨#[111, 112, 101, 110, 105, 110, 103, 32]⟩ : ByteArray) ++ xa = z := ⟨_, rfl⟩
    have u1 : T1.size ≤ 10 := by rw [← hT1, ByteArray.size_append]; show 8 + xa.size ≤ 10; omega
    obtain ⟨T2, hT2⟩ : ∃ z, T1 ++ (⟨#[32]⟩ : ByteArray) = z := ⟨_, rfl⟩
    have u2 : T2.size ≤ 11 := by rw [← hT2, ByteArray.size_append]; show T1.size + 1 ≤ 11; omega
    obtain ⟨T3, hT3⟩ : ∃ z, T2 ++ xb = z := ⟨_, rfl⟩
    rw [hT1, hT2, hT3] at HI
    have G1 : Hid (¬ 9223372036854775807 < 8 + xa.size) := Lib.hid (by omega)
    have G2 : Hid (¬ 9223372036854775807 < T1.size + 1) := Lib.hid (by omega)
    have G3 : Hid (¬ 9223372036854775807 < T2.size + xb.size) := Lib.hid (by omega)
    have HT1 := Lib.hid hT1
    have HT2 := Lib.hid hT2
    have HT3 := Lib.hid hT3
    have HK := Lib.hid K
    clear HE4 hxa hxb s1 s2 z1 z2 ha hb hp hT1 hT2 hT3 u1 u2 K q0 q1 q2 q3 y0 y1 y2 y3 y4 hlv hle d0 d1
    go_wp2_with fail
    refine region_rel [some 36, some 37, some 38, some 39, some 40, some 41, some 42, some 43, some 44, some 4] 10 (Pl [some (.pointer (some ⟨w.heap.size + 1, 1, none⟩)), some (.int .i64 a), some (.string xa), some (.string T1), some (.string T2), some (.pointer (some ⟨w.heap.size + 1, 2, none⟩)), some (.int .i64 b), some (.string xb), some (.string T3), some (.string T3)]) (fun L vals w' => Below w2.heap.size w2 w') (by kernel_rfl) (by kernel_rfl) (by kernel_rfl) (by kernel_rfl) (by kernel_rfl) (by kernel_rfl) (by kernel_rfl) ?g0_1 ?gst_1 ?gfin_1
    case g0_1 => exact (Below.refl _ _).drew
    case gst_1 =>
      refine RelFrom.run rfl (fun L vals A w9 hno hdl hcl hu hp h0 F K hK => ?_) ?_
      · have e3 : A.tmps[3]?.getD undef = .pointer (some ⟨w.heap.size + 1, 0, none⟩) := h0 3 (fun j _ hj => absurd (List.mem_of_getElem? hj) (by decide))
        clear hu h0 hp
        have rr := (HK.out.re.below F HK.out.re.lt).c5
        have r1 := rr.2.1
        have r2 := rr.2.2.1
        clear rr
        have hs1 := G1.out
        have hs2 := G2.out
        have hs3 := G3.out
        have t1 := HT1.out
        have t2 := HT2.out
        have t3 := HT3.out
        go_simp
        exact hK.out _ w9 (Pl.fix rfl) (F)
      refine RelFrom.run rfl (fun L vals A w9 hno hdl hcl hu hp h0 F K hK => ?_) ?_
      · have e36 : A.tmps[36]?.getD undef = .pointer (some ⟨w.heap.size + 1, 1, none⟩) := (hu 0 36 (by kernel_rfl) rfl).trans (hp 0 (by kernel_rfl) _ rfl)
        clear hu h0 hp
        have rr := (HK.out.re.below F HK.out.re.lt).c5
        have r1 := rr.2.1
        have r2 := rr.2.2.1
        clear rr
        have hs1 := G1.out
        have hs2 := G2.out
        have hs3 := G3.out
        have t1 := HT1.out
        have t2 := HT2.out
        have t3 := HT3.out
        go_simp
        exact hK.out _ w9 (Pl.fix rfl) (F)
      refine RelFrom.run rfl (fun L vals A w9 hno hdl hcl hu hp h0 F K hK => ?_) ?_
      · have e37 : A.tmps[37]?.getD undef = .int .i64 a := (hu 1 37 (by kernel_rfl) rfl).trans (hp 1 (by kernel_rfl) _ rfl)
        clear hu h0 hp
        go_simp
        refine (CA.out w9 (E.below (HK.out.bel.trans (F.mono HK.out.bel.size)))).mono ?_
        rintro e w6 ⟨rfl, hb6⟩
        exact hK.out _ w6 (Pl.fix rfl) (F.trans (hb6.mono F.size))
      refine RelFrom.run rfl (fun L vals A w9 hno hdl hcl hu hp h0 F K hK => ?_) ?_
      · have e38 : A.tmps[38]?.getD undef = .string xa := (hu 2 38 (by kernel_rfl) rfl).trans (hp 2 (by kernel_rfl) _ rfl)
        clear hu h0 hp
        have rr := (HK.out.re.below F HK.out.re.lt).c5
        have r1 := rr.2.1
        have r2 := rr.2.2.1
        clear rr
        have hs1 := G1.out
        have hs2 := G2.out
        have hs3 := G3.out
        have t1 := HT1.out
        have t2 := HT2.out
        have t3 := HT3.out
        go_simp
        exact hK.out _ w9 (Pl.fix rfl) (F)
      refine RelFrom.run rfl (fun L vals A w9 hno hdl hcl hu hp h0 F K hK => ?_) ?_
      · have e39 : A.tmps[39]?.getD undef = .string T1 := (hu 3 39 (by kernel_rfl) rfl).trans (hp 3 (by kernel_rfl) _ rfl)
        clear hu h0 hp
        have rr := (HK.out.re.below F HK.out.re.lt).c5
        have r1 := rr.2.1
        have r2 := rr.2.2.1
        clear rr
        have hs1 := G1.out
        have hs2 := G2.out
        have hs3 := G3.out
        have t1 := HT1.out
        have t2 := HT2.out
        have t3 := HT3.out
        go_simp
        exact hK.out _ w9 (Pl.fix rfl) (F)
      refine RelFrom.run rfl (fun L vals A w9 hno hdl hcl hu hp h0 F K hK => ?_) ?_
      · have e3 : A.tmps[3]?.getD undef = .pointer (some ⟨w.heap.size + 1, 0, none⟩) := h0 3 (fun j _ hj => absurd (List.mem_of_getElem? hj) (by decide))
        clear hu h0 hp
        have rr := (HK.out.re.below F HK.out.re.lt).c5
        have r1 := rr.2.1
        have r2 := rr.2.2.1
        clear rr
        have hs1 := G1.out
        have hs2 := G2.out
        have hs3 := G3.out
        have t1 := HT1.out
        have t2 := HT2.out
        have t3 := HT3.out
        go_simp
        exact hK.out _ w9 (Pl.fix rfl) (F)
      refine RelFrom.run rfl (fun L vals A w9 hno hdl hcl hu hp h0 F K hK => ?_) ?_
      · have e41 : A.tmps[41]?.getD undef = .pointer (some ⟨w.heap.size + 1, 2, none⟩) := (hu 5 41 (by kernel_rfl) rfl).trans (hp 5 (by kernel_rfl) _ rfl)
        clear hu h0 hp
        have rr := (HK.out.re.below F HK.out.re.lt).c5
        have r1 := rr.2.1
        have r2 := rr.2.2.1
        clear rr
        have hs1 := G1.out
        have hs2 := G2.out
        have hs3 := G3.out
        have t1 := HT1.out
        have t2 := HT2.out
        have t3 := HT3.out
        go_simp
        exact hK.out _ w9 (Pl.fix rfl) (F)
      refine RelFrom.run rfl (fun L vals A w9 hno hdl hcl hu hp h0 F K hK => ?_) ?_
      · have e42 : A.tmps[42]?.getD undef = .int .i64 b := (hu 6 42 (by kernel_rfl) rfl).trans (hp 6 (by kernel_rfl) _ rfl)
        clear hu h0 hp
        go_simp
        refine (CB.out w9 (E.below (HK.out.bel.trans (F.mono HK.out.bel.size)))).mono ?_
        rintro e w6 ⟨rfl, hb6⟩
        exact hK.out _ w6 (Pl.fix rfl) (F.trans (hb6.mono F.size))
      refine RelFrom.run rfl (fun L vals A w9 hno hdl hcl hu hp h0 F K hK => ?_) ?_
      · have e40 : A.tmps[40]?.getD undef = .string T2 := (hu 4 40 (by kernel_rfl) rfl).trans (hp 4 (by kernel_rfl) _ rfl)
        have e43 : A.tmps[43]?.getD undef = .string xb := (hu 7 43 (by kernel_rfl) rfl).trans (hp 7 (by kernel_rfl) _ rfl)
        clear hu h0 hp
        have rr := (HK.out.re.below F HK.out.re.lt).c5
        have r1 := rr.2.1
        have r2 := rr.2.2.1
        clear rr
        have hs1 := G1.out
        have hs2 := G2.out
        have hs3 := G3.out
        have t1 := HT1.out
        have t2 := HT2.out
        have t3 := HT3.out
        go_simp
        exact hK.out _ w9 (Pl.fix rfl) (F)
      refine RelFrom.run rfl (fun L vals A w9 hno hdl hcl hu hp h0 F K hK => ?_) ?_
      · have e44 : A.tmps[44]?.getD undef = .string T3 := (hu 8 44 (by kernel_rfl) rfl).trans (hp 8 (by kernel_rfl) _ rfl)
        clear hu h0 hp
        have rr := (HK.out.re.below F HK.out.re.lt).c5
        have r1 := rr.2.1
        have r2 := rr.2.2.1
        clear rr
        have hs1 := G1.out
        have hs2 := G2.out
        have hs3 := G3.out
        have t1 := HT1.out
        have t2 := HT2.out
        have t3 := HT3.out
        go_simp
        exact hK.out _ w9 (Pl.fix rfl) (F)
      exact RelFrom.nil (by decide)
    case gfin_1 =>
      intro vals w9 hp F
      simp only [Fr, Act.put, List.setIfInBounds_toArray, List.set_cons_zero, List.set_cons_succ, Nat.reduceAdd]
      have h4 : vals 9 = .string T3 := hp 9 (by decide) _ rfl
      rw [h4, HI.out]
      have K := HK.out.below F
      clear F hp h4
      go_wp2_with fail
      go_ret
      exact ⟨rfl, K.bel⟩
  by_cases k2 : k = 2
  · subst k2
    have HE3 : Hid (R = if decide (r = 0) = false then [] else if trnT v a b ss = [] then [] else tuW ++ [32] ++ trnT v a b ss) := HE2.out
    clear HE2 k1
    have CT := Lib.hid (fun (w9 : World) (h9 : Below w.heap.size w w9) => turn_i v HO.out a b A cp B ss w9 (Nat.le_trans hB h9.size) (HRD.out.below h9 hB) (E.below h9))
    obtain ⟨S, hS⟩ : ∃ s, trnT v a b ss = s := ⟨_, rfl⟩
    have hl := trnT_len HO.out a b ss
    rw [hS] at HE3 CT hl
    rw [HN.out] at CT
    clear hS
    go_wp2_with fail
    refine (CT.out _ K.bel).mono ?_
    rintro e w3 ⟨rfl, hb⟩
    have K := K.below hb
    clear q0 q1 q2 q3 y0 y1 y2 y3 y4 hlv hle hb CT
    obtain ⟨y0, y1, y2, y3, y4⟩ := K.re.c5
    have hle := K.re.lt
    by_cases hS0 : S = []
    · obtain rfl : R = [] := by rw [HE3.out, if_pos hS0]; split <;> rfl
      have e0 : (bs S).toList.isEmpty = true := by rw [ByteArray.toList_eq, bs_data, hS0]; rfl
      clear HE3 hS0
      go_wp2_with fail
      go_ret
      exact ⟨rfl, K.bel⟩
    have e0 : (bs S).toList.isEmpty = false := by rw [ByteArray.toList_eq, bs_data]; cases S with | nil => exact absurd rfl hS0 | cons a l => rfl
    by_cases r0 : r = 0
    case neg =>
      obtain rfl : R = [] := by rw [HE3.out, decide_eq_false r0]; rfl
      have d1 : (r == 0) = false := by simp [r0]
      clear HE3 hS0 r0
      go_wp2_with fail
      go_ret
      exact ⟨rfl, K.bel⟩
    have d1 : (r == 0) = true := by simp [r0]
    have HI : Hid ((⟨#[116, 117, 114, 110, 32]⟩ : ByteArray) ++ bs S = bs R) := by
      show _ = _
      rw [HE3.out, decide_eq_true r0, if_neg (by simp), if_neg hS0]
      exact bs_cat (tuW ++ [32]) S
    have zS : (bs S).size ≤ 54 := by rw [bs_size]; exact hl
    obtain ⟨sb, hsb⟩ : ∃ z, bs S = z := ⟨_, rfl⟩
    rw [hsb] at HI e0 zS ⊢
    have HI2 : Hid (Ending.returned (.string ((⟨#[116, 117, 114, 110, 32]⟩ : ByteArray) ++ sb)) = Ending.returned (.string (bs R))) := by show _ = _; rw [HI.out]
    have g1 : ¬ 9223372036854775807 < 5 + sb.size := by omega
    clear HE3 hS0 r0 hsb HI hl
    go_wp2_with fail
    go_ret
    exact ⟨HI2.out, K.bel⟩
  by_cases k3 : k = 3
  · subst k3
    have HE3 : Hid (R = if decide (a = 0 ∧ b = 0 ∧ n = 0) = false then [] else if 1 ≤ r ∧ r ≤ 3 then reW ++ [32] ++ Lib.itoa r else []) := HE2.out
    clear HE2 k1 k2
    by_cases n0 : n = 0
    case neg =>
      have d0 : ((n : Int) == 0) = false := by simp; omega
      obtain rfl : R = [] := by rw [HE3.out, decide_eq_false (fun h => n0 h.2.2)]; rfl
      clear n0 HE3
      go_wp2_with fail
      go_ret
      exact ⟨rfl, K.bel⟩
    have d0 : ((n : Int) == 0) = true := by simp [n0]
    by_cases a0 : a = 0
    case neg =>
      have d1 : (a == 0) = false := by simp [a0]
      obtain rfl : R = [] := by rw [HE3.out, decide_eq_false (fun h => a0 h.1)]; rfl
      clear n0 a0 HE3
      go_wp2_with fail
      go_ret
      exact ⟨rfl, K.bel⟩
    have d1 : (a == 0) = true := by simp [a0]
    by_cases b0 : b = 0
    case neg =>
      have d2 : (b == 0) = false := by simp [b0]
      obtain rfl : R = [] := by rw [HE3.out, decide_eq_false (fun h => b0 h.2.1)]; rfl
      clear n0 a0 b0 HE3
      go_wp2_with fail
      go_ret
      exact ⟨rfl, K.bel⟩
    have d2 : (b == 0) = true := by simp [b0]
    have HE4 : Hid (R = if 1 ≤ r ∧ r ≤ 3 then reW ++ [32] ++ Lib.itoa r else []) := by show _ = _; rw [HE3.out, decide_eq_true ⟨a0, b0, n0⟩]; rfl
    clear n0 a0 b0 HE3
    go_wp2_with fail
    refine (C3.out _).mono ?_
    rintro e w3 ⟨rfl, rfl⟩
    cases c3
    case false =>
      obtain rfl : R = [] := by rw [HE4.out, if_neg (of_decide_eq_false HC3.out)]
      clear HE4
      go_wp2_with fail
      go_ret
      exact ⟨rfl, K.bel⟩
    have hrr := of_decide_eq_true HC3.out
    have CA := Lib.hid (fun (w9 : World) (E9 : Env w9) => decimalZ r (by omega) (by omega) w9 E9.tab)
    have z1 := ito_len (n := r) (by omega) (by omega)
    obtain ⟨xa, hxa⟩ : ∃ z : ByteArray, (⟨(Lib.itoa r).toArray⟩ : ByteArray) = z := ⟨_, rfl⟩
    rw [hxa] at CA
    have s1 : xa.size ≤ 2 := by rw [← hxa]; exact Nat.le_trans (Nat.le_of_eq (bs_size _)) z1.2
    have HI : Hid ((⟨#[114, 101, 115, 105, 103, 110, 32]⟩ : ByteArray) ++ xa = bs R) := by
      show _ = _
      rw [HE4.out, if_pos hrr, ← hxa]
      exact bs_cat (reW ++ [32]) _
    have HI2 : Hid (Ending.returned (.string ((⟨#[114, 101, 115, 105, 103, 110, 32]⟩ : ByteArray) ++ xa)) = Ending.returned (.string (bs R))) := by show _ = _; rw [HI.out]
    have g1 : ¬ 9223372036854775807 < 7 + xa.size := by omega
    clear HE4 hxa z1 hrr HI
    go_wp2_with fail
    refine (CA.out _ (E.below K.bel)).mono ?_
    rintro e w4 ⟨rfl, hb⟩
    have K := K.below hb
    go_wp2_with fail
    go_ret
    exact ⟨HI2.out, K.bel⟩
  obtain rfl : R = [] := by rw [HE2.out]; simp [k1, k2, k3]
  have d1 : (k == 1) = false := by simp [k1]
  have d2 : (k == 2) = false := by simp [k2]
  have d3 : (k == 3) = false := by simp [k3]
  clear HE2 k1 k2 k3
  go_wp2_with fail
  go_ret
  exact ⟨rfl, K.bel⟩
end Go.Proofs.YtlfdcefgelpgmaaGreatDoor.TxI
