/-
  Texts of events, of the reference: what its functions return. Conditions: each theorem's own.
-/
import Derived.Test.YtlfdcefgelpgmaaGreatDoorTsC
set_option linter.unusedVariables false
set_option linter.unusedSimpArgs false
namespace Go.Proofs.YtlfdcefgelpgmaaGreatDoor.TsI
open Go.ChangeShapes Go.WideShapes Go.ChangeAt Go.RowKit Base Ints Own JoinN PlP TxP Num Bd1 Bd5 RegF RegG TxI

set_option maxHeartbeats 4000000 in
set_option maxRecDepth 100000 in
theorem levent_s (v : Vr) (hv : okV v = true) (k a b : Int) (ss : List Stp) (r : Int) (As : Option Addr) (cp B : Nat) (w : World) (hB : B ≤ w.heap.size) (hr : RdS w B 4 enSt As ss) :
    Calls Tryz.prog 27 #[.agg #[.int .i64 v.p, .int .i64 v.c, .int .i64 v.h, .int .i64 v.s], .agg #[.int .i64 k, .int .i64 a, .int .i64 b, .slice As ss.length cp, .int .i64 r]] w fun e w' => e = .returned (.string (bs (evnT v ⟨k, a, b, ss, r⟩))) ∧ Below w.heap.size w w' := by
  obtain ⟨R, hR⟩ : ∃ x, evnT v ⟨k, a, b, ss, r⟩ = x := ⟨_, rfl⟩
  rw [hR]
  have HRD := Lib.hid hr
  obtain ⟨n, hn⟩ : ∃ n, ss.length = n := ⟨_, rfl⟩
  have hbl : blankP ⟨k, a, b, ss, r⟩ = if k = 1 then decide (n = 0 ∧ r = 0) else if k = 2 then decide (r = 0) else if k = 3 then decide (a = 0 ∧ b = 0 ∧ n = 0) else false := by unfold blankP; rw [hn]
  obtain ⟨bl, hbb⟩ : ∃ c, (if k = 1 then decide (n = 0 ∧ r = 0) else if k = 2 then decide (r = 0) else if k = 3 then decide (a = 0 ∧ b = 0 ∧ n = 0) else false) = c := ⟨_, rfl⟩
  have hev : R = if bl = false then [] else
      if k = 1 then (if (1 ≤ a ∧ a ≤ v.s) ∧ 1 ≤ b ∧ b ≤ v.s then opW ++ [32] ++ Lib.itoa a ++ [32] ++ Lib.itoa b else [])
      else if k = 3 then (if 1 ≤ r ∧ r ≤ 3 then reW ++ [32] ++ Lib.itoa r else []) else if trnT v a b ss = [] then [] else tuW ++ [32] ++ trnT v a b ss := by rw [← hR, ← hbb, ← hbl]; rfl
  have CB := Lib.hid (fun w9 => blank_s k a b n As cp r bl hbb w9)
  rw [hn]
  have HN := Lib.hid hn
  have HE := Lib.hid hev
  have HV := Lib.hid hv
  clear hR hbl hbb hev hr hn hv
  go_enter Tryz.func27, Tryz.ntmps27
  go_upto_region 1 with (fail)
  refine wp_gen (fun W' => Bve w W' v [.int .i64 k, .int .i64 a, .int .i64 b, .slice As n cp, .int .i64 r]) ⟨by go_grown, (RowB.new _ _ _).alloc _, RowB.new' _ _ _ (by simp)⟩ ?_
  intro w1 K
  obtain ⟨y0, y1, y2, y3, y4⟩ := K.re.c5
  have hle := K.re.lt
  go_wp2_with fail
  refine (CB.out _).mono ?_
  rintro e w2 ⟨rfl, hb⟩
  have K := K.below hb
  clear y0 y1 y2 y3 y4 hle hb CB
  cases bl
  case false =>
    obtain rfl : R = [] := by rw [HE.out]; rfl
    go_wp2_with fail
    go_ret
    exact ⟨rfl, K.bel⟩
  have HE2 : Hid (R = if k = 1 then (if (1 ≤ a ∧ a ≤ v.s) ∧ 1 ≤ b ∧ b ≤ v.s then opW ++ [32] ++ Lib.itoa a ++ [32] ++ Lib.itoa b else [])
      else if k = 3 then (if 1 ≤ r ∧ r ≤ 3 then reW ++ [32] ++ Lib.itoa r else []) else if trnT v a b ss = [] then [] else tuW ++ [32] ++ trnT v a b ss) := HE.out
  clear HE
  obtain ⟨c1, h1⟩ : ∃ c, decide (1 ≤ a ∧ a ≤ v.s) = c := ⟨_, rfl⟩
  obtain ⟨c2, h2⟩ : ∃ c, decide (1 ≤ b ∧ b ≤ v.s) = c := ⟨_, rfl⟩
  obtain ⟨c3, h3⟩ : ∃ c, decide (1 ≤ r ∧ r ≤ 3) = c := ⟨_, rfl⟩
  have C1 := Lib.hid (fun w => in_s a 1 v.s c1 h1 w)
  have C2 := Lib.hid (fun w => in_s b 1 v.s c2 h2 w)
  have C3 := Lib.hid (fun w => in_s r 1 3 c3 h3 w)
  have HC1 := Lib.hid h1
  have HC2 := Lib.hid h2
  have HC3 := Lib.hid h3
  clear h1 h2 h3
  obtain ⟨q0, q1, q2, q3⟩ := K.rv.c4
  obtain ⟨y0, y1, y2, y3, y4⟩ := K.re.c5
  have hlv := K.rv.lt
  have hle := K.re.lt
  by_cases k1 : k = 1
  · subst k1
    have HE4 : Hid (R = if (1 ≤ a ∧ a ≤ v.s) ∧ 1 ≤ b ∧ b ≤ v.s then opW ++ [32] ++ Lib.itoa a ++ [32] ++ Lib.itoa b else []) := HE2.out
    clear HE2
    go_wp2_with fail
    refine (C1.out _).mono ?_
    rintro e w3 ⟨rfl, rfl⟩
    cases c1
    case false =>
      obtain rfl : R = [] := by rw [HE4.out, if_neg (fun h => of_decide_eq_false HC1.out h.1)]
      clear HE4
      go_wp2_with fail
      go_ret
      exact ⟨rfl, K.bel⟩
    go_wp2_with fail
    refine (C2.out _).mono ?_
    rintro e w3 ⟨rfl, rfl⟩
    cases c2
    case false =>
      obtain rfl : R = [] := by rw [HE4.out, if_neg (fun h => of_decide_eq_false HC2.out h.2)]
      clear HE4
      go_wp2_with fail
      go_ret
      exact ⟨rfl, K.bel⟩
    have ha := of_decide_eq_true HC1.out
    have hb := of_decide_eq_true HC2.out
    have hp := okV_iff.1 HV.out
    have CA := Lib.hid (fun (w9 : World) => num_s a (by omega) (by omega) w9)
    have CB := Lib.hid (fun (w9 : World) => num_s b (by omega) (by omega) w9)
    have z1 := ito_len (n := a) (by omega) (by omega)
    have z2 := ito_len (n := b) (by omega) (by omega)
    obtain ⟨xa, hxa⟩ : ∃ z : ByteArray, bs (Lib.itoa a) = z := ⟨_, rfl⟩
    obtain ⟨xb, hxb⟩ : ∃ z : ByteArray, bs (Lib.itoa b) = z := ⟨_, rfl⟩
    rw [hxa] at CA
    rw [hxb] at CB
    have s1 : xa.size ≤ 2 := by rw [← hxa]; exact Nat.le_trans (Nat.le_of_eq (bs_size _)) z1.2
    have s2 : xb.size ≤ 2 := by rw [← hxb]; exact Nat.le_trans (Nat.le_of_eq (bs_size _)) z2.2
    have HI : Hid ((((⟨#[111, 112, 101, 110, 105, 110, 103, 32]⟩ : ByteArray) ++ xa) ++ (⟨#[32]⟩ : ByteArray)) ++ xb = bs R) := by
      show _ = _
      rw [HE4.out, if_pos ⟨ha, hb⟩, ← hxa, ← hxb]
      have g1 : (⟨#[111, 112, 101, 110, 105, 110, 103, 32]⟩ : ByteArray) = bs (opW ++ [32]) := rfl
      have g2 : (⟨#[32]⟩ : ByteArray) = bs [32] := rfl
      simp only [g1, g2, bs_cat]
    obtain ⟨T1, hT1⟩ : ∃ z, (⟨#[111, 112, 101, 110, 105, 110, 103, 32]⟩ : ByteArray) ++ xa = z := ⟨_, rfl⟩
    have u1 : T1.size ≤ 10 := by rw [← hT1, ByteArray.size_append]; show 8 + xa.size ≤ 10; omega
    obtain ⟨T2, hT2⟩ : ∃ z, T1 ++ (⟨#[32]⟩ : ByteArray) = z := ⟨_, rfl⟩
    have u2 : T2.size ≤ 11 := by rw [← hT2, ByteArray.size_append]; show T1.size + 1 ≤ 11; omega
    obtain ⟨T3, hT3⟩ : ∃ z, T2 ++ xb = z := ⟨_, rfl⟩
    rw [hT1, hT2, hT3] at HI
    have G1 : Hid (¬ 9223372036854775807 < 8 + xa.size) := Lib.hid (by omega)
    have G2 : Hid (¬ 9223372036854775807 < T1.size + 1) := Lib.hid (by omega)
    have G3 : Hid (¬ 9223372036854775807 < T2.size + xb.size) := Lib.hid (by omega)
    have HT1 := Lib.hid hT1
    have HT2 := Lib.hid hT2
    have HT3 := Lib.hid hT3
    have HK := Lib.hid K
    clear HE4 hxa hxb s1 s2 z1 z2 ha hb hp hT1 hT2 hT3 u1 u2 K q0 q1 q2 q3 y0 y1 y2 y3 y4 hlv hle
    go_wp2_with fail
    refine region_rel [some 25, some 26, some 27, some 28, some 29, some 30, some 31, some 32, some 33, some 4] 10 (Pl [some (.pointer (some ⟨w.heap.size + 1, 1, none⟩)), some (.int .i64 a), some (.string xa), some (.string T1), some (.string T2), some (.pointer (some ⟨w.heap.size + 1, 2, none⟩)), some (.int .i64 b), some (.string xb), some (.string T3), some (.string T3)]) (fun L vals w' => Below w2.heap.size w2 w') (by kernel_rfl) (by kernel_rfl) (by kernel_rfl) (by kernel_rfl) (by kernel_rfl) (by kernel_rfl) (by kernel_rfl) ?g0_1 ?gst_1 ?gfin_1
    case g0_1 => exact (Below.refl _ _).drew
    case gst_1 =>
      refine RelFrom.run rfl (fun L vals A w9 hno hdl hcl hu hp h0 F K hK => ?_) ?_
      · have e3 : A.tmps[3]?.getD undef = .pointer (some ⟨w.heap.size + 1, 0, none⟩) := h0 3 (fun j _ hj => absurd (List.mem_of_getElem? hj) (by decide))
        clear hu h0 hp
        have rr := (HK.out.re.below F HK.out.re.lt).c5
        have r1 := rr.2.1
        have r2 := rr.2.2.1
        clear rr
        have hs1 := G1.out
        have hs2 := G2.out
        have hs3 := G3.out
        have t1 := HT1.out
        have t2 := HT2.out
        have t3 := HT3.out
        go_simp
        exact hK.out _ w9 (Pl.fix rfl) (F)
      refine RelFrom.run rfl (fun L vals A w9 hno hdl hcl hu hp h0 F K hK => ?_) ?_
      · have e25 : A.tmps[25]?.getD undef = .pointer (some ⟨w.heap.size + 1, 1, none⟩) := (hu 0 25 (by kernel_rfl) rfl).trans (hp 0 (by kernel_rfl) _ rfl)
        clear hu h0 hp
        have rr := (HK.out.re.below F HK.out.re.lt).c5
        have r1 := rr.2.1
        have r2 := rr.2.2.1
        clear rr
        have hs1 := G1.out
        have hs2 := G2.out
        have hs3 := G3.out
        have t1 := HT1.out
        have t2 := HT2.out
        have t3 := HT3.out
        go_simp
        exact hK.out _ w9 (Pl.fix rfl) (F)
      refine RelFrom.run rfl (fun L vals A w9 hno hdl hcl hu hp h0 F K hK => ?_) ?_
      · have e26 : A.tmps[26]?.getD undef = .int .i64 a := (hu 1 26 (by kernel_rfl) rfl).trans (hp 1 (by kernel_rfl) _ rfl)
        clear hu h0 hp
        go_simp
        refine (CA.out w9).mono ?_
        rintro e w6 ⟨rfl, hb6⟩
        exact hK.out _ w6 (Pl.fix rfl) (F.trans (hb6.mono F.size))
      refine RelFrom.run rfl (fun L vals A w9 hno hdl hcl hu hp h0 F K hK => ?_) ?_
      · have e27 : A.tmps[27]?.getD undef = .string xa := (hu 2 27 (by kernel_rfl) rfl).trans (hp 2 (by kernel_rfl) _ rfl)
        clear hu h0 hp
        have rr := (HK.out.re.below F HK.out.re.lt).c5
        have r1 := rr.2.1
        have r2 := rr.2.2.1
        clear rr
        have hs1 := G1.out
        have hs2 := G2.out
        have hs3 := G3.out
        have t1 := HT1.out
        have t2 := HT2.out
        have t3 := HT3.out
        go_simp
        exact hK.out _ w9 (Pl.fix rfl) (F)
      refine RelFrom.run rfl (fun L vals A w9 hno hdl hcl hu hp h0 F K hK => ?_) ?_
      · have e28 : A.tmps[28]?.getD undef = .string T1 := (hu 3 28 (by kernel_rfl) rfl).trans (hp 3 (by kernel_rfl) _ rfl)
        clear hu h0 hp
        have rr := (HK.out.re.below F HK.out.re.lt).c5
        have r1 := rr.2.1
        have r2 := rr.2.2.1
        clear rr
        have hs1 := G1.out
        have hs2 := G2.out
        have hs3 := G3.out
        have t1 := HT1.out
        have t2 := HT2.out
        have t3 := HT3.out
        go_simp
        exact hK.out _ w9 (Pl.fix rfl) (F)
      refine RelFrom.run rfl (fun L vals A w9 hno hdl hcl hu hp h0 F K hK => ?_) ?_
      · have e3 : A.tmps[3]?.getD undef = .pointer (some ⟨w.heap.size + 1, 0, none⟩) := h0 3 (fun j _ hj => absurd (List.mem_of_getElem? hj) (by decide))
        clear hu h0 hp
        have rr := (HK.out.re.below F HK.out.re.lt).c5
        have r1 := rr.2.1
        have r2 := rr.2.2.1
        clear rr
        have hs1 := G1.out
        have hs2 := G2.out
        have hs3 := G3.out
        have t1 := HT1.out
        have t2 := HT2.out
        have t3 := HT3.out
        go_simp
        exact hK.out _ w9 (Pl.fix rfl) (F)
      refine RelFrom.run rfl (fun L vals A w9 hno hdl hcl hu hp h0 F K hK => ?_) ?_
      · have e30 : A.tmps[30]?.getD undef = .pointer (some ⟨w.heap.size + 1, 2, none⟩) := (hu 5 30 (by kernel_rfl) rfl).trans (hp 5 (by kernel_rfl) _ rfl)
        clear hu h0 hp
        have rr := (HK.out.re.below F HK.out.re.lt).c5
        have r1 := rr.2.1
        have r2 := rr.2.2.1
        clear rr
        have hs1 := G1.out
        have hs2 := G2.out
        have hs3 := G3.out
        have t1 := HT1.out
        have t2 := HT2.out
        have t3 := HT3.out
        go_simp
        exact hK.out _ w9 (Pl.fix rfl) (F)
      refine RelFrom.run rfl (fun L vals A w9 hno hdl hcl hu hp h0 F K hK => ?_) ?_
      · have e31 : A.tmps[31]?.getD undef = .int .i64 b := (hu 6 31 (by kernel_rfl) rfl).trans (hp 6 (by kernel_rfl) _ rfl)
        clear hu h0 hp
        go_simp
        refine (CB.out w9).mono ?_
        rintro e w6 ⟨rfl, hb6⟩
        exact hK.out _ w6 (Pl.fix rfl) (F.trans (hb6.mono F.size))
      refine RelFrom.run rfl (fun L vals A w9 hno hdl hcl hu hp h0 F K hK => ?_) ?_
      · have e29 : A.tmps[29]?.getD undef = .string T2 := (hu 4 29 (by kernel_rfl) rfl).trans (hp 4 (by kernel_rfl) _ rfl)
        have e32 : A.tmps[32]?.getD undef = .string xb := (hu 7 32 (by kernel_rfl) rfl).trans (hp 7 (by kernel_rfl) _ rfl)
        clear hu h0 hp
        have rr := (HK.out.re.below F HK.out.re.lt).c5
        have r1 := rr.2.1
        have r2 := rr.2.2.1
        clear rr
        have hs1 := G1.out
        have hs2 := G2.out
        have hs3 := G3.out
        have t1 := HT1.out
        have t2 := HT2.out
        have t3 := HT3.out
        go_simp
        exact hK.out _ w9 (Pl.fix rfl) (F)
      refine RelFrom.run rfl (fun L vals A w9 hno hdl hcl hu hp h0 F K hK => ?_) ?_
      · have e33 : A.tmps[33]?.getD undef = .string T3 := (hu 8 33 (by kernel_rfl) rfl).trans (hp 8 (by kernel_rfl) _ rfl)
        clear hu h0 hp
        have rr := (HK.out.re.below F HK.out.re.lt).c5
        have r1 := rr.2.1
        have r2 := rr.2.2.1
        clear rr
        have hs1 := G1.out
        have hs2 := G2.out
        have hs3 := G3.out
        have t1 := HT1.out
        have t2 := HT2.out
        have t3 := HT3.out
        go_simp
        exact hK.out _ w9 (Pl.fix rfl) (F)
      exact RelFrom.nil (by decide)
    case gfin_1 =>
      intro vals w9 hp F
      simp only [Fr, Act.put, List.setIfInBounds_toArray, List.set_cons_zero, List.set_cons_succ, Nat.reduceAdd]
      have h4 : vals 9 = .string T3 := hp 9 (by decide) _ rfl
      rw [h4, HI.out]
      have K := HK.out.below F
      clear F hp h4
      go_wp2_with fail
      go_ret
      exact ⟨rfl, K.bel⟩
  by_cases k3 : k = 3
  · subst k3
    have HE4 : Hid (R = if 1 ≤ r ∧ r ≤ 3 then reW ++ [32] ++ Lib.itoa r else []) := HE2.out
    clear HE2 k1
    go_wp2_with fail
    refine (C3.out _).mono ?_
    rintro e w3 ⟨rfl, rfl⟩
    cases c3
    case false =>
      obtain rfl : R = [] := by rw [HE4.out, if_neg (of_decide_eq_false HC3.out)]
      clear HE4
      go_wp2_with fail
      go_ret
      exact ⟨rfl, K.bel⟩
    have hrr := of_decide_eq_true HC3.out
    have CA := Lib.hid (fun (w9 : World) => num_s r (by omega) (by omega) w9)
    have z1 := ito_len (n := r) (by omega) (by omega)
    obtain ⟨xa, hxa⟩ : ∃ z : ByteArray, bs (Lib.itoa r) = z := ⟨_, rfl⟩
    rw [hxa] at CA
    have s1 : xa.size ≤ 2 := by rw [← hxa]; exact Nat.le_trans (Nat.le_of_eq (bs_size _)) z1.2
    have HI : Hid ((⟨#[114, 101, 115, 105, 103, 110, 32]⟩ : ByteArray) ++ xa = bs R) := by
      show _ = _
      rw [HE4.out, if_pos hrr, ← hxa]
      exact bs_cat (reW ++ [32]) _
    have HI2 : Hid (Ending.returned (.string ((⟨#[114, 101, 115, 105, 103, 110, 32]⟩ : ByteArray) ++ xa)) = Ending.returned (.string (bs R))) := by show _ = _; rw [HI.out]
    have g1 : ¬ 9223372036854775807 < 7 + xa.size := by omega
    clear HE4 hxa z1 hrr HI
    go_wp2_with fail
    refine (CA.out _).mono ?_
    rintro e w4 ⟨rfl, hb⟩
    have K := K.below hb
    go_wp2_with fail
    go_ret
    exact ⟨HI2.out, K.bel⟩
  have HE3 : Hid (R = if trnT v a b ss = [] then [] else tuW ++ [32] ++ trnT v a b ss) := by show _ = _; rw [HE2.out, if_neg k1, if_neg k3]
  have d1 : (k == 1) = false := by simp [k1]
  have d3 : (k == 3) = false := by simp [k3]
  clear HE2 k1 k3
  have CT := Lib.hid (fun (w9 : World) (h9 : Below w.heap.size w w9) => turn_s v HV.out a b As cp B ss w9 (Nat.le_trans hB h9.size) (HRD.out.below h9 hB))
  obtain ⟨S, hS⟩ : ∃ s, trnT v a b ss = s := ⟨_, rfl⟩
  have hl := trnT_len HV.out a b ss
  rw [hS] at HE3 CT hl
  rw [HN.out] at CT
  clear hS
  go_wp2_with fail
  refine (CT.out _ K.bel).mono ?_
  rintro e w3 ⟨rfl, hb⟩
  have K := K.below hb
  clear q0 q1 q2 q3 y0 y1 y2 y3 y4 hlv hle hb CT
  by_cases hS0 : S = []
  · obtain rfl : R = [] := by rw [HE3.out, if_pos hS0]
    have e0 : (bs S).toList.isEmpty = true := by rw [ByteArray.toList_eq, bs_data, hS0]; rfl
    clear HE3 hS0
    go_wp2_with fail
    go_ret
    exact ⟨rfl, K.bel⟩
  have e0 : (bs S).toList.isEmpty = false := by rw [ByteArray.toList_eq, bs_data]; cases S with | nil => exact absurd rfl hS0 | cons a l => rfl
  have HI : Hid ((⟨#[116, 117, 114, 110, 32]⟩ : ByteArray) ++ bs S = bs R) := by
    show _ = _
    rw [HE3.out, if_neg hS0]
    exact bs_cat (tuW ++ [32]) S
  have zS : (bs S).size ≤ 54 := by rw [bs_size]; exact hl
  obtain ⟨sb, hsb⟩ : ∃ z, bs S = z := ⟨_, rfl⟩
  rw [hsb] at HI e0 zS ⊢
  have HI2 : Hid (Ending.returned (.string ((⟨#[116, 117, 114, 110, 32]⟩ : ByteArray) ++ sb)) = Ending.returned (.string (bs R))) := by show _ = _; rw [HI.out]
  have g1 : ¬ 9223372036854775807 < 5 + sb.size := by omega
  clear HE3 hS0 hsb HI hl
  go_wp2_with fail
  go_ret
  exact ⟨HI2.out, K.bel⟩
set_option maxHeartbeats 1000000 in
set_option maxRecDepth 100000 in
theorem event_s (v : Vr) (k a b : Int) (ss : List Stp) (r : Int) (As : Option Addr) (cp B : Nat) (w : World) (hB : B ≤ w.heap.size) (hr : RdS w B 4 enSt As ss) :
    Calls Tryz.prog 8 #[.agg #[.int .i64 v.p, .int .i64 v.c, .int .i64 v.h, .int .i64 v.s], .agg #[.int .i64 k, .int .i64 a, .int .i64 b, .slice As ss.length cp, .int .i64 r]] w fun e w' => e = .returned (.string (bs (if okV v = true then evnT v ⟨k, a, b, ss, r⟩ else []))) ∧ Below w.heap.size w w' := by
  obtain ⟨ok, hok⟩ : ∃ o, okV v = o := ⟨_, rfl⟩
  have CV := Lib.hid (fun w9 => var_s v ok hok w9)
  have CE := Lib.hid (fun (hv : okV v = true) (w9 : World) (h9 : Below w.heap.size w w9) => levent_s v hv k a b ss r As cp B w9 (Nat.le_trans hB h9.size) (hr.below h9 hB))
  rw [hok]
  obtain ⟨n, hn⟩ : ∃ n, ss.length = n := ⟨_, rfl⟩
  rw [hn] at CE ⊢
  have HO := Lib.hid hok
  clear hok hr hn
  go_enter Tryz.func8, Tryz.ntmps8
  go_upto_region 1 with (fail)
  refine wp_gen (fun W' => Bve w W' v [.int .i64 k, .int .i64 a, .int .i64 b, .slice As n cp, .int .i64 r]) ⟨by go_grown, (RowB.new _ _ _).alloc _, RowB.new' _ _ _ (by simp)⟩ ?_
  intro w1 K
  obtain ⟨q0, q1, q2, q3⟩ := K.rv.c4
  have hlv := K.rv.lt
  go_wp2_with fail
  refine (CV.out _).mono ?_
  rintro e w2 ⟨rfl, hb⟩
  have K := K.below hb
  clear q0 q1 q2 q3 hlv hb CV
  cases ok
  · go_wp2_with fail
    go_ret
    exact ⟨rfl, K.bel⟩
  obtain ⟨q0, q1, q2, q3⟩ := K.rv.c4
  obtain ⟨y0, y1, y2, y3, y4⟩ := K.re.c5
  have hlv := K.rv.lt
  have hle := K.re.lt
  go_wp2_with fail
  refine (CE.out HO.out _ K.bel).mono ?_
  rintro e w3 ⟨rfl, hb⟩
  have K := K.below hb
  go_wp2_with fail
  go_ret
  exact ⟨rfl, K.bel⟩
end Go.Proofs.YtlfdcefgelpgmaaGreatDoor.TsI
