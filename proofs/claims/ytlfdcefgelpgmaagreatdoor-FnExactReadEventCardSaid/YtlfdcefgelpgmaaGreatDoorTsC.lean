/-
  Texts of turns and events, of the reference: what its functions return. Conditions: each theorem's own.
-/
import Derived.Test.YtlfdcefgelpgmaaGreatDoorTsB
import Derived.Test.YtlfdcefgelpgmaaGreatDoorTxR
set_option linter.unusedVariables false
set_option linter.unusedSimpArgs false
namespace Go.Proofs.YtlfdcefgelpgmaaGreatDoor.TsI
open Go.ChangeShapes Go.WideShapes Go.ChangeAt Go.RowKit Base Ints Own JoinN PlP TxP Num Bd1 Bd5 RegF RegG TxI

theorem roll_sg (v : Vr) (hv : okV v = true) (x y : Int) (w : World) :
    Calls Tryz.prog 70 #[.agg #[.int .i64 v.p, .int .i64 v.c, .int .i64 v.h, .int .i64 v.s], .agg #[.int .i64 x, .int .i64 y]] w fun e w' => e = .returned (.string (bs (if rollB v x y = true then rolT x y else []))) ∧ Below w.heap.size w w' := by
  cases hc : rollB v x y with
  | true => exact roll_s v hv x y hc w
  | false =>
    have CR := Lib.hid (fun w9 => isroll_ws v hv x y false hc w9)
    clear hc
    go_enter Tryz.func70, Tryz.ntmps70
    go_upto_region 1 with (fail)
    refine wp_gen (fun W' => Bvr w W' v x y) ⟨by go_grown, (RowB.new _ _ _).alloc _, RowB.new' _ _ _ (by simp)⟩ ?_
    intro w1 K
    obtain ⟨q0, q1, q2, q3⟩ := K.rv.c4
    obtain ⟨r0, r1⟩ := K.rr.c2
    have hlv := K.rv.lt
    have hlr := K.rr.lt
    go_wp2_with fail
    refine (CR.out _).mono ?_
    rintro e w2 ⟨rfl, hb⟩
    have K := K.below hb
    clear q0 q1 q2 q3 r0 r1 hlv hlr hb CR
    go_wp2_with fail
    go_ret
    exact ⟨rfl, K.bel⟩
set_option maxHeartbeats 2000000 in
set_option maxRecDepth 100000 in
theorem turn_s (v : Vr) (hv : okV v = true) (x y : Int) (As : Option Addr) (cp B : Nat) (ss : List Stp) (w : World) (hB : B ≤ w.heap.size) (hr : RdS w B 4 enSt As ss) :
    Calls Tryz.prog 49 #[.agg #[.int .i64 v.p, .int .i64 v.c, .int .i64 v.h, .int .i64 v.s], .agg #[.int .i64 x, .int .i64 y], .slice As ss.length cp] w fun e w' => e = .returned (.string (bs (trnT v x y ss))) ∧ Below w.heap.size w w' := by
  obtain ⟨S, hS⟩ : ∃ s, stpsT v ss = s := ⟨_, rfl⟩
  have CS := Lib.hid (fun (w9 : World) (h9 : Below w.heap.size w w9) => steps_s v As cp B ss S (by rw [hv]; exact hS) w9 (Nat.le_trans hB h9.size) (hr.below h9 hB))
  obtain ⟨P, hP⟩ : ∃ p, (if rollB v x y = true then rolT x y else []) = p := ⟨_, rfl⟩
  have CR := Lib.hid (fun w9 => roll_sg v hv x y w9)
  rw [hP] at CR
  have hT : trnT v x y ss = if P ≠ [] ∧ S ≠ [] then P ++ [58, 32] ++ S else [] := by
    unfold trnT
    rw [hS]
    cases hc : rollB v x y with
    | false => rw [hc] at hP; subst hP; simp
    | true =>
      rw [hc] at hP
      have : P ≠ [] := by rw [← hP]; simp only [if_true]; rw [rolT_at hv hc]; simp
      simp only [true_and, this, ne_eq, not_false_eq_true]
      rw [← hP]; simp
  have hPl : P.length ≤ 2 := by
    rw [← hP]
    split
    · rename_i hc; rw [rolT_at hv hc]; simp
    · simp
  obtain ⟨R, hR⟩ : ∃ r, trnT v x y ss = r := ⟨_, rfl⟩
  rw [hR] at hT ⊢
  obtain ⟨n, hn⟩ : ∃ n, ss.length = n := ⟨_, rfl⟩
  rw [hn] at CS ⊢
  have hlS := stpsT_len hv (ss := ss)
  rw [hS] at hlS
  have HT := Lib.hid hT
  have HL := Lib.hid (And.intro hlS hPl)
  clear hT hR hS hn hr hv hlS hP hPl
  go_enter Tryz.func49, Tryz.ntmps49
  go_upto_region 1 with (fail)
  refine wp_gen (fun W' => Bvr w W' v x y) ⟨by go_grown, (RowB.new _ _ _).alloc _, RowB.new' _ _ _ (by simp)⟩ ?_
  intro w1 K
  have HK := Lib.hid K
  clear K
  go_wp2_with fail
  refine region_rel [some 9, some 10, some 11, some 12, some 13, some 14, some 7, some 8] 8 (Pl [some (.agg #[.int .i64 v.p, .int .i64 v.c, .int .i64 v.h, .int .i64 v.s]), some (.agg #[.int .i64 x, .int .i64 y]), some (.string (bs P)), some (.agg #[.int .i64 v.p, .int .i64 v.c, .int .i64 v.h, .int .i64 v.s]), some (.slice As n cp), some (.string (bs S)), some (.string (bs P)), some (.string (bs S))]) (fun L vals w' => Below w1.heap.size w1 w') (by kernel_rfl) (by kernel_rfl) (by kernel_rfl) (by kernel_rfl) (by kernel_rfl) (by kernel_rfl) (by kernel_rfl) ?g0_1 ?gst_1 ?gfin_1
  case g0_1 => exact (Below.refl _ _).drew
  case gst_1 =>
    refine RelFrom.run rfl (fun L vals A w9 hno hdl hcl hu hp h0 F K hK => ?_) ?_
    · have e3 : A.tmps[3]?.getD undef = .pointer (some ⟨w.heap.size, 0, none⟩) := h0 3 (fun j _ hj => absurd (List.mem_of_getElem? hj) (by decide))
      clear hu h0 hp
      have KK := HK.out.below F
      have rq := KK.rv.c4
      have q0 := rq.1
      have q1 := rq.2.1
      have q2 := rq.2.2.1
      have q3 := rq.2.2.2
      have rr := KK.rr.c2
      have r0 := rr.1
      have r1 := rr.2
      have hlv := KK.rv.lt
      have hlr := KK.rr.lt
      clear KK rq rr
      go_simp
      exact hK.out _ w9 (Pl.fix rfl) (F)
    refine RelFrom.run rfl (fun L vals A w9 hno hdl hcl hu hp h0 F K hK => ?_) ?_
    · have e4 : A.tmps[4]?.getD undef = .pointer (some ⟨w.heap.size + 1, 0, none⟩) := h0 4 (fun j _ hj => absurd (List.mem_of_getElem? hj) (by decide))
      clear hu h0 hp
      have KK := HK.out.below F
      have rq := KK.rv.c4
      have q0 := rq.1
      have q1 := rq.2.1
      have q2 := rq.2.2.1
      have q3 := rq.2.2.2
      have rr := KK.rr.c2
      have r0 := rr.1
      have r1 := rr.2
      have hlv := KK.rv.lt
      have hlr := KK.rr.lt
      clear KK rq rr
      go_simp
      exact hK.out _ w9 (Pl.fix rfl) (F)
    refine RelFrom.run rfl (fun L vals A w9 hno hdl hcl hu hp h0 F K hK => ?_) ?_
    · have e9 : A.tmps[9]?.getD undef = .agg #[.int .i64 v.p, .int .i64 v.c, .int .i64 v.h, .int .i64 v.s] := (hu 0 9 (by kernel_rfl) rfl).trans (hp 0 (by kernel_rfl) _ rfl)
      have e10 : A.tmps[10]?.getD undef = .agg #[.int .i64 x, .int .i64 y] := (hu 1 10 (by kernel_rfl) rfl).trans (hp 1 (by kernel_rfl) _ rfl)
      clear hu h0 hp
      go_simp
      refine (CR.out w9).mono ?_
      rintro e w6 ⟨rfl, hb6⟩
      exact hK.out _ w6 (Pl.fix rfl) (F.trans (hb6.mono F.size))
    refine RelFrom.run rfl (fun L vals A w9 hno hdl hcl hu hp h0 F K hK => ?_) ?_
    · have e3 : A.tmps[3]?.getD undef = .pointer (some ⟨w.heap.size, 0, none⟩) := h0 3 (fun j _ hj => absurd (List.mem_of_getElem? hj) (by decide))
      clear hu h0 hp
      have KK := HK.out.below F
      have rq := KK.rv.c4
      have q0 := rq.1
      have q1 := rq.2.1
      have q2 := rq.2.2.1
      have q3 := rq.2.2.2
      have rr := KK.rr.c2
      have r0 := rr.1
      have r1 := rr.2
      have hlv := KK.rv.lt
      have hlr := KK.rr.lt
      clear KK rq rr
      go_simp
      exact hK.out _ w9 (Pl.fix rfl) (F)
    refine RelFrom.run rfl (fun L vals A w9 hno hdl hcl hu hp h0 F K hK => ?_) ?_
    · have e2 : A.tmps[2]?.getD undef = .slice As n cp := h0 2 (fun j _ hj => absurd (List.mem_of_getElem? hj) (by decide))
      clear hu h0 hp
      have KK := HK.out.below F
      have rq := KK.rv.c4
      have q0 := rq.1
      have q1 := rq.2.1
      have q2 := rq.2.2.1
      have q3 := rq.2.2.2
      have rr := KK.rr.c2
      have r0 := rr.1
      have r1 := rr.2
      have hlv := KK.rv.lt
      have hlr := KK.rr.lt
      clear KK rq rr
      go_simp
      exact hK.out _ w9 (Pl.fix rfl) (F)
    refine RelFrom.run rfl (fun L vals A w9 hno hdl hcl hu hp h0 F K hK => ?_) ?_
    · have e12 : A.tmps[12]?.getD undef = .agg #[.int .i64 v.p, .int .i64 v.c, .int .i64 v.h, .int .i64 v.s] := (hu 3 12 (by kernel_rfl) rfl).trans (hp 3 (by kernel_rfl) _ rfl)
      have e13 : A.tmps[13]?.getD undef = .slice As n cp := (hu 4 13 (by kernel_rfl) rfl).trans (hp 4 (by kernel_rfl) _ rfl)
      clear hu h0 hp
      go_simp
      refine (CS.out w9 (HK.out.bel.trans (F.mono HK.out.bel.size))).mono ?_
      rintro e w6 ⟨rfl, hb6⟩
      exact hK.out _ w6 (Pl.fix rfl) (F.trans (hb6.mono F.size))
    refine RelFrom.run rfl (fun L vals A w9 hno hdl hcl hu hp h0 F K hK => ?_) ?_
    · have e11 : A.tmps[11]?.getD undef = .string (bs P) := (hu 2 11 (by kernel_rfl) rfl).trans (hp 2 (by kernel_rfl) _ rfl)
      clear hu h0 hp
      have KK := HK.out.below F
      have rq := KK.rv.c4
      have q0 := rq.1
      have q1 := rq.2.1
      have q2 := rq.2.2.1
      have q3 := rq.2.2.2
      have rr := KK.rr.c2
      have r0 := rr.1
      have r1 := rr.2
      have hlv := KK.rv.lt
      have hlr := KK.rr.lt
      clear KK rq rr
      go_simp
      exact hK.out _ w9 (Pl.fix rfl) (F)
    refine RelFrom.run rfl (fun L vals A w9 hno hdl hcl hu hp h0 F K hK => ?_) ?_
    · have e14 : A.tmps[14]?.getD undef = .string (bs S) := (hu 5 14 (by kernel_rfl) rfl).trans (hp 5 (by kernel_rfl) _ rfl)
      clear hu h0 hp
      have KK := HK.out.below F
      have rq := KK.rv.c4
      have q0 := rq.1
      have q1 := rq.2.1
      have q2 := rq.2.2.1
      have q3 := rq.2.2.2
      have rr := KK.rr.c2
      have r0 := rr.1
      have r1 := rr.2
      have hlv := KK.rv.lt
      have hlr := KK.rr.lt
      clear KK rq rr
      go_simp
      exact hK.out _ w9 (Pl.fix rfl) (F)
    exact RelFrom.nil (by decide)
  case gfin_1 =>
    intro vals w9 hp F
    simp only [Fr, Act.put, List.setIfInBounds_toArray, List.set_cons_zero, List.set_cons_succ, Nat.reduceAdd]
    have h7 : vals 6 = .string (bs P) := hp 6 (by decide) _ rfl
    have h8 : vals 7 = .string (bs S) := hp 7 (by decide) _ rfl
    rw [h7, h8]
    have bel := (HK.out.below F).bel
    clear F hp h7 h8 CR CS HK
    by_cases hP0 : P = []
    · have hRn : R = [] := by rw [HT.out, if_neg (fun h => h.1 hP0)]
      subst hRn
      have e0 : (bs P).toList.isEmpty = true := by rw [ByteArray.toList_eq, bs_data, hP0]; rfl
      clear HT hP0
      go_wp2_with fail
      go_ret
      exact ⟨rfl, bel⟩
    have e0 : (bs P).toList.isEmpty = false := by rw [ByteArray.toList_eq, bs_data]; cases P with | nil => exact absurd rfl hP0 | cons a l => rfl
    by_cases hS0 : S = []
    · have hRn : R = [] := by rw [HT.out, if_neg (fun h => h.2 hS0)]
      subst hRn
      have e1 : (bs S).toList.isEmpty = true := by rw [ByteArray.toList_eq, bs_data, hS0]; rfl
      clear HT hS0 hP0
      go_wp2_with fail
      go_ret
      exact ⟨rfl, bel⟩
    have e1 : (bs S).toList.isEmpty = false := by rw [ByteArray.toList_eq, bs_data]; cases S with | nil => exact absurd rfl hS0 | cons a l => rfl
    have hRn : R = P ++ [58, 32] ++ S := by rw [HT.out, if_pos ⟨hP0, hS0⟩]
    have HI : Hid ((bs P ++ (⟨#[58, 32]⟩ : ByteArray)) ++ bs S = bs R) := by
      show _ = _
      have q1 : (⟨#[58, 32]⟩ : ByteArray) = bs [58, 32] := rfl
      rw [q1, bs_cat, bs_cat, hRn]
    have z1 : (bs P).size ≤ 2 := by rw [bs_size]; exact HL.out.2
    have z2 : (bs S).size ≤ 50 := by rw [bs_size]; exact HL.out.1
    have HI2 : Hid (Ending.returned (.string ((bs P ++ (⟨#[58, 32]⟩ : ByteArray)) ++ bs S)) = Ending.returned (.string (bs R))) := by show _ = _; rw [HI.out]
    have g1 : ¬ 9223372036854775807 < (bs P).size + 2 := by omega
    have g2 : ¬ 9223372036854775807 < (bs P).size + 2 + (bs S).size := by omega
    clear HT hS0 hP0 hRn HI
    go_wp2_with fail
    go_ret
    exact ⟨HI2.out, bel⟩
set_option maxHeartbeats 1000000 in
set_option maxRecDepth 100000 in
theorem blank_s (k a b : Int) (n : Nat) (A : Option Addr) (cp : Nat) (r : Int) (c : Bool) (hc : (if k = 1 then decide (n = 0 ∧ r = 0) else if k = 2 then decide (r = 0) else if k = 3 then decide (a = 0 ∧ b = 0 ∧ n = 0) else false) = c) (w : World) :
    Calls Tryz.prog 47 #[.agg #[.int .i64 k, .int .i64 a, .int .i64 b, .slice A n cp, .int .i64 r]] w fun e w' => e = .returned (.bool c) ∧ Below w.heap.size w w' := by
  have HC := Lib.hid hc
  clear hc
  by_cases k1 : k = 1
  · subst k1
    have hc : decide (n = 0 ∧ r = 0) = c := HC.out
    clear HC
    by_cases n0 : n = 0
    · have d0 : ((n : Int) == 0) = true := by simp [n0]
      by_cases r0 : r = 0
      · have d1 : (r == 0) = true := by simp [r0]
        obtain rfl : c = true := by rw [← hc]; exact decide_eq_true ⟨n0, r0⟩
        clear hc n0 r0
        go_enter Tryz.func47, Tryz.ntmps47
        go_wp2_with fail
        go_ret
        exact ⟨rfl, by go_grown⟩
      · have d1 : (r == 0) = false := by simp [r0]
        obtain rfl : c = false := by rw [← hc]; exact decide_eq_false (fun h => r0 h.2)
        clear hc n0 r0
        go_enter Tryz.func47, Tryz.ntmps47
        go_wp2_with fail
        go_ret
        exact ⟨rfl, by go_grown⟩
    · have d0 : ((n : Int) == 0) = false := by simp; omega
      obtain rfl : c = false := by rw [← hc]; exact decide_eq_false (fun h => n0 h.1)
      clear hc n0
      go_enter Tryz.func47, Tryz.ntmps47
      go_wp2_with fail
      go_ret
      exact ⟨rfl, by go_grown⟩
  by_cases k2 : k = 2
  · subst k2
    have hc : decide (r = 0) = c := HC.out
    clear HC k1
    by_cases r0 : r = 0
    · have d1 : (r == 0) = true := by simp [r0]
      obtain rfl : c = true := by rw [← hc]; exact decide_eq_true r0
      clear hc r0
      go_enter Tryz.func47, Tryz.ntmps47
      go_wp2_with fail
      go_ret
      exact ⟨rfl, by go_grown⟩
    · have d1 : (r == 0) = false := by simp [r0]
      obtain rfl : c = false := by rw [← hc]; exact decide_eq_false r0
      clear hc r0
      go_enter Tryz.func47, Tryz.ntmps47
      go_wp2_with fail
      go_ret
      exact ⟨rfl, by go_grown⟩
  by_cases k3 : k = 3
  · subst k3
    have hc : decide (a = 0 ∧ b = 0 ∧ n = 0) = c := HC.out
    clear HC k1 k2
    by_cases a0 : a = 0
    · have d1 : (a == 0) = true := by simp [a0]
      by_cases b0 : b = 0
      · have d2 : (b == 0) = true := by simp [b0]
        by_cases n0 : n = 0
        · have d0 : ((n : Int) == 0) = true := by simp [n0]
          obtain rfl : c = true := by rw [← hc]; exact decide_eq_true ⟨a0, b0, n0⟩
          clear hc n0 a0 b0
          go_enter Tryz.func47, Tryz.ntmps47
          go_wp2_with fail
          go_ret
          exact ⟨rfl, by go_grown⟩
        · have d0 : ((n : Int) == 0) = false := by simp; omega
          obtain rfl : c = false := by rw [← hc]; exact decide_eq_false (fun h => n0 h.2.2)
          clear hc n0 a0 b0
          go_enter Tryz.func47, Tryz.ntmps47
          go_wp2_with fail
          go_ret
          exact ⟨rfl, by go_grown⟩
      · have d2 : (b == 0) = false := by simp [b0]
        obtain rfl : c = false := by rw [← hc]; exact decide_eq_false (fun h => b0 h.2.1)
        clear hc a0 b0
        go_enter Tryz.func47, Tryz.ntmps47
        go_wp2_with fail
        go_ret
        exact ⟨rfl, by go_grown⟩
    · have d1 : (a == 0) = false := by simp [a0]
      obtain rfl : c = false := by rw [← hc]; exact decide_eq_false (fun h => a0 h.1)
      clear hc a0
      go_enter Tryz.func47, Tryz.ntmps47
      go_wp2_with fail
      go_ret
      exact ⟨rfl, by go_grown⟩
  obtain rfl : c = false := by rw [← HC.out]; simp [k1, k2, k3]
  have d1 : (k == 1) = false := by simp [k1]
  have d2 : (k == 2) = false := by simp [k2]
  have d3 : (k == 3) = false := by simp [k3]
  clear HC k1 k2 k3
  go_enter Tryz.func47, Tryz.ntmps47
  go_wp2_with fail
  go_ret
  exact ⟨rfl, by go_grown⟩
end Go.Proofs.YtlfdcefgelpgmaaGreatDoor.TsI
