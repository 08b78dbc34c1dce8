/-
  impl.RollText, impl.TurnText, impl.ReadTurn: what they return. Conditions: each theorem's own.
-/
import Derived.Test.YtlfdcefgelpgmaaGreatDoorTxK
import Derived.Test.YtlfdcefgelpgmaaGreatDoorTxL
import Derived.Test.YtlfdcefgelpgmaaGreatDoorTxN
set_option linter.unusedVariables false
set_option linter.unusedSimpArgs false
namespace Go.Proofs.YtlfdcefgelpgmaaGreatDoor.TxI
open Go.ChangeShapes Go.WideShapes Go.ChangeAt Go.RowKit Base Ints Own JoinN PlP TxP Num Bd1 Bd5 RegF RegG

/-- The boxes of a variant and a roll. -/
structure Bvr (w wr : World) (v : Vr) (x y : Int) : Prop where
  bel : Below w.heap.size w wr
  rv : RowB wr w.heap.size 25 [.int .i64 v.p, .int .i64 v.c, .int .i64 v.h, .int .i64 v.s]
  rr : RowB wr (w.heap.size + 1) 49 [.int .i64 x, .int .i64 y]
theorem Bvr.below {w wr w' : World} {v : Vr} {x y : Int} (k : Bvr w wr v x y) (hb : Below wr.heap.size wr w') : Bvr w w' v x y :=
  ⟨k.bel.trans (hb.mono k.bel.size), k.rv.below hb k.rv.lt, k.rr.below hb k.rr.lt⟩
set_option maxHeartbeats 1000000 in
set_option maxRecDepth 100000 in
theorem roll_i (v : Vr) (hv : okV v = true) (x y : Int) (hr : rollB v x y = true) (w : World) (E : Env w) :
    Calls Tryz.prog 45 #[.agg #[.int .i64 v.p, .int .i64 v.c, .int .i64 v.h, .int .i64 v.s], .agg #[.int .i64 x, .int .i64 y]] w fun e w' => e = .returned (.string (bs (rolT x y))) ∧ Below w.heap.size w w' := by
  have hp := okV_iff.1 hv
  have h1 := roll_parts hr
  have CR := Lib.hid (fun w9 => isroll_w v hv x y true hr w9)
  have CA := Lib.hid (fun (w9 : World) (E9 : Env w9) => decimalZ x (by omega) (by omega) w9 E9.tab)
  have CB := Lib.hid (fun (w9 : World) (E9 : Env w9) => decimalZ y (by omega) (by omega) w9 E9.tab)
  have z1 := ito_len (n := x) (by omega) (by omega)
  have z2 := ito_len (n := y) (by omega) (by omega)
  obtain ⟨xa, hxa⟩ : ∃ z : ByteArray, (⟨(Lib.itoa x).toArray⟩ : ByteArray) = z := ⟨_, rfl⟩
  obtain ⟨xb, hxb⟩ : ∃ z : ByteArray, (⟨(Lib.itoa y).toArray⟩ : ByteArray) = z := ⟨_, rfl⟩
  rw [hxa] at CA
  rw [hxb] at CB
  have s1 : xa.size ≤ 2 := by rw [← hxa]; exact Nat.le_trans (Nat.le_of_eq (bs_size _)) z1.2
  have s2 : xb.size ≤ 2 := by rw [← hxb]; exact Nat.le_trans (Nat.le_of_eq (bs_size _)) z2.2
  have HS : Hid (¬ 9223372036854775807 < xa.size + xb.size) := Lib.hid (by omega)
  have HI : Hid (xa ++ xb = bs (rolT x y)) := by
    show _ = _
    rw [← hxa, ← hxb]
    exact bs_cat _ _
  obtain ⟨R, hR⟩ : ∃ r, bs (rolT x y) = r := ⟨_, rfl⟩
  rw [hR] at HI ⊢
  clear hxa hxb s1 s2 z1 z2 h1 hp hv hr hR
  go_enter Tryz.func45, Tryz.ntmps45
  go_upto_region 1 with (fail)
  refine wp_gen (fun W' => Bvr w W' v x y) ⟨by go_grown, (RowB.new _ _ _).alloc _, RowB.new' _ _ _ (by simp)⟩ ?_
  intro w1 K
  obtain ⟨q0, q1, q2, q3⟩ := K.rv.c4
  obtain ⟨r0, r1⟩ := K.rr.c2
  have hlv := K.rv.lt
  have hlr := K.rr.lt
  go_wp2_with fail
  refine (CR.out _).mono ?_
  rintro e w2 ⟨rfl, hb⟩
  have K := K.below hb
  clear q0 q1 q2 q3 r0 r1 hlv hlr hb CR
  have HK := Lib.hid K
  clear K
  go_wp2_with fail
  refine region_rel [some 9, some 10, some 11, some 12, some 13, some 14, some 15, some 4] 8 (Pl [some (.pointer (some ⟨w.heap.size + 1, 0, none⟩)), some (.int .i64 x), some (.string xa), some (.pointer (some ⟨w.heap.size + 1, 1, none⟩)), some (.int .i64 y), some (.string xb), some (.string (xa ++ xb)), some (.string (xa ++ xb))]) (fun L vals w' => Below w2.heap.size w2 w') (by kernel_rfl) (by kernel_rfl) (by kernel_rfl) (by kernel_rfl) (by kernel_rfl) (by kernel_rfl) (by kernel_rfl) ?g0_2 ?gst_2 ?gfin_2
  case g0_2 => exact (Below.refl _ _).drew
  case gst_2 =>
    refine RelFrom.run rfl (fun L vals A w9 hno hdl hcl hu hp h0 F K hK => ?_) ?_
    · have e3 : A.tmps[3]?.getD undef = .pointer (some ⟨w.heap.size + 1, 0, none⟩) := h0 3 (fun j _ hj => absurd (List.mem_of_getElem? hj) (by decide))
      clear hu h0 hp
      have rr := (HK.out.rr.below F HK.out.rr.lt).c2
      have r0 := rr.1
      have r1 := rr.2
      clear rr
      have hs := HS.out
      go_simp
      exact hK.out _ w9 (Pl.fix rfl) (F)
    refine RelFrom.run rfl (fun L vals A w9 hno hdl hcl hu hp h0 F K hK => ?_) ?_
    · have e9 : A.tmps[9]?.getD undef = .pointer (some ⟨w.heap.size + 1, 0, none⟩) := (hu 0 9 (by kernel_rfl) rfl).trans (hp 0 (by kernel_rfl) _ rfl)
      clear hu h0 hp
      have rr := (HK.out.rr.below F HK.out.rr.lt).c2
      have r0 := rr.1
      have r1 := rr.2
      clear rr
      have hs := HS.out
      go_simp
      exact hK.out _ w9 (Pl.fix rfl) (F)
    refine RelFrom.run rfl (fun L vals A w9 hno hdl hcl hu hp h0 F K hK => ?_) ?_
    · have e10 : A.tmps[10]?.getD undef = .int .i64 x := (hu 1 10 (by kernel_rfl) rfl).trans (hp 1 (by kernel_rfl) _ rfl)
      clear hu h0 hp
      go_simp
      refine (CA.out w9 (E.below (HK.out.bel.trans (F.mono HK.out.bel.size)))).mono ?_
      rintro e w6 ⟨rfl, hb6⟩
      exact hK.out _ w6 (Pl.fix rfl) (F.trans (hb6.mono F.size))
    refine RelFrom.run rfl (fun L vals A w9 hno hdl hcl hu hp h0 F K hK => ?_) ?_
    · have e3 : A.tmps[3]?.getD undef = .pointer (some ⟨w.heap.size + 1, 0, none⟩) := h0 3 (fun j _ hj => absurd (List.mem_of_getElem? hj) (by decide))
      clear hu h0 hp
      have rr := (HK.out.rr.below F HK.out.rr.lt).c2
      have r0 := rr.1
      have r1 := rr.2
      clear rr
      have hs := HS.out
      go_simp
      exact hK.out _ w9 (Pl.fix rfl) (F)
    refine RelFrom.run rfl (fun L vals A w9 hno hdl hcl hu hp h0 F K hK => ?_) ?_
    · have e12 : A.tmps[12]?.getD undef = .pointer (some ⟨w.heap.size + 1, 1, none⟩) := (hu 3 12 (by kernel_rfl) rfl).trans (hp 3 (by kernel_rfl) _ rfl)
      clear hu h0 hp
      have rr := (HK.out.rr.below F HK.out.rr.lt).c2
      have r0 := rr.1
      have r1 := rr.2
      clear rr
      have hs := HS.out
      go_simp
      exact hK.out _ w9 (Pl.fix rfl) (F)
    refine RelFrom.run rfl (fun L vals A w9 hno hdl hcl hu hp h0 F K hK => ?_) ?_
    · have e13 : A.tmps[13]?.getD undef = .int .i64 y := (hu 4 13 (by kernel_rfl) rfl).trans (hp 4 (by kernel_rfl) _ rfl)
      clear hu h0 hp
      go_simp
      refine (CB.out w9 (E.below (HK.out.bel.trans (F.mono HK.out.bel.size)))).mono ?_
      rintro e w6 ⟨rfl, hb6⟩
      exact hK.out _ w6 (Pl.fix rfl) (F.trans (hb6.mono F.size))
    refine RelFrom.run rfl (fun L vals A w9 hno hdl hcl hu hp h0 F K hK => ?_) ?_
    · have e11 : A.tmps[11]?.getD undef = .string xa := (hu 2 11 (by kernel_rfl) rfl).trans (hp 2 (by kernel_rfl) _ rfl)
      have e14 : A.tmps[14]?.getD undef = .string xb := (hu 5 14 (by kernel_rfl) rfl).trans (hp 5 (by kernel_rfl) _ rfl)
      clear hu h0 hp
      have rr := (HK.out.rr.below F HK.out.rr.lt).c2
      have r0 := rr.1
      have r1 := rr.2
      clear rr
      have hs := HS.out
      go_simp
      exact hK.out _ w9 (Pl.fix rfl) (F)
    refine RelFrom.run rfl (fun L vals A w9 hno hdl hcl hu hp h0 F K hK => ?_) ?_
    · have e15 : A.tmps[15]?.getD undef = .string (xa ++ xb) := (hu 6 15 (by kernel_rfl) rfl).trans (hp 6 (by kernel_rfl) _ rfl)
      clear hu h0 hp
      have rr := (HK.out.rr.below F HK.out.rr.lt).c2
      have r0 := rr.1
      have r1 := rr.2
      clear rr
      have hs := HS.out
      go_simp
      exact hK.out _ w9 (Pl.fix rfl) (F)
    exact RelFrom.nil (by decide)
  case gfin_2 =>
    intro vals w9 hp F
    simp only [Fr, Act.put, List.setIfInBounds_toArray, List.set_cons_zero, List.set_cons_succ, Nat.reduceAdd]
    have h4 : vals 7 = .string (xa ++ xb) := hp 7 (by decide) _ rfl
    rw [h4, HI.out]
    have K := HK.out.below F
    clear F hp h4
    go_wp2_with fail
    go_ret
    exact ⟨rfl, K.bel⟩
set_option maxHeartbeats 1000000 in
set_option maxRecDepth 100000 in
/-- The text of a turn. -/
theorem turn_i (v : Vr) (hv : okV v = true) (x y : Int) (A : Option Addr) (cp B : Nat) (ss : List Stp) (w : World) (hB : B ≤ w.heap.size) (hr : RdS w B 4 enSt A ss) (E : Env w) :
    Calls Tryz.prog 25 #[.agg #[.int .i64 v.p, .int .i64 v.c, .int .i64 v.h, .int .i64 v.s], .agg #[.int .i64 x, .int .i64 y], .slice A ss.length cp] w fun e w' => e = .returned (.string (bs (trnT v x y ss))) ∧ Below w.heap.size w w' := by
  obtain ⟨S, hS⟩ : ∃ s, stpsT v ss = s := ⟨_, rfl⟩
  have CS := Lib.hid (fun (w9 : World) (h9 : Below w.heap.size w w9) => steps_i v A cp B ss S (by rw [hv]; exact hS) w9 (Nat.le_trans hB h9.size) (hr.below h9 hB) (E.below h9))
  obtain ⟨c, hc⟩ : ∃ c, rollB v x y = c := ⟨_, rfl⟩
  have CR := Lib.hid (fun w9 => isroll_w v hv x y c hc w9)
  have hT : trnT v x y ss = if c = true ∧ S ≠ [] then rolT x y ++ [58, 32] ++ S else [] := by unfold trnT; rw [hc, hS]
  obtain ⟨R, hR⟩ : ∃ r, trnT v x y ss = r := ⟨_, rfl⟩
  rw [hR] at hT ⊢
  obtain ⟨n, hn⟩ : ∃ n, ss.length = n := ⟨_, rfl⟩
  rw [hn] at CS ⊢
  have hlS := stpsT_len hv (ss := ss)
  rw [hS] at hlS
  have HT := Lib.hid hT
  have HC := Lib.hid hc
  have HV := Lib.hid hv
  have HL := Lib.hid hlS
  clear hT hR hc hS hn hr hv hlS
  go_enter Tryz.func25, Tryz.ntmps25
  go_upto_region 1 with (fail)
  refine wp_gen (fun W' => Bvr w W' v x y) ⟨by go_grown, (RowB.new _ _ _).alloc _, RowB.new' _ _ _ (by simp)⟩ ?_
  intro w1 K
  obtain ⟨q0, q1, q2, q3⟩ := K.rv.c4
  have hlv := K.rv.lt
  go_wp2_with fail
  refine (CS.out _ K.bel).mono ?_
  rintro e w2 ⟨rfl, hb⟩
  have K := K.below hb
  clear q0 q1 q2 q3 hlv hb CS
  obtain ⟨q0, q1, q2, q3⟩ := K.rv.c4
  obtain ⟨r0, r1⟩ := K.rr.c2
  have hlv := K.rv.lt
  have hlr := K.rr.lt
  go_wp2_with fail
  refine (CR.out _).mono ?_
  rintro e w3 ⟨rfl, hb⟩
  have K := K.below hb
  clear q0 q1 q2 q3 r0 r1 hlv hlr hb CR
  cases c
  case false =>
    have hRn : R = [] := by rw [HT.out, if_neg (by simp)]
    subst hRn
    clear HT
    go_wp2_with fail
    go_ret
    exact ⟨rfl, K.bel⟩
  by_cases hS0 : S = []
  · have hRn : R = [] := by rw [HT.out, if_neg (fun h => h.2 hS0)]
    subst hRn
    have e0 : (bs S).toList.isEmpty = true := by rw [ByteArray.toList_eq, bs_data, hS0]; rfl
    clear HT hS0
    go_wp2_with fail
    go_ret
    exact ⟨rfl, K.bel⟩
  have hRn : R = rolT x y ++ [58, 32] ++ S := by rw [HT.out, if_pos ⟨rfl, hS0⟩]
  have e0 : (bs S).toList.isEmpty = false := by rw [ByteArray.toList_eq, bs_data]; cases S with | nil => exact absurd rfl hS0 | cons a l => rfl
  have hrl := rolT_at HV.out HC.out
  have HI : Hid ((bs (rolT x y) ++ (⟨#[58, 32]⟩ : ByteArray)) ++ bs S = bs R) := by
    show _ = _
    have q1 : (⟨#[58, 32]⟩ : ByteArray) = bs [58, 32] := rfl
    rw [q1, bs_cat, bs_cat, hRn]
  have CT := Lib.hid (fun (w9 : World) (E9 : Env w9) => roll_i v HV.out x y HC.out w9 E9)
  obtain ⟨rx, hrx⟩ : ∃ z, bs (rolT x y) = z := ⟨_, rfl⟩
  have z1 : rx.size = 2 := by rw [← hrx, bs_size, hrl]; rfl
  have z2 : (bs S).size ≤ 50 := by rw [bs_size]; exact HL.out
  rw [hrx] at HI CT
  obtain ⟨sb, hsb⟩ : ∃ z, bs S = z := ⟨_, rfl⟩
  rw [hsb] at HI e0 z2 ⊢
  have HI2 : Hid (Ending.returned (.string ((rx ++ (⟨#[58, 32]⟩ : ByteArray)) ++ sb)) = Ending.returned (.string (bs R))) := by show _ = _; rw [HI.out]
  have g1 : ¬ 9223372036854775807 < rx.size + 2 := by omega
  have g2 : ¬ 9223372036854775807 < rx.size + 2 + sb.size := by omega
  clear HT hS0 hRn hrl hrx hsb HI
  obtain ⟨q0, q1, q2, q3⟩ := K.rv.c4
  obtain ⟨r0, r1⟩ := K.rr.c2
  have hlv := K.rv.lt
  have hlr := K.rr.lt
  go_wp2_with fail
  refine (CT.out _ (E.below K.bel)).mono ?_
  rintro e w4 ⟨rfl, hb⟩
  have K := K.below hb
  go_wp2_with fail
  go_ret
  exact ⟨HI2.out, K.bel⟩
end Go.Proofs.YtlfdcefgelpgmaaGreatDoor.TxI
