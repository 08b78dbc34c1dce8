/-
  Texts of steps and turns, of the reference: what its functions return. Conditions: each theorem's own.
-/
import Derived.Test.YtlfdcefgelpgmaaGreatDoorTsA
set_option linter.unusedVariables false
set_option linter.unusedSimpArgs false
namespace Go.Proofs.YtlfdcefgelpgmaaGreatDoor.TsI
open Go.ChangeShapes Go.WideShapes Go.ChangeAt Go.RowKit Base Ints Own JoinN PlP TxP Num Bd1 Bd5 RegF RegG TxI

/-- The words of the first k steps. -/
def jn (v : Vr) (ss : List Stp) (k : Nat) : By := Lib.join ((ss.take k).map (stpT v)) [32]
theorem jn_succ {v : Vr} {ss : List Stp} {k : Nat} {s : Stp} (h : ss[k]? = some s) : jn v ss (k + 1) = (if k = 0 then [] else jn v ss k ++ [32]) ++ stpT v s := by
  unfold jn
  rw [take_succ ss k s h, List.map_append]
  have hkl := (List.getElem?_eq_some_iff.1 h).1
  cases k with
  | zero => simp [Lib.join_one]
  | succ k =>
    cases hl : (ss.take (k + 1)).map (stpT v) with
    | nil =>
      have h1 : ((ss.take (k + 1)).map (stpT v)).length = k + 1 := by rw [List.length_map, List.length_take]; omega
      rw [hl] at h1
      simp at h1
    | cons x r =>
      rw [if_neg (by omega), List.cons_append, Lib.join_cons, Lib.join_cons]
      simp [Lib.joinTail]
set_option maxHeartbeats 4000000 in
set_option maxRecDepth 100000 in
theorem steps_s (v : Vr) (A : Option Addr) (cp B : Nat) (ss : List Stp) (R : By) (hR : (if okV v = true then stpsT v ss else []) = R) (w : World) (hB : B ≤ w.heap.size) (hr : RdS w B 4 enSt A ss) :
    Calls Tryz.prog 71 #[.agg #[.int .i64 v.p, .int .i64 v.c, .int .i64 v.h, .int .i64 v.s], .slice A ss.length cp] w fun e w' => e = .returned (.string (bs R)) ∧ Below w.heap.size w w' := by
  have hln := hr.len
  obtain ⟨n, hn⟩ : ∃ n, ss.length = n := ⟨_, rfl⟩
  obtain ⟨ok, hok⟩ : ∃ b, okV v = b := ⟨_, rfl⟩
  have CV := Lib.hid (fun w9 => var_s v ok hok w9)
  rw [hn] at hln ⊢
  have HN := Lib.hid hn
  have HR := Lib.hid hR
  have HO := Lib.hid hok
  clear hR hn hok
  go_enter Tryz.func71, Tryz.ntmps71
  go_upto_region 1 with (fail)
  refine wp_gen (fun W' => Below w.heap.size w W' ∧ RowB W' w.heap.size 25 [.int .i64 v.p, .int .i64 v.c, .int .i64 v.h, .int .i64 v.s]) ⟨by go_grown, RowB.new _ _ _⟩ ?_
  rintro w1 ⟨hb1, rv⟩
  obtain ⟨q0, q1, q2, q3⟩ := rv.c4
  have hlv := rv.lt
  go_wp2_with fail
  refine (CV.out _).mono ?_
  rintro e w2 ⟨rfl, hb⟩
  have hb1 := hb1.trans (hb.mono hb1.size)
  have rv := rv.below hb hlv
  clear q0 q1 q2 q3 hlv hb
  cases ok
  case false =>
    obtain rfl : R = [] := by rw [← HR.out, HO.out]; rfl
    go_wp2_with fail
    go_ret
    exact ⟨rfl, hb1⟩
  have HS : Hid (stpsT v ss = R) := by show _ = _; rw [← HR.out, HO.out]; rfl
  clear HR
  by_cases h4 : 4 < n
  · obtain rfl : R = [] := by rw [← HS.out]; unfold stpsT; rw [if_pos (by rw [HN.out]; exact h4)]
    have d4 : decide ((4 : Int) < (n : Int)) = true := decide_eq_true (by omega)
    clear h4
    go_wp2_with fail
    go_ret
    exact ⟨rfl, hb1⟩
  have d4 : decide ((4 : Int) < (n : Int)) = false := decide_eq_false (by omega)
  by_cases h0 : n = 0
  · obtain rfl : R = [45] := by rw [← HS.out]; unfold stpsT; rw [if_neg (by rw [HN.out]; exact h4), if_pos (by rw [HN.out]; exact h0)]
    have d0 : ((n : Int) == 0) = true := by simp [h0]
    clear h0 h4
    go_wp2_with fail
    go_ret
    exact ⟨rfl, hb1⟩
  have d0 : ((n : Int) == 0) = false := by simp [h0]
  have HT : Hid (R = if allPl v ss = true then Lib.join (ss.map (stpT v)) [32] else []) := by show _ = _; rw [← HS.out]; unfold stpsT; rw [if_neg (by rw [HN.out]; exact h4), if_neg (by rw [HN.out]; exact h0)]
  have hn4 : n ≤ 4 := by omega
  have hn0 : 0 < n := by omega
  have RV := Lib.hid rv
  have HB1 := Lib.hid hb1
  have hl2 : w.heap.size + 1 ≤ w2.heap.size := rv.lt
  clear HS h4 h0 rv hb1
  go_wp2_with fail
  go_loopw [5, 6] (fun s5 i wr => ∃ k : Nat, k ≤ n ∧ i = .int .i64 (k : Int) ∧ s5 = .string (bs (jn v ss k)) ∧ Hid (Below w2.heap.size w2 wr) ∧ Hid (∀ s ∈ ss.take k, plainB v s = true) ∧ (jn v ss k).length ≤ 12 * k) (fun _ i _ => n - (intOf i).toNat)
  case atStart => exact ⟨0, Nat.zero_le _, rfl, rfl, Lib.hid (Below.refl _ _), Lib.hid (fun s hs => by simp at hs), by simp [jn, Lib.join_nil]⟩
  case round =>
    obtain ⟨k, hk, rfl, rfl, hb, hpl, hjl⟩ := hrel
    clear d0 d4
    by_cases hlt : k < n
    · obtain ⟨b, off, f, t, d, h, rfl, hbb, hxk, x0, x1, x2, x3⟩ := rdStp_at (hr.below (HB1.out.trans (hb.out.mono HB1.out.size)) hB) (by rw [HN.out]; exact hlt)
      have HX := Lib.hid hxk
      have hxm : b < wr.heap.size := by have := hb.out.size; have := HB1.out.size; omega
      obtain ⟨J, hJ⟩ : ∃ J, jn v ss k = J := ⟨_, rfl⟩
      rw [hJ] at hjl ⊢
      have HJ := Lib.hid hJ
      have HXC := Lib.hid (And.intro x0 (And.intro x1 (And.intro x2 x3)))
      have HBM := Lib.hid hxm
      obtain ⟨pb, hpb⟩ : ∃ b, plainB v (f, t, d, h) = b := ⟨_, rfl⟩
      have CP := Lib.hid (fun w9 => plain_s v HO.out (f, t, d, h) pb hpb w9)
      simp only at CP
      have HPB := Lib.hid hpb
      have RVw := Lib.hid (RV.out.below hb.out hl2)
      clear hxk hJ x0 x1 x2 x3 hpb
      go_wp2_with fail
      refine region_rel [some 24, some 25, some 26, some 27, some 28, some 29, some 30] 7 (Pl [some (.agg #[.int .i64 v.p, .int .i64 v.c, .int .i64 v.h, .int .i64 v.s]), some (.slice (some ⟨b, off, none⟩) n cp), some (.int .i64 (k : Int)), some (.pointer (some ⟨b, off + k * 4, none⟩)), some (.agg #[.int .i64 f, .int .i64 t, .int .i64 d, .bool h]), some (.bool pb), some (.bool (!pb))]) (fun L vals w' => Below wr.heap.size wr w') (by kernel_rfl) (by kernel_rfl) (by kernel_rfl) (by kernel_rfl) (by kernel_rfl) (by kernel_rfl) (by kernel_rfl) ?g0_3 ?gst_3 ?gfin_3
      case g0_3 => exact (Below.refl _ _).drew
      case gst_3 =>
        refine RelFrom.run rfl (fun L vals A w9 hno hdl hcl hu hp h0 F K hK => ?_) ?_
        · have e2 : A.tmps[2]?.getD undef = .pointer (some ⟨w.heap.size, 0, none⟩) := h0 2 (fun j _ hj => absurd (List.mem_of_getElem? hj) (by decide))
          clear hu h0 hp
          have KK := RVw.out.below F RVw.out.lt
          have rq := KK.c4
          have q0 := rq.1
          have q1 := rq.2.1
          have q2 := rq.2.2.1
          have q3 := rq.2.2.2
          have hlq := KK.lt
          have bx := bcell F
          have xx := HXC.out
          have x0 := (bx.1 b _ HBM.out).trans xx.1
          have x1 := (bx.1 b _ HBM.out).trans xx.2.1
          have x2 := (bx.1 b _ HBM.out).trans xx.2.2.1
          have x3 := (bx.1 b _ HBM.out).trans xx.2.2.2
          clear KK rq bx xx
          go_simp
          exact hK.out _ w9 (Pl.fix rfl) (F)
        refine RelFrom.run rfl (fun L vals A w9 hno hdl hcl hu hp h0 F K hK => ?_) ?_
        · have e1 : A.tmps[1]?.getD undef = .slice (some ⟨b, off, none⟩) n cp := h0 1 (fun j _ hj => absurd (List.mem_of_getElem? hj) (by decide))
          clear hu h0 hp
          have KK := RVw.out.below F RVw.out.lt
          have rq := KK.c4
          have q0 := rq.1
          have q1 := rq.2.1
          have q2 := rq.2.2.1
          have q3 := rq.2.2.2
          have hlq := KK.lt
          have bx := bcell F
          have xx := HXC.out
          have x0 := (bx.1 b _ HBM.out).trans xx.1
          have x1 := (bx.1 b _ HBM.out).trans xx.2.1
          have x2 := (bx.1 b _ HBM.out).trans xx.2.2.1
          have x3 := (bx.1 b _ HBM.out).trans xx.2.2.2
          clear KK rq bx xx
          go_simp
          exact hK.out _ w9 (Pl.fix rfl) (F)
        refine RelFrom.run rfl (fun L vals A w9 hno hdl hcl hu hp h0 F K hK => ?_) ?_
        · have e6 : A.tmps[6]?.getD undef = .int .i64 (k : Int) := h0 6 (fun j _ hj => absurd (List.mem_of_getElem? hj) (by decide))
          clear hu h0 hp
          have KK := RVw.out.below F RVw.out.lt
          have rq := KK.c4
          have q0 := rq.1
          have q1 := rq.2.1
          have q2 := rq.2.2.1
          have q3 := rq.2.2.2
          have hlq := KK.lt
          have bx := bcell F
          have xx := HXC.out
          have x0 := (bx.1 b _ HBM.out).trans xx.1
          have x1 := (bx.1 b _ HBM.out).trans xx.2.1
          have x2 := (bx.1 b _ HBM.out).trans xx.2.2.1
          have x3 := (bx.1 b _ HBM.out).trans xx.2.2.2
          clear KK rq bx xx
          go_simp
          exact hK.out _ w9 (Pl.fix rfl) (F)
        refine RelFrom.run rfl (fun L vals A w9 hno hdl hcl hu hp h0 F K hK => ?_) ?_
        · have e25 : A.tmps[25]?.getD undef = .slice (some ⟨b, off, none⟩) n cp := (hu 1 25 (by kernel_rfl) rfl).trans (hp 1 (by kernel_rfl) _ rfl)
          have e26 : A.tmps[26]?.getD undef = .int .i64 (k : Int) := (hu 2 26 (by kernel_rfl) rfl).trans (hp 2 (by kernel_rfl) _ rfl)
          clear hu h0 hp
          have KK := RVw.out.below F RVw.out.lt
          have rq := KK.c4
          have q0 := rq.1
          have q1 := rq.2.1
          have q2 := rq.2.2.1
          have q3 := rq.2.2.2
          have hlq := KK.lt
          have bx := bcell F
          have xx := HXC.out
          have x0 := (bx.1 b _ HBM.out).trans xx.1
          have x1 := (bx.1 b _ HBM.out).trans xx.2.1
          have x2 := (bx.1 b _ HBM.out).trans xx.2.2.1
          have x3 := (bx.1 b _ HBM.out).trans xx.2.2.2
          clear KK rq bx xx
          go_simp
          exact hK.out _ w9 (Pl.fix rfl) (F)
        refine RelFrom.run rfl (fun L vals A w9 hno hdl hcl hu hp h0 F K hK => ?_) ?_
        · have e27 : A.tmps[27]?.getD undef = .pointer (some ⟨b, off + k * 4, none⟩) := (hu 3 27 (by kernel_rfl) rfl).trans (hp 3 (by kernel_rfl) _ rfl)
          clear hu h0 hp
          have KK := RVw.out.below F RVw.out.lt
          have rq := KK.c4
          have q0 := rq.1
          have q1 := rq.2.1
          have q2 := rq.2.2.1
          have q3 := rq.2.2.2
          have hlq := KK.lt
          have bx := bcell F
          have xx := HXC.out
          have x0 := (bx.1 b _ HBM.out).trans xx.1
          have x1 := (bx.1 b _ HBM.out).trans xx.2.1
          have x2 := (bx.1 b _ HBM.out).trans xx.2.2.1
          have x3 := (bx.1 b _ HBM.out).trans xx.2.2.2
          clear KK rq bx xx
          go_simp
          exact hK.out _ w9 (Pl.fix rfl) (F)
        refine RelFrom.run rfl (fun L vals A w9 hno hdl hcl hu hp h0 F K hK => ?_) ?_
        · have e24 : A.tmps[24]?.getD undef = .agg #[.int .i64 v.p, .int .i64 v.c, .int .i64 v.h, .int .i64 v.s] := (hu 0 24 (by kernel_rfl) rfl).trans (hp 0 (by kernel_rfl) _ rfl)
          have e28 : A.tmps[28]?.getD undef = .agg #[.int .i64 f, .int .i64 t, .int .i64 d, .bool h] := (hu 4 28 (by kernel_rfl) rfl).trans (hp 4 (by kernel_rfl) _ rfl)
          clear hu h0 hp
          go_simp
          refine (CP.out w9).mono ?_
          rintro e w6 ⟨rfl, hb6⟩
          exact hK.out _ w6 (Pl.fix rfl) (F.trans (hb6.mono F.size))
        refine RelFrom.run rfl (fun L vals A w9 hno hdl hcl hu hp h0 F K hK => ?_) ?_
        · have e29 : A.tmps[29]?.getD undef = .bool pb := (hu 5 29 (by kernel_rfl) rfl).trans (hp 5 (by kernel_rfl) _ rfl)
          clear hu h0 hp
          have KK := RVw.out.below F RVw.out.lt
          have rq := KK.c4
          have q0 := rq.1
          have q1 := rq.2.1
          have q2 := rq.2.2.1
          have q3 := rq.2.2.2
          have hlq := KK.lt
          have bx := bcell F
          have xx := HXC.out
          have x0 := (bx.1 b _ HBM.out).trans xx.1
          have x1 := (bx.1 b _ HBM.out).trans xx.2.1
          have x2 := (bx.1 b _ HBM.out).trans xx.2.2.1
          have x3 := (bx.1 b _ HBM.out).trans xx.2.2.2
          clear KK rq bx xx
          go_simp
          exact hK.out _ w9 (Pl.fix rfl) (F)
        exact RelFrom.nil (by decide)
      case gfin_3 =>
        intro vals w9 hp F
        simp only [Fr, Act.put, List.setIfInBounds_toArray, List.set_cons_zero, List.set_cons_succ, Nat.reduceAdd]
        have h6 : vals 6 = .bool (!pb) := hp 6 (by decide) _ rfl
        rw [h6]
        have hb9 := F
        clear F hp h6 CP
        have hbn := Lib.hid (hb.out.trans (hb9.mono hb.out.size))
        obtain ⟨w9z, hwz⟩ : ∃ z, w9 = z := ⟨_, rfl⟩
        rw [hwz] at hb9 hbn ⊢
        clear hwz w9
        cases pb
        case false =>
          have hRn : R = [] := by
            rw [HT.out, if_neg]
            intro ha
            have := List.all_eq_true.1 ha _ (List.mem_of_getElem? HX.out)
            rw [HPB.out] at this
            simp at this
          subst hRn
          clear HT
          go_wp2_with fail
          go_ret
          exact ⟨rfl, HB1.out.trans (hbn.out.mono HB1.out.size)⟩
        have CT := Lib.hid (fun (w9 : World) => step_s v HO.out (f, t, d, h) HPB.out w9)
        have hstl := step_len HO.out HPB.out
        obtain ⟨tx, htx⟩ : ∃ x, stpT v (f, t, d, h) = x := ⟨_, rfl⟩
        rw [htx] at CT hstl
        simp only at CT
        have HTX := Lib.hid htx
        have HQ : Hid (∀ s ∈ ss.take (k + 1), plainB v s = true) := by
          show ∀ s ∈ ss.take (k + 1), plainB v s = true
          rw [take_succ ss k _ HX.out]
          intro s hs
          rcases List.mem_append.1 hs with hs | hs
          · exact hpl.out s hs
          · simp at hs; subst hs; exact HPB.out
        obtain ⟨Jp, hJp⟩ : ∃ j, (if k = 0 then [] else J ++ [32]) = j := ⟨_, rfl⟩
        have hN1 : jn v ss (k + 1) = Jp ++ tx := by rw [jn_succ HX.out, HJ.out, hJp, htx]
        have hJl : Jp.length ≤ 12 * k + 1 := by
          rw [← hJp]
          split
          · simp
          · simp; omega
        have zt : (bs tx).size ≤ 11 := by rw [bs_size]; exact hstl.2
        have zj : (bs Jp).size ≤ 12 * k + 1 := by rw [bs_size]; exact hJl
        have HN1 : Hid (bs Jp ++ bs tx = bs (jn v ss (k + 1))) := by show _ = _; rw [bs_cat, hN1]
        have hjl2 : (jn v ss (k + 1)).length ≤ 12 * (k + 1) := by
          rw [hN1, List.length_append]
          by_cases h0 : k = 0
          · rw [if_pos h0] at hJp; rw [← hJp]; simp; omega
          · rw [if_neg h0] at hJp; rw [← hJp]; simp; omega
        have HSZ : Hid (¬ 9223372036854775807 < (bs Jp).size + (bs tx).size) := Lib.hid (by omega)
        obtain ⟨sj, hsj⟩ : ∃ z, bs Jp = z := ⟨_, rfl⟩
        obtain ⟨st, hst⟩ : ∃ z, bs tx = z := ⟨_, rfl⟩
        rw [hst] at CT
        rw [hsj, hst] at HN1 HSZ
        have RVw := Lib.hid (RVw.out.below hb9 RVw.out.lt)
        have HXC : Hid (w9z.cell? ⟨b, off + k * 4, none⟩ = some (.int .i64 f) ∧ w9z.cell? ⟨b, off + k * 4 + 1, none⟩ = some (.int .i64 t) ∧ w9z.cell? ⟨b, off + k * 4 + 2, none⟩ = some (.int .i64 d) ∧ w9z.cell? ⟨b, off + k * 4 + 3, none⟩ = some (.bool h)) := by
          have bx := bcell hb9
          have xx := HXC.out
          exact Lib.hid ⟨(bx.1 b _ HBM.out).trans xx.1, (bx.1 b _ HBM.out).trans xx.2.1, (bx.1 b _ HBM.out).trans xx.2.2.1, (bx.1 b _ HBM.out).trans xx.2.2.2⟩
        have HBM : Hid (b < w9z.heap.size) := Lib.hid (Nat.lt_of_lt_of_le HBM.out hb9.size)
        have hj1 : (bs J).size ≤ 12 * k := by rw [bs_size]; exact hjl
        have HJ2 : Hid (if k = 0 then bs J = sj else bs J ++ (⟨#[32]⟩ : ByteArray) = sj) := by
          show if k = 0 then bs J = sj else _
          split
          · rename_i h0
            rw [← hsj, ← hJp, if_pos h0, ← HJ.out]
            subst h0
            rfl
          · rename_i h0
            rw [← hsj, ← hJp, if_neg h0]
            exact bs_cat J [32]
        clear hJp hN1 hJl zj hsj hst htx hstl hb HX hpl HPB HJ zt hb9 hjl hxm
        by_cases k0 : k = 0
        · have dk : decide ((0 : Int) < (k : Int)) = false := decide_eq_false (by omega)
          have hj2 := HJ2.out
          rw [if_pos k0] at hj2
          clear HJ2
          go_upto_region 13 with (fail)
          rw [hj2]
          clear hj2 dk k0
          refine region_rel [some 35, some 36, some 37, some 38, some 39, some 40, some 41, some 42, some 5] 9 (Pl [some (.string sj), some (.agg #[.int .i64 v.p, .int .i64 v.c, .int .i64 v.h, .int .i64 v.s]), some (.slice (some ⟨b, off, none⟩) n cp), some (.int .i64 (k : Int)), some (.pointer (some ⟨b, off + k * 4, none⟩)), some (.agg #[.int .i64 f, .int .i64 t, .int .i64 d, .bool h]), some (.string st), some (.string (sj ++ st)), some (.string (sj ++ st))]) (fun L vals w' => Below w9z.heap.size w9z w') (by kernel_rfl) (by kernel_rfl) (by kernel_rfl) (by kernel_rfl) (by kernel_rfl) (by kernel_rfl) (by kernel_rfl) ?g0_1 ?gst_1 ?gfin_1
          case g0_1 => exact (Below.refl _ _).drew
          case gst_1 =>
            refine RelFrom.run rfl (fun L vals A w9 hno hdl hcl hu hp h0 F K hK => ?_) ?_
            · have e5 : A.tmps[5]?.getD undef = .string sj := h0 5 (fun j hl hj => by obtain rfl := nd_of _ (by kernel_rfl) j 8 5 hj rfl; exact hno (hcl 8 0 (by kernel_rfl) hl))
              clear hu h0 hp
              have KK := RVw.out.below F RVw.out.lt
              have rq := KK.c4
              have q0 := rq.1
              have q1 := rq.2.1
              have q2 := rq.2.2.1
              have q3 := rq.2.2.2
              have hlq := KK.lt
              have bx := bcell F
              have xx := HXC.out
              have x0 := (bx.1 b _ HBM.out).trans xx.1
              have x1 := (bx.1 b _ HBM.out).trans xx.2.1
              have x2 := (bx.1 b _ HBM.out).trans xx.2.2.1
              have x3 := (bx.1 b _ HBM.out).trans xx.2.2.2
              clear KK rq bx xx
              have hsz := HSZ.out
              go_simp
              exact hK.out _ w9 (Pl.fix rfl) (F)
            refine RelFrom.run rfl (fun L vals A w9 hno hdl hcl hu hp h0 F K hK => ?_) ?_
            · have e2 : A.tmps[2]?.getD undef = .pointer (some ⟨w.heap.size, 0, none⟩) := h0 2 (fun j _ hj => absurd (List.mem_of_getElem? hj) (by decide))
              clear hu h0 hp
              have KK := RVw.out.below F RVw.out.lt
              have rq := KK.c4
              have q0 := rq.1
              have q1 := rq.2.1
              have q2 := rq.2.2.1
              have q3 := rq.2.2.2
              have hlq := KK.lt
              have bx := bcell F
              have xx := HXC.out
              have x0 := (bx.1 b _ HBM.out).trans xx.1
              have x1 := (bx.1 b _ HBM.out).trans xx.2.1
              have x2 := (bx.1 b _ HBM.out).trans xx.2.2.1
              have x3 := (bx.1 b _ HBM.out).trans xx.2.2.2
              clear KK rq bx xx
              have hsz := HSZ.out
              go_simp
              exact hK.out _ w9 (Pl.fix rfl) (F)
            refine RelFrom.run rfl (fun L vals A w9 hno hdl hcl hu hp h0 F K hK => ?_) ?_
            · have e1 : A.tmps[1]?.getD undef = .slice (some ⟨b, off, none⟩) n cp := h0 1 (fun j _ hj => absurd (List.mem_of_getElem? hj) (by decide))
              clear hu h0 hp
              have KK := RVw.out.below F RVw.out.lt
              have rq := KK.c4
              have q0 := rq.1
              have q1 := rq.2.1
              have q2 := rq.2.2.1
              have q3 := rq.2.2.2
              have hlq := KK.lt
              have bx := bcell F
              have xx := HXC.out
              have x0 := (bx.1 b _ HBM.out).trans xx.1
              have x1 := (bx.1 b _ HBM.out).trans xx.2.1
              have x2 := (bx.1 b _ HBM.out).trans xx.2.2.1
              have x3 := (bx.1 b _ HBM.out).trans xx.2.2.2
              clear KK rq bx xx
              have hsz := HSZ.out
              go_simp
              exact hK.out _ w9 (Pl.fix rfl) (F)
            refine RelFrom.run rfl (fun L vals A w9 hno hdl hcl hu hp h0 F K hK => ?_) ?_
            · have e6 : A.tmps[6]?.getD undef = .int .i64 (k : Int) := h0 6 (fun j _ hj => absurd (List.mem_of_getElem? hj) (by decide))
              clear hu h0 hp
              have KK := RVw.out.below F RVw.out.lt
              have rq := KK.c4
              have q0 := rq.1
              have q1 := rq.2.1
              have q2 := rq.2.2.1
              have q3 := rq.2.2.2
              have hlq := KK.lt
              have bx := bcell F
              have xx := HXC.out
              have x0 := (bx.1 b _ HBM.out).trans xx.1
              have x1 := (bx.1 b _ HBM.out).trans xx.2.1
              have x2 := (bx.1 b _ HBM.out).trans xx.2.2.1
              have x3 := (bx.1 b _ HBM.out).trans xx.2.2.2
              clear KK rq bx xx
              have hsz := HSZ.out
              go_simp
              exact hK.out _ w9 (Pl.fix rfl) (F)
            refine RelFrom.run rfl (fun L vals A w9 hno hdl hcl hu hp h0 F K hK => ?_) ?_
            · have e37 : A.tmps[37]?.getD undef = .slice (some ⟨b, off, none⟩) n cp := (hu 2 37 (by kernel_rfl) rfl).trans (hp 2 (by kernel_rfl) _ rfl)
              have e38 : A.tmps[38]?.getD undef = .int .i64 (k : Int) := (hu 3 38 (by kernel_rfl) rfl).trans (hp 3 (by kernel_rfl) _ rfl)
              clear hu h0 hp
              have KK := RVw.out.below F RVw.out.lt
              have rq := KK.c4
              have q0 := rq.1
              have q1 := rq.2.1
              have q2 := rq.2.2.1
              have q3 := rq.2.2.2
              have hlq := KK.lt
              have bx := bcell F
              have xx := HXC.out
              have x0 := (bx.1 b _ HBM.out).trans xx.1
              have x1 := (bx.1 b _ HBM.out).trans xx.2.1
              have x2 := (bx.1 b _ HBM.out).trans xx.2.2.1
              have x3 := (bx.1 b _ HBM.out).trans xx.2.2.2
              clear KK rq bx xx
              have hsz := HSZ.out
              go_simp
              exact hK.out _ w9 (Pl.fix rfl) (F)
            refine RelFrom.run rfl (fun L vals A w9 hno hdl hcl hu hp h0 F K hK => ?_) ?_
            · have e39 : A.tmps[39]?.getD undef = .pointer (some ⟨b, off + k * 4, none⟩) := (hu 4 39 (by kernel_rfl) rfl).trans (hp 4 (by kernel_rfl) _ rfl)
              clear hu h0 hp
              have KK := RVw.out.below F RVw.out.lt
              have rq := KK.c4
              have q0 := rq.1
              have q1 := rq.2.1
              have q2 := rq.2.2.1
              have q3 := rq.2.2.2
              have hlq := KK.lt
              have bx := bcell F
              have xx := HXC.out
              have x0 := (bx.1 b _ HBM.out).trans xx.1
              have x1 := (bx.1 b _ HBM.out).trans xx.2.1
              have x2 := (bx.1 b _ HBM.out).trans xx.2.2.1
              have x3 := (bx.1 b _ HBM.out).trans xx.2.2.2
              clear KK rq bx xx
              have hsz := HSZ.out
              go_simp
              exact hK.out _ w9 (Pl.fix rfl) (F)
            refine RelFrom.run rfl (fun L vals A w9 hno hdl hcl hu hp h0 F K hK => ?_) ?_
            · have e36 : A.tmps[36]?.getD undef = .agg #[.int .i64 v.p, .int .i64 v.c, .int .i64 v.h, .int .i64 v.s] := (hu 1 36 (by kernel_rfl) rfl).trans (hp 1 (by kernel_rfl) _ rfl)
              have e40 : A.tmps[40]?.getD undef = .agg #[.int .i64 f, .int .i64 t, .int .i64 d, .bool h] := (hu 5 40 (by kernel_rfl) rfl).trans (hp 5 (by kernel_rfl) _ rfl)
              clear hu h0 hp
              go_simp
              refine (CT.out w9).mono ?_
              rintro e w6 ⟨rfl, hb6⟩
              exact hK.out _ w6 (Pl.fix rfl) (F.trans (hb6.mono F.size))
            refine RelFrom.run rfl (fun L vals A w9 hno hdl hcl hu hp h0 F K hK => ?_) ?_
            · have e35 : A.tmps[35]?.getD undef = .string sj := (hu 0 35 (by kernel_rfl) rfl).trans (hp 0 (by kernel_rfl) _ rfl)
              have e41 : A.tmps[41]?.getD undef = .string st := (hu 6 41 (by kernel_rfl) rfl).trans (hp 6 (by kernel_rfl) _ rfl)
              clear hu h0 hp
              have KK := RVw.out.below F RVw.out.lt
              have rq := KK.c4
              have q0 := rq.1
              have q1 := rq.2.1
              have q2 := rq.2.2.1
              have q3 := rq.2.2.2
              have hlq := KK.lt
              have bx := bcell F
              have xx := HXC.out
              have x0 := (bx.1 b _ HBM.out).trans xx.1
              have x1 := (bx.1 b _ HBM.out).trans xx.2.1
              have x2 := (bx.1 b _ HBM.out).trans xx.2.2.1
              have x3 := (bx.1 b _ HBM.out).trans xx.2.2.2
              clear KK rq bx xx
              have hsz := HSZ.out
              go_simp
              exact hK.out _ w9 (Pl.fix rfl) (F)
            refine RelFrom.run rfl (fun L vals A w9 hno hdl hcl hu hp h0 F K hK => ?_) ?_
            · have e42 : A.tmps[42]?.getD undef = .string (sj ++ st) := (hu 7 42 (by kernel_rfl) rfl).trans (hp 7 (by kernel_rfl) _ rfl)
              clear hu h0 hp
              have KK := RVw.out.below F RVw.out.lt
              have rq := KK.c4
              have q0 := rq.1
              have q1 := rq.2.1
              have q2 := rq.2.2.1
              have q3 := rq.2.2.2
              have hlq := KK.lt
              have bx := bcell F
              have xx := HXC.out
              have x0 := (bx.1 b _ HBM.out).trans xx.1
              have x1 := (bx.1 b _ HBM.out).trans xx.2.1
              have x2 := (bx.1 b _ HBM.out).trans xx.2.2.1
              have x3 := (bx.1 b _ HBM.out).trans xx.2.2.2
              clear KK rq bx xx
              have hsz := HSZ.out
              go_simp
              exact hK.out _ w9 (Pl.fix rfl) (F)
            exact RelFrom.nil (by decide)
          case gfin_1 =>
            intro vals w9 hp F
            simp only [Fr, Act.put, List.setIfInBounds_toArray, List.set_cons_zero, List.set_cons_succ, Nat.reduceAdd]
            have h8 : vals 8 = .string (sj ++ st) := hp 8 (by decide) _ rfl
            rw [h8, HN1.out]
            have hbn := Lib.hid (hbn.out.trans (F.mono hbn.out.size))
            clear F hp h8 CT
            go_wp2_with fail
            go_roundw
            case rel => exact ⟨k + 1, by omega, by go_num, rfl, hbn, HQ, hjl2⟩
            case measure => simp [intOf]; omega
        · have dk : decide ((0 : Int) < (k : Int)) = true := decide_eq_true (by omega)
          have hj2 := HJ2.out
          rw [if_neg k0] at hj2
          clear HJ2
          have g1 : ¬ 9223372036854775807 < (bs J).size + 1 := by omega
          go_upto_region 13 with (fail)
          (try rw [hj2])
          clear hj2 dk k0 g1
          refine region_rel [some 35, some 36, some 37, some 38, some 39, some 40, some 41, some 42, some 5] 9 (Pl [some (.string sj), some (.agg #[.int .i64 v.p, .int .i64 v.c, .int .i64 v.h, .int .i64 v.s]), some (.slice (some ⟨b, off, none⟩) n cp), some (.int .i64 (k : Int)), some (.pointer (some ⟨b, off + k * 4, none⟩)), some (.agg #[.int .i64 f, .int .i64 t, .int .i64 d, .bool h]), some (.string st), some (.string (sj ++ st)), some (.string (sj ++ st))]) (fun L vals w' => Below w9z.heap.size w9z w') (by kernel_rfl) (by kernel_rfl) (by kernel_rfl) (by kernel_rfl) (by kernel_rfl) (by kernel_rfl) (by kernel_rfl) ?g0_2 ?gst_2 ?gfin_2
          case g0_2 => exact (Below.refl _ _).drew
          case gst_2 =>
            refine RelFrom.run rfl (fun L vals A w9 hno hdl hcl hu hp h0 F K hK => ?_) ?_
            · have e5 : A.tmps[5]?.getD undef = .string sj := h0 5 (fun j hl hj => by obtain rfl := nd_of _ (by kernel_rfl) j 8 5 hj rfl; exact hno (hcl 8 0 (by kernel_rfl) hl))
              clear hu h0 hp
              have KK := RVw.out.below F RVw.out.lt
              have rq := KK.c4
              have q0 := rq.1
              have q1 := rq.2.1
              have q2 := rq.2.2.1
              have q3 := rq.2.2.2
              have hlq := KK.lt
              have bx := bcell F
              have xx := HXC.out
              have x0 := (bx.1 b _ HBM.out).trans xx.1
              have x1 := (bx.1 b _ HBM.out).trans xx.2.1
              have x2 := (bx.1 b _ HBM.out).trans xx.2.2.1
              have x3 := (bx.1 b _ HBM.out).trans xx.2.2.2
              clear KK rq bx xx
              have hsz := HSZ.out
              go_simp
              exact hK.out _ w9 (Pl.fix rfl) (F)
            refine RelFrom.run rfl (fun L vals A w9 hno hdl hcl hu hp h0 F K hK => ?_) ?_
            · have e2 : A.tmps[2]?.getD undef = .pointer (some ⟨w.heap.size, 0, none⟩) := h0 2 (fun j _ hj => absurd (List.mem_of_getElem? hj) (by decide))
              clear hu h0 hp
              have KK := RVw.out.below F RVw.out.lt
              have rq := KK.c4
              have q0 := rq.1
              have q1 := rq.2.1
              have q2 := rq.2.2.1
              have q3 := rq.2.2.2
              have hlq := KK.lt
              have bx := bcell F
              have xx := HXC.out
              have x0 := (bx.1 b _ HBM.out).trans xx.1
              have x1 := (bx.1 b _ HBM.out).trans xx.2.1
              have x2 := (bx.1 b _ HBM.out).trans xx.2.2.1
              have x3 := (bx.1 b _ HBM.out).trans xx.2.2.2
              clear KK rq bx xx
              have hsz := HSZ.out
              go_simp
              exact hK.out _ w9 (Pl.fix rfl) (F)
            refine RelFrom.run rfl (fun L vals A w9 hno hdl hcl hu hp h0 F K hK => ?_) ?_
            · have e1 : A.tmps[1]?.getD undef = .slice (some ⟨b, off, none⟩) n cp := h0 1 (fun j _ hj => absurd (List.mem_of_getElem? hj) (by decide))
              clear hu h0 hp
              have KK := RVw.out.below F RVw.out.lt
              have rq := KK.c4
              have q0 := rq.1
              have q1 := rq.2.1
              have q2 := rq.2.2.1
              have q3 := rq.2.2.2
              have hlq := KK.lt
              have bx := bcell F
              have xx := HXC.out
              have x0 := (bx.1 b _ HBM.out).trans xx.1
              have x1 := (bx.1 b _ HBM.out).trans xx.2.1
              have x2 := (bx.1 b _ HBM.out).trans xx.2.2.1
              have x3 := (bx.1 b _ HBM.out).trans xx.2.2.2
              clear KK rq bx xx
              have hsz := HSZ.out
              go_simp
              exact hK.out _ w9 (Pl.fix rfl) (F)
            refine RelFrom.run rfl (fun L vals A w9 hno hdl hcl hu hp h0 F K hK => ?_) ?_
            · have e6 : A.tmps[6]?.getD undef = .int .i64 (k : Int) := h0 6 (fun j _ hj => absurd (List.mem_of_getElem? hj) (by decide))
              clear hu h0 hp
              have KK := RVw.out.below F RVw.out.lt
              have rq := KK.c4
              have q0 := rq.1
              have q1 := rq.2.1
              have q2 := rq.2.2.1
              have q3 := rq.2.2.2
              have hlq := KK.lt
              have bx := bcell F
              have xx := HXC.out
              have x0 := (bx.1 b _ HBM.out).trans xx.1
              have x1 := (bx.1 b _ HBM.out).trans xx.2.1
              have x2 := (bx.1 b _ HBM.out).trans xx.2.2.1
              have x3 := (bx.1 b _ HBM.out).trans xx.2.2.2
              clear KK rq bx xx
              have hsz := HSZ.out
              go_simp
              exact hK.out _ w9 (Pl.fix rfl) (F)
            refine RelFrom.run rfl (fun L vals A w9 hno hdl hcl hu hp h0 F K hK => ?_) ?_
            · have e37 : A.tmps[37]?.getD undef = .slice (some ⟨b, off, none⟩) n cp := (hu 2 37 (by kernel_rfl) rfl).trans (hp 2 (by kernel_rfl) _ rfl)
              have e38 : A.tmps[38]?.getD undef = .int .i64 (k : Int) := (hu 3 38 (by kernel_rfl) rfl).trans (hp 3 (by kernel_rfl) _ rfl)
              clear hu h0 hp
              have KK := RVw.out.below F RVw.out.lt
              have rq := KK.c4
              have q0 := rq.1
              have q1 := rq.2.1
              have q2 := rq.2.2.1
              have q3 := rq.2.2.2
              have hlq := KK.lt
              have bx := bcell F
              have xx := HXC.out
              have x0 := (bx.1 b _ HBM.out).trans xx.1
              have x1 := (bx.1 b _ HBM.out).trans xx.2.1
              have x2 := (bx.1 b _ HBM.out).trans xx.2.2.1
              have x3 := (bx.1 b _ HBM.out).trans xx.2.2.2
              clear KK rq bx xx
              have hsz := HSZ.out
              go_simp
              exact hK.out _ w9 (Pl.fix rfl) (F)
            refine RelFrom.run rfl (fun L vals A w9 hno hdl hcl hu hp h0 F K hK => ?_) ?_
            · have e39 : A.tmps[39]?.getD undef = .pointer (some ⟨b, off + k * 4, none⟩) := (hu 4 39 (by kernel_rfl) rfl).trans (hp 4 (by kernel_rfl) _ rfl)
              clear hu h0 hp
              have KK := RVw.out.below F RVw.out.lt
              have rq := KK.c4
              have q0 := rq.1
              have q1 := rq.2.1
              have q2 := rq.2.2.1
              have q3 := rq.2.2.2
              have hlq := KK.lt
              have bx := bcell F
              have xx := HXC.out
              have x0 := (bx.1 b _ HBM.out).trans xx.1
              have x1 := (bx.1 b _ HBM.out).trans xx.2.1
              have x2 := (bx.1 b _ HBM.out).trans xx.2.2.1
              have x3 := (bx.1 b _ HBM.out).trans xx.2.2.2
              clear KK rq bx xx
              have hsz := HSZ.out
              go_simp
              exact hK.out _ w9 (Pl.fix rfl) (F)
            refine RelFrom.run rfl (fun L vals A w9 hno hdl hcl hu hp h0 F K hK => ?_) ?_
            · have e36 : A.tmps[36]?.getD undef = .agg #[.int .i64 v.p, .int .i64 v.c, .int .i64 v.h, .int .i64 v.s] := (hu 1 36 (by kernel_rfl) rfl).trans (hp 1 (by kernel_rfl) _ rfl)
              have e40 : A.tmps[40]?.getD undef = .agg #[.int .i64 f, .int .i64 t, .int .i64 d, .bool h] := (hu 5 40 (by kernel_rfl) rfl).trans (hp 5 (by kernel_rfl) _ rfl)
              clear hu h0 hp
              go_simp
              refine (CT.out w9).mono ?_
              rintro e w6 ⟨rfl, hb6⟩
              exact hK.out _ w6 (Pl.fix rfl) (F.trans (hb6.mono F.size))
            refine RelFrom.run rfl (fun L vals A w9 hno hdl hcl hu hp h0 F K hK => ?_) ?_
            · have e35 : A.tmps[35]?.getD undef = .string sj := (hu 0 35 (by kernel_rfl) rfl).trans (hp 0 (by kernel_rfl) _ rfl)
              have e41 : A.tmps[41]?.getD undef = .string st := (hu 6 41 (by kernel_rfl) rfl).trans (hp 6 (by kernel_rfl) _ rfl)
              clear hu h0 hp
              have KK := RVw.out.below F RVw.out.lt
              have rq := KK.c4
              have q0 := rq.1
              have q1 := rq.2.1
              have q2 := rq.2.2.1
              have q3 := rq.2.2.2
              have hlq := KK.lt
              have bx := bcell F
              have xx := HXC.out
              have x0 := (bx.1 b _ HBM.out).trans xx.1
              have x1 := (bx.1 b _ HBM.out).trans xx.2.1
              have x2 := (bx.1 b _ HBM.out).trans xx.2.2.1
              have x3 := (bx.1 b _ HBM.out).trans xx.2.2.2
              clear KK rq bx xx
              have hsz := HSZ.out
              go_simp
              exact hK.out _ w9 (Pl.fix rfl) (F)
            refine RelFrom.run rfl (fun L vals A w9 hno hdl hcl hu hp h0 F K hK => ?_) ?_
            · have e42 : A.tmps[42]?.getD undef = .string (sj ++ st) := (hu 7 42 (by kernel_rfl) rfl).trans (hp 7 (by kernel_rfl) _ rfl)
              clear hu h0 hp
              have KK := RVw.out.below F RVw.out.lt
              have rq := KK.c4
              have q0 := rq.1
              have q1 := rq.2.1
              have q2 := rq.2.2.1
              have q3 := rq.2.2.2
              have hlq := KK.lt
              have bx := bcell F
              have xx := HXC.out
              have x0 := (bx.1 b _ HBM.out).trans xx.1
              have x1 := (bx.1 b _ HBM.out).trans xx.2.1
              have x2 := (bx.1 b _ HBM.out).trans xx.2.2.1
              have x3 := (bx.1 b _ HBM.out).trans xx.2.2.2
              clear KK rq bx xx
              have hsz := HSZ.out
              go_simp
              exact hK.out _ w9 (Pl.fix rfl) (F)
            exact RelFrom.nil (by decide)
          case gfin_2 =>
            intro vals w9 hp F
            simp only [Fr, Act.put, List.setIfInBounds_toArray, List.set_cons_zero, List.set_cons_succ, Nat.reduceAdd]
            have h8 : vals 8 = .string (sj ++ st) := hp 8 (by decide) _ rfl
            rw [h8, HN1.out]
            have hbn := Lib.hid (hbn.out.trans (F.mono hbn.out.size))
            clear F hp h8 CT
            go_wp2_with fail
            go_roundw
            case rel => exact ⟨k + 1, by omega, by go_num, rfl, hbn, HQ, hjl2⟩
            case measure => simp [intOf]; omega
    · obtain rfl : k = n := by omega
      have hall : allPl v ss = true := by
        unfold allPl
        rw [List.all_eq_true]
        intro s hs
        exact hpl.out s (by rw [List.take_of_length_le (by rw [HN.out]; exact Nat.le_refl _)]; exact hs)
      have hRj : jn v ss k = R := by rw [HT.out, if_pos hall]; unfold jn; rw [List.take_of_length_le (by rw [HN.out]; exact Nat.le_refl _)]
      rw [hRj]
      clear HT hall hRj hjl
      go_wp2_with fail
      go_ret
      exact ⟨rfl, HB1.out.trans (hb.out.mono HB1.out.size)⟩
end Go.Proofs.YtlfdcefgelpgmaaGreatDoor.TsI
